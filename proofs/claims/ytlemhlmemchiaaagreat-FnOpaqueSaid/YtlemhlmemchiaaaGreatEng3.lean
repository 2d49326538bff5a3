/- The abstract machine, part 3: a reflective interpreter of the program's code over data, with its soundness over the model. -/
import Derived.Test.YtlemhlmemchiaaaGreatEng2
open Option renaming bind_assoc→Xgp,map→Xfl,bind_some→Xd,getD_some→Xeb,bind_eq_some_iff→Xcb,map_eq_some_iff→Xab
open Bool renaming not_true→Xs,and_eq_true→Xi,not_eq_true'→Xar,false_eq_true→Xbp,or_eq_true→Xcl
open List renaming mem_map→Xv,mem_cons_of_mem→Xe,mem_append_left→Xk,mem_append_right→Xg,mem_cons→Xq,mem_cons_self→Xh,length_append→Xae,getD_eq_getElem?_getD→Xac,getElem?_append→Xaz,getElem?_cons_zero→Xdq,getElem?_eq_none→Xbg,all_eq_true→Xak,append_of_mem→Xei,mem_append→Xl,range→Xdl,mem_filter→Xat,mem_range→Xel,filter_cons→Xbj,eq_nil_of_length_eq_zero→Xad,eq_nil_iff_forall_not_mem→Xev,nodup_nil→Xcu,mem_of_getElem?→Xaw,nodup_cons→Xaj,nil_append→Xby,cons_append→Xbd,length_filter_le→Xet,length_range→Xfk,mem_flatMap→Xfo,map_cons→Xam,map_map→Xeh,map_congr_left→Xdp,append_nil→Xcz,nodup_append→Xah,filter_append→Xcv,prefix_append→Xgk,map_append→Xr,map_nil→Xcg,mem_erase_of_ne→Xgb,length_erase_of_mem→Xeg,length_pos_of_mem→Xfv,length_cons→Xw,getElem?_cons_succ→Xdr,getElem?_eq_some_iff→Xt,getElem?_append_right→Xay,getElem?_tail→Xcj,mapM_cons→Xfd,pairwise_singleton→Xbf,mem_singleton→Xx,take_of_length_le→Xbx,getElem?_eq_getElem→Xp,drop_zero→Xcf,tail_cons→Xek,getElem?_map→Xap,length→Xc,sum_cons→Xdb
open Nat renaming sub_self→Xde,blt_eq→Xgy,le_refl→Xn,zero_add→Xba,zero_le→Xbr,sub_zero→Xdf,beq→Xbv,le_trans→Xcr,add_zero→Xbb,add_sub_cancel_left→Xbe,le_of_ble_eq_true→Xga,add_mul→Xcy,zero_mul→Xey
open Array renaming getD_eq_getD_getElem?→Xcp,getElem?_setIfInBounds→Xfc,getElem?_eq_getElem→Xdk,getElem?_eq_some_iff→Xdi,replicate→Xee
namespace Go.Sx
set_option linter.unusedVariables false
set_option linter.unusedSimpArgs false
abbrev Out:=AVal×Wab×Nat
def WcE(x:AVal)(objs:Wab)(nx:Nat):Option Out:=some (x,objs,nx)
section
variable{T:Tab}{Γ:Ctx}{A:List (Nat×An)}
theorem WaS{α β:Type}{c:Prop}[Decidable c]{x:Option α}{f:α->Option β}:(if c then x else none).bind f=if c then x.bind f else none:=by split<;>rfl
theorem Wb9{α β:Type}{c:Bool}{x:Option α}{f:α->Option β}:(bif c then x else none).bind f=bif c then x.bind f else none:=by cases c<;>rfl
theorem Wft{R:Type}(sg:Sig)(st:St)(xs:List AVal)(k:KV R):WeU sg st xs k=(WeU sg st xs WcE).bind λp=>k p.1 p.2.1 p.2.2:=by
 unfold WeU;split
 .split
  .rw[sg.law,sg.law,Xgp];rfl
  .rfl
 .rfl
theorem Wps{R:Type}(sg:Sig)(st:St)(xs:List AVal)(k:KV R):Wlg sg st xs k=(Wlg sg st xs WcE).bind λp=>k p.1 p.2.1 p.2.2:=by
 unfold Wlg;cases sg.fresh with
 |true=>exact Wft _ _ _ _
 |false=>
  simp only[cond_false];split
  .split
   .exact Wft _ _ _ _
   .exact Wft _ _ _ _
  .rfl
theorem Wk8{R:Type}(st:St)(te:Ty)(s x:AVal)(k:KV R):Wer st te s x k=(Wer st te s x WcE).bind λp=>k p.1 p.2.1 p.2.2:=by
 unfold Wer;split
 .split
  .split
   .split
    .rw[Wb9];rfl
    .rfl
   .rfl
  .rfl
 .split
  .split
   .split
    .rw[WaS,Wb9];rfl
    .rfl
   .rfl
  .rfl
 .rfl
theorem WlQ{R:Type}(st:St)(e:Ty)(ps:List (Nat×AVal))(k:KV R):Wde st e ps k=(Wde st e ps WcE).bind λp=>k p.1 p.2.1 p.2.2:=by
 unfold Wde;split
 .rw[WaS];split
  .split
   .split
    .rw[WaS];rfl
    .rfl
   .rfl
  .rfl
 .rfl
theorem Wm2{R:Type}(st:St)(te:Ty)(id:Nat)(l h:Option Int)(k:KV R):WeV st te id l h k=(WeV st te id l h WcE).bind λp=>k p.1 p.2.1 p.2.2:=by
 unfold WeV;split
 .rw[WaS,Wb9];rfl
 .rfl
theorem WkH{R:Type}(st:St)(t t2:TypeId)(s x:AVal)(k:KV R):WdL T st t t2 s x k=(WdL T st t t2 s x WcE).bind λp=>k p.1 p.2.1 p.2.2:=by
 unfold WdL;split
 .split
  .split
   .cases Wtn st s x with
    |false=>exact Wk8 _ _ _ _ _
    |true=>
    simp only[Xs,cond_false];split
    .rw[Wb9];rfl
    .split
     .split
      .rw[Wb9];rfl
      .rfl
     .rfl
    .split
     .split
      .rw[Wb9];rfl
      .rfl
     .rfl
    .rfl
   .rfl
  .rfl
 .rfl
theorem WuO{R:Type}(p:Option (Bool×AVal))(objs:Wab)(nx:Nat)(k:KV R):(match p with|some (c,v)=>bif c then k v objs nx else none|none=>none)=(match p with|some (c,v)=>bif c then WcE v objs nx else none|none=>none).bind λp=>k p.1 p.2.1 p.2.2:=by
 rcases p with _|⟨c,v⟩
 .rfl
 .cases c<;>rfl
theorem WfJ{R:Type}(o:Oper)(st:St)(k:KV R):rxe T Γ A o st k=(rxe T Γ A o st WcE).bind λp=>k p.1 p.2.1 p.2.2:=by
 unfold rxe;split
 .split
  .rw[WaS];rfl
  .rw[WaS];rfl
  .rfl
 .split<;>rfl
 .split
  .split
   .split<;>rfl
   .rfl
  .rfl
 .split
  .split
   .split
    .rw[WaS];split
     .exact WlQ _ _ _ _
     .rfl
    .split
     .rw[WaS];rfl
     .rfl
   .rfl
  .rfl
 .split
  .split
   .split
    .rw[WaS,Wb9];rfl
    .rw[WaS,Wb9];rfl
   .rfl
  .rfl
 .split
  .split
   .split<;>rfl
   .rfl
  .rfl
 .split
  .split
   .split
    .split
     .rw[WaS];split
      .exact Wm2 _ _ _ _ _ _
      .rfl
     .split
      .rw[WaS,Wb9];rfl
      .rw[WaS,Wb9];rfl
      .rfl
    .rfl
   .rfl
  .exact WuO _ _ _ _
 .split
  .split
   .exact WkH _ _ _ _ _ _
   .rfl
  .split
   .split
    .split
     .rw[WaS];rfl
     .rfl
    .rfl
   .rfl
  .exact WuO _ _ _ _
  .split
   .split
    .exact Wps _ _ _ _
    .rfl
   .rfl
  .rfl
 .exact WuO _ _ _ _
end
section
variable{T:Tab}{Γ:Ctx}{A:List (Nat×An)}
theorem Wm0{st:St}{env:List (Nat×AVal)}{t:TypeId}{x v:AVal}:WcF T {env:=env,objs:=st.objs,nx:=st.nx} t x v=(WcF T st t x v).map λs=>{env:=env,objs:=s.objs,nx:=s.nx}:=by
 unfold WcF;generalize look T t=q;generalize WgF v=z;rcases q with _|te
 .rfl
 rcases z with _|ds
 .rcases x with(c|cs)|xs
  .cases c<;>rfl
  .rfl
  .rfl
 rcases x with(c|cs)|xs
 .cases c with
  |ptr id off=>
   show(match look st.objs id with|some (.box cs)=>_|_=>_)=Xfl _ (match look st.objs id with|some (.box cs)=>_|_=>_);generalize look st.objs id=ob;rcases ob with _|ob
   .rfl
   cases ob with
   |box cs=>
    show(if _ then _ else _)=Xfl _ (if _ then _ else _);split<;>rfl
   |arr e xs=>rfl
   |hole e xs i p=>rfl
   |dead=>rfl
  |eptr id i off=>
   show(match look st.objs id with|some (.arr e xs)=>_|_=>_)=Xfl _ (match look st.objs id with|some (.arr e xs)=>_|_=>_);generalize look st.objs id=ob;rcases ob with _|ob
   .rfl
   cases ob with
   |box cs=>rfl
   |hole e xs i p=>rfl
   |dead=>rfl
   |arr e xs=>
    show(if _ then _ else _)=Xfl _ (if _ then _ else _);by_cases hc:(decide (te.ty.size=ds.length)&&te.plain&&decide (off+ds.length<=e.size)&&e.data)=true
    .rw[if_pos hc,if_pos hc];generalize Wao e (WdV (split e (List.getD xs i e.dflt)) off ds) st.objs=r;rcases r with _|⟨d,m,l⟩
     .rfl
     .cases m<;>cases l<;>rfl
    .rw[if_neg hc,if_neg hc];by_cases ep:(decide (te.ty.size=ds.length)&&te.plain&&decide (off=0)&&decide (ds.length=e.size))=true
     .rw[if_pos ep,if_pos ep];generalize Wao e ds st.objs=r;rcases r with _|⟨d,m,l⟩
      .rfl
      .cases l with
       |nil=>
        show(if _ then _ else _)=Xfl _ (if _ then _ else _);split<;>rfl
       |cons _ _=>rfl
     .rw[if_neg ep,if_neg ep];rfl
  |_=>rfl
 .rfl
 .rfl
theorem Wqj{R:Type}(o:Oper){st:St}{env:List (Nat×AVal)}(k:KV R)(he:∀x∈W8 o.op,ev {env:=env,objs:=st.objs,nx:=st.nx} x=ev st x):
  rxe T Γ A o {env:=env,objs:=st.objs,nx:=st.nx} k=rxe T Γ A o st k:=by
 have bu:(∀t x l h m,o.op≠ .slice t x l h m)->Wad T {env:=env,objs:=st.objs,nx:=st.nx} o.op=Wad T st o.op:=λhm=>Whb o.op hm he (λ_ _ _ _ _ _ _=>rfl);obtain⟨dst,op,type,pos,after,guard⟩:=o;simp only at he bu;cases op with
 |alloc t=>rfl
 |box t x=>simp only[rxe,he x (by simp[W8])]
 |build t parts=>simp only[rxe,Wcu (st:=st) parts.toList λp hp=>he p.2 (by simp only[W8];exact Xv.2 ⟨p,hp,rfl⟩)]
 |buildSlice t n parts=>
  have e1:∀e ps,Wde {env:=env,objs:=st.objs,nx:=st.nx} e ps k=Wde st e ps k:=λ_ _=>rfl;simp only[rxe,e1,Wcu (st:=st) parts.toList λp hp=>he p.2 (by simp only[W8];exact Xv.2 ⟨p,hp,rfl⟩)]
 |makeSlice t n c=>simp only[rxe,he n (by simp[W8]),he c (by simp[W8])]
 |store t a x=>
  simp only[rxe,he a (by simp[W8]),he x (by simp[W8])];split
  .rename_i p v _ _;have e:=Wm0 (T:=T) (st:={env:=st.env,objs:=WdB st.objs (Wfo st.objs p v),nx:=st.nx}) (env:=env) (t:=t) (x:=p) (v:=WgQ st.objs (Wfo st.objs p v) v);simp only at e;rw[e];cases WcF T {env:=st.env,objs:=WdB st.objs (Wfo st.objs p v),nx:=st.nx} t p (WgQ st.objs (Wfo st.objs p v) v)<;>rfl
  .rfl
 |slice t x lo hi m=>
  have hx:=he x (by simp[W8]);have ba:=WiY (st:=st) (am:={env:=env,objs:=st.objs,nx:=st.nx}) lo λy hy=>he y (by simp only[W8];exact Xe _ (Xk _ hy));have oo:=WiY (st:=st) (am:={env:=env,objs:=st.objs,nx:=st.nx}) hi λy hy=>he y (by simp only[W8];exact Xe _ (Xg _ (Xk _ hy)));cases m with
  |none=>
   have hp:Wad T {env:=env,objs:=st.objs,nx:=st.nx} (.slice t x lo hi none)=Wad T st (.slice t x lo hi none):=by
    simp only[Wad,hx];refine WbV λv _=>?_;simp only[Wj5,ba,oo]
   have e1:∀te id l h,WeV {env:=env,objs:=st.objs,nx:=st.nx} te id l h k=WeV st te id l h k:=λ_ _ _ _=>rfl;simp only[rxe,hx,ba,oo,hp,e1]
  |some y=>rfl
 |call c=>
  have hargs:=WlV (st:=st) (am:={env:=env,objs:=st.objs,nx:=st.nx}) c.args.toList λx hx=>he x (by simp only[W8];exact Xg _ hx);have hp:=bu (λ_ _ _ _ _ h=>by cases h);simp only[rxe];split
  .rename_i s x t t2 hc ha cZ;have h1:ev {env:=env,objs:=st.objs,nx:=st.nx} s=ev st s:=he s (by simp only[W8];rw[ha];exact Xg _ (by simp));have h2:ev {env:=env,objs:=st.objs,nx:=st.nx} x=ev st x:=he x (by simp only[W8];rw[ha];exact Xg _ (by simp));rw[h1,h2];rfl
  .rename_i x t hc ha cZ;have h1:ev {env:=env,objs:=st.objs,nx:=st.nx} x=ev st x:=he x (by simp only[W8];rw[ha];exact Xg _ (by simp));rw[h1]
  .rw[hp]
  .rename_i f hc;have h1:ev {env:=env,objs:=st.objs,nx:=st.nx} f=ev st f:=he f (by simp only[W8];rw[hc];exact Xk _ (by simp));rw[h1,hargs];rfl
  .rfl
 |move x=>simp only[rxe,bu (λ_ _ _ _ _ h=>by cases h)]
 |assign x=>simp only[rxe,bu (λ_ _ _ _ _ h=>by cases h)]
 |pick c a b=>simp only[rxe,bu (λ_ _ _ _ _ h=>by cases h)]
 |load t a=>simp only[rxe,bu (λ_ _ _ _ _ h=>by cases h)]
 |nilCheck x=>simp only[rxe,bu (λ_ _ _ _ _ h=>by cases h)]
 |binOp op t x y z=>simp only[rxe,bu (λ_ _ _ _ _ h=>by cases h)]
 |unOp op t x=>simp only[rxe,bu (λ_ _ _ _ _ h=>by cases h)]
 |convert s d x=>simp only[rxe,bu (λ_ _ _ _ _ h=>by cases h)]
 |fieldAddr s x f=>simp only[rxe,bu (λ_ _ _ _ _ h=>by cases h)]
 |field t x f=>simp only[rxe,bu (λ_ _ _ _ _ h=>by cases h)]
 |indexAddr t x i=>simp only[rxe,bu (λ_ _ _ _ _ h=>by cases h)]
 |index t x i=>simp only[rxe,bu (λ_ _ _ _ _ h=>by cases h)]
 |extract t ix=>simp only[rxe,bu (λ_ _ _ _ _ h=>by cases h)]
 |makeFunc f first captured=>simp only[rxe,bu (λ_ _ _ _ _ h=>by cases h)]
 |_=>rfl
def Wua(T:Tab)(o:Oper)(st:St):Option AVal:=match o.op with
 | .build t parts=>match look T t,Wcr st parts.toList with
  |some ⟨ty,true,.struct fs⟩,some ps=>
   if fs.all (λf=>match look T f.2 with|some te=>te.plain|none=>false)then
    match Wl3 T fs ps (Wej ty)with
    |some cs=>some (.s (.agg cs))
    |none=>none
   else none
  |_,_=>none
 |op=>match Wad T st op with
  |some (c,v)=>bif c then some v else none
  |none=>none
theorem Wvs(p:Option (Bool×AVal))(objs:Wab)(nx:Nat):(match p with|some (c,v)=>bif c then WcE v objs nx else none|none=>none)=(match p with|some (c,v)=>bif c then some v else none|none=>none).bind λv=>WcE v objs nx:=by
 rcases p with _|⟨c,v⟩
 .rfl
 .cases c<;>rfl
theorem WlR{o:Oper}(hm:WaG o=false)(st:St):rxe T Γ A o st WcE=(Wua T o st).bind λv=>WcE v st.objs st.nx:=by
 obtain⟨dst,op,type,pos,after,guard⟩:=o;cases op with
 |alloc t=>cases hm
 |box t x=>cases hm
 |buildSlice t n parts=>cases hm
 |makeSlice t n c=>cases hm
 |store t a x=>cases hm
 |slice t x lo hi m=>cases hm
 |build t parts=>
  simp only[rxe,Wua];generalize look T t=q;generalize Wcr st parts.toList=z;rcases q with _|⟨ty,agg,shape⟩
  .rfl
  rcases z with _|ps
  .cases agg<;>cases shape<;>rfl
  cases agg with
  |false=>rfl
  |true=>
   cases shape with
   |struct fs=>
    show(if _ then _ else _)=Option.bind (if _ then _ else _) _;rw[WaS];cases Wl3 T fs ps (Wej ty)<;>rfl
   |_=>rfl
 |call c=>
  simp only[rxe,Wua];split
  .rename_i hc _ _;simp only[WaG,hc]at hm;cases hm
  .rename_i hc _ _;simp only[WaG,hc]at hm;cases hm
  .exact Wvs _ _ _
  .rename_i hc;simp only[WaG,hc]at hm;cases hm
  .rename_i h0 h1 h2 h3;have:Wad T st (.call c)=none:=by
    simp only[Wad];split
    .rename_i hc _ _;first|exact absurd hc (h0 _)|exact absurd hc (h1 _)|exact absurd hc (h2 _)|exact absurd hc (h3 _)
    .rename_i hc _ _;first|exact absurd hc (h0 _)|exact absurd hc (h1 _)|exact absurd hc (h2 _)|exact absurd hc (h3 _)
    .rename_i hc _ _;first|exact absurd hc (h0 _)|exact absurd hc (h1 _)|exact absurd hc (h2 _)|exact absurd hc (h3 _)
    .rfl
   rw[this];rfl
 |_=>first|rfl|exact Wvs (Wad T st _) st.objs st.nx
theorem Wpj{o:Oper}(hm:WaG o=false){st am:St}(he:∀x∈W8 o.op,ev am x=ev st x)(hl:Wuy o.op=true->∀x∈W8 o.op,∀v,ev st x=some v->WdU st am v):Wua T o am=Wua T o st:=by
 have bu:(∀t x l h m,o.op≠ .slice t x l h m)->Wad T am o.op=Wad T st o.op:=λhm=>Whb o.op hm he hl;obtain⟨dst,op,type,pos,after,guard⟩:=o;simp only at he bu;cases op with
 |slice t x lo hi m=>cases hm
 |build t parts=>simp only[Wua,Wcu (st:=st) parts.toList λp hp=>he p.2 (by simp only[W8];exact Xv.2 ⟨p,hp,rfl⟩)]
 |_=>simp only[Wua,bu (λ_ _ _ _ _ h=>by cases h)]
theorem WcH(objs:Wab):∀l,∃pre,kill objs l=pre++objs
 | []=>⟨[],rfl⟩
 |i::l=>by
  obtain⟨pre,h⟩:=WcH objs l;exact⟨(i,.dead)::pre,by simp only[kill,h];rfl⟩
theorem W9:∀(ps:List PTy) (o:WfB ps) (ids:List Kp) (objs:Wab) (nx:Nat),∃pre,(Wac ps o ids objs nx).1=pre++objs
 | [],_,_,objs,_=>⟨[],rfl⟩
 | .v _ _::ps,o,ids,objs,nx=>W9 ps o ids objs nx
 | .rp _::ps,o,ids,objs,nx=>W9 ps o ids objs nx
 | .box t::ps,o,ids,objs,nx=>by
  cases ids with
  |nil=>exact⟨[],rfl⟩
  |cons k ids=>
   obtain⟨pre,h⟩:=W9 ps o.2 ids ((k.id,WgV (look objs k.id) k.off (unfold t o.1 nx).1)::((unfold t o.1 nx).2.1++objs)) (unfold t o.1 nx).2.2;exact⟨pre++(k.id,WgV (look objs k.id) k.off (unfold t o.1 nx).1)::(unfold t o.1 nx).2.1,by simp only[Wac,h];simp⟩
 | .vj _::ps,o,ids,objs,nx=>W9 ps o ids objs nx
 | .boxal t _::ps,o,ids,objs,nx=>by
  cases ids with
  |nil=>exact⟨[],rfl⟩
  |cons k ids=>
   obtain⟨pre,h⟩:=W9 ps o.2 ids ((k.id,WgV (look objs k.id) k.off (unfold t o.1 nx).1)::((unfold t o.1 nx).2.1++objs)) (unfold t o.1 nx).2.2;exact⟨pre++(k.id,WgV (look objs k.id) k.off (unfold t o.1 nx).1)::(unfold t o.1 nx).2.1,by simp only[Wac,h];simp⟩
 | .mut e::ps,o,ids,objs,nx=>by
  cases ids with
  |nil=>exact⟨[],rfl⟩
  |cons k ids=>
   obtain⟨pre,h⟩:=W9 ps o.2 ids ((k.id,.arr e o.1)::objs) nx;exact⟨pre++ [(k.id,.arr e o.1)],by simp only[Wac,h];simp⟩
 | .clos _ _::ps,o,ids,objs,nx=>W9 ps o ids objs nx
 | .kv t _::ps,o,ids,objs,nx=>by
  obtain⟨pre,h⟩:=W9 ps o.2 (ids.drop t.owns) (Wcc t o.1 ((ids.take t.owns).map Kp.id)++objs) nx;exact⟨pre++Wcc t o.1 ((ids.take t.owns).map Kp.id),by simp only[Wac,h];simp⟩
theorem Waj:∀(rs:List PTy) (d:Wgw rs) (objs:Wab) (nx:Nat),∃pre,(Wbi rs d objs nx).2.1=pre++objs
 | [],_,objs,_=>⟨[],rfl⟩
 | .v t agg::rs,d,objs,nx=>by
  obtain⟨pre,h⟩:=Waj rs d.2 ((unfold t d.1 nx).2.1++objs) (unfold t d.1 nx).2.2;exact⟨pre++(unfold t d.1 nx).2.1,by simp only[Wbi,h];simp⟩
 | .box t::rs,d,objs,nx=>by
  obtain⟨pre,h⟩:=Waj rs d.2 ((nx,.box (unfold t d.1 (nx+1)).1)::((unfold t d.1 (nx+1)).2.1++objs)) (unfold t d.1 (nx+1)).2.2;exact⟨pre++(nx,.box (unfold t d.1 (nx+1)).1)::(unfold t d.1 (nx+1)).2.1,by simp only[Wbi,h];simp⟩
 | .mut _::rs,d,objs,nx=>Waj rs d objs nx
 | .clos _ _::rs,d,objs,nx=>Waj rs d objs nx
 | .kv _ _::rs,d,objs,nx=>Waj rs d objs nx
 | .rp _::rs,d,objs,nx=>Waj rs d objs nx
 | .vj t::rs,d,objs,nx=>by
  obtain⟨pre,h⟩:=Waj rs d.2 ((unfold t d.1 nx).2.1++objs) (unfold t d.1 nx).2.2;exact⟨pre++(unfold t d.1 nx).2.1,by simp only[Wbi,h];simp⟩
 | .boxal _ _::rs,d,objs,nx=>Waj rs d objs nx
def Suf(objs:Wab)(r:Option Out):Prop:=∀x objs' nx,r=some (x,objs',nx)->∃pre,objs'=pre++objs
theorem Suf.none{objs:Wab}:Suf objs none:=λ_ _ _ h=>by cases h
theorem Suf.out{objs pre:Wab}{x:AVal}{nx:Nat}:Suf objs (WcE x (pre++objs) nx):=λ_ _ _ h=>by
 injection h with h;have:=congrArg (λp:Out=>p.2.1) h;exact⟨pre,this.symm⟩
theorem Suf.ite{objs:Wab}{c:Prop}[Decidable c]{r:Option Out}(h:Suf objs r):Suf objs (if c then r else Option.none):=by split;exact h;exact .none
theorem Suf.bif{objs:Wab}{c:Bool}{r:Option Out}(h:Suf objs r):Suf objs (bif c then r else Option.none):=by cases c;exact .none;exact h
theorem WiA{st ah:St}{t:TypeId}{x v:AVal}(h:WcF T st t x v=some ah):∃pre,ah.objs=pre++st.objs:=by
 unfold WcF at h;split at h
 .split at h
  .split at h
   .injection h with h;subst h;exact⟨[_],rfl⟩
   .cases h
  .cases h
 .split at h
  .split at h
   .split at h
    .injection h with h;subst h;exact⟨[_],rfl⟩
    .cases h
   .split at h
    .split at h
     .rename_i m _;split at h
      .injection h with h;subst h;obtain⟨pre,hp⟩:=WcH st.objs m;exact⟨_::pre,by simp only[hp];rfl⟩
      .cases h
     .cases h
    .cases h
  .cases h
 .cases h
theorem WnI(p:Option (Bool×AVal))(objs:Wab)(nx:Nat):Suf objs (match p with|some (c,v)=>bif c then WcE v objs nx else none|none=>none):=by
 rcases p with _|⟨c,v⟩
 .exact .none
 .exact Suf.bif (Suf.out (pre:=[]))
theorem WdI(sg:Sig)(st:St)(xs:List AVal):Suf st.objs (WeU sg st xs WcE):=by
 unfold WeU;split
 .rename_i A _;split
  .intro x objs' nx h;rw[sg.law]at h;cases hr:sg.run A.d with
   |none=>rw[hr]at h;cases h
   |some out=>
    rw[hr]at h;simp only[Xd]at h;injection h with h;have h2:=congrArg (λp:Out=>p.2.1) h;simp only at h2;obtain⟨p1,e1⟩:=WcH st.objs A.moved;obtain⟨p2,e2⟩:=W9 sg.ps out.1 A.kept (kill st.objs A.moved) st.nx;obtain⟨p3,e3⟩:=Waj sg.rs out.2 (Wac sg.ps out.1 A.kept (kill st.objs A.moved) st.nx).1 (Wac sg.ps out.1 A.kept (kill st.objs A.moved) st.nx).2;refine⟨p3++(p2++p1),?_⟩;rw[←h2,e3,e2,e1];simp
  .exact .none
 .exact .none
theorem Suf.over{objs:Wab}{l:List Nat}{r:Option Out}(h:Suf (kill objs l) r):Suf objs r:=λx objs' nx hr=>by
 obtain⟨p1,e1⟩:=h x objs' nx hr;obtain⟨p2,e2⟩:=WcH objs l;exact⟨p1++p2,by rw[e1,e2];simp⟩
theorem Wmr(sg:Sig)(st:St)(xs:List AVal):Suf st.objs (Wlg sg st xs WcE):=by
 unfold Wlg;cases sg.fresh with
 |true=>exact WdI _ _ _
 |false=>
  simp only[cond_false];split
  .split
   .exact WdI _ _ _
   .exact Suf.over (WdI sg {env:=st.env,objs:=kill st.objs _,nx:=st.nx} _)
  .exact .none
theorem Wns{objs:Wab}{x:AVal}{p:Nat×Ob}{l:List Nat}{nx:Nat}:Suf objs (WcE x (p::kill objs l) nx):=by
 obtain⟨pre,h⟩:=WcH objs l;rw[h];exact Suf.out (pre:=p::pre)
theorem WiJ(st:St)(te:Ty)(s x:AVal):Suf st.objs (Wer st te s x WcE):=by
 unfold Wer;split
 .split
  .split
   .split
    .exact Suf.bif Wns
    .exact .none
   .exact .none
  .exact .none
 .split
  .split
   .split
    .exact Suf.ite (Suf.bif Wns)
    .exact .none
   .exact .none
  .exact .none
 .exact .none
theorem WiC(st:St)(e:Ty)(ps:List (Nat×AVal)):Suf st.objs (Wde st e ps WcE):=by
 unfold Wde;split
 .refine Suf.ite ?_;split
  .split
   .exact Suf.ite (Suf.over Wns)
   .exact .none
  .exact .none
 .exact .none
theorem WkT(st:St)(te:Ty)(id:Nat)(l h:Option Int):Suf st.objs (WeV st te id l h WcE):=by
 unfold WeV;split
 .exact Suf.ite (Suf.bif (Suf.out (pre:=[])))
 .exact .none
theorem Wpe(o:Oper)(st:St):Suf st.objs (rxe T Γ A o st WcE):=by
 unfold rxe;split
 .split
  .exact Suf.ite (Suf.out (pre:=[_]))
  .exact Suf.ite (Suf.out (pre:=[_]))
  .exact .none
 .split
  .exact Suf.out (pre:=[_])
  .exact .none
 .split
  .split
   .split
    .exact Suf.out (pre:=[])
    .exact .none
   .exact .none
  .exact .none
 .split
  .split
   .split
    .exact Suf.ite (WiC _ _ _)
    .split
     .exact Suf.ite (Suf.over (Suf.out (pre:=[_])))
     .exact .none
   .exact .none
  .exact .none
 .split
  .split
   .split
    .exact Suf.ite (Suf.bif (Suf.out (pre:=[_])))
    .exact Suf.ite (Suf.bif (Suf.out (pre:=[_])))
   .exact .none
  .exact .none
 .split
  .split
   .rename_i ah hs;split
    .obtain⟨pre,h⟩:=WiA hs;rw[h];exact Suf.over Suf.out
    .exact .none
   .exact .none
  .exact .none
 .split
  .split
   .split
    .split
     .exact Suf.ite (WkT _ _ _ _ _)
     .split
      .exact Suf.ite (Suf.bif (Suf.out (pre:=[_,_])))
      .exact Suf.ite (Suf.bif (Suf.out (pre:=[_,_,_])))
      .exact .none
    .exact .none
   .exact .none
  .exact WnI _ _ _
 .split
  .split
   .unfold WdL;split
    .split
     .split
      .cases Wtn st _ _ with
       |false=>exact WiJ _ _ _ _
       |true=>
       simp only[Xs,cond_false];split
       .exact Suf.bif (Suf.out (pre:=[_]))
       .split
        .split
         .exact Suf.bif (Suf.out (pre:=[_,_]))
         .exact .none
        .exact .none
       .split
        .split
         .exact Suf.bif (Suf.out (pre:=[_,_]))
         .exact .none
        .exact .none
       .exact .none
      .exact .none
     .exact .none
    .exact .none
   .exact .none
  .split
   .split
    .split
     .exact Suf.ite (Suf.out (pre:=[_]))
     .exact .none
    .exact .none
   .exact .none
  .exact WnI _ _ _
  .split
   .split
    .exact Wmr _ _ _
    .exact .none
   .exact .none
  .exact .none
 .exact WnI _ _ _
end
end Go.Sx
namespace Go.Sx
set_option linter.unusedVariables false
set_option linter.unusedSimpArgs false
theorem WoF{x y:Nat}{l:List Nat}:y∈Wv5 x l↔y=x\/y∈l:=by
 unfold Wv5;cases h:WbQ x l with
 |true=>
  have:=(WaF x l).1 h;simp only[cond_true];exact⟨.inr,λh=>h.elim (λe=>e▸this) id⟩
 |false=>simp
theorem WiT{y:Nat}:∀(m l:List Nat),y∈WlG m l↔y∈m\/y∈l
 | [],l=>by simp[WlG]
 |x::m,l=>by
  rw[WlG,WiT m,WoF,Xq];constructor
  .rintro(h|h|h)
   .exact .inl (.inr h)
   .exact .inl (.inl h)
   .exact .inr h
  .rintro((h|h)|h)
   .exact .inr (.inl h)
   .exact .inl h
   .exact .inr (.inr h)
theorem Wh1{acc:List (List Nat)}{y:Nat}:∀(ds l:List Nat),y∈WjX acc ds l↔(∃j∈ds,y=j\/y∈acc.getD j [])\/y∈l
 | [],l=>by simp[WjX]
 |j::ds,l=>by
  rw[WjX,Wh1 ds,WiT,WoF];constructor
  .rintro(⟨k,hk,h⟩|h|h|h)
   .exact .inl ⟨k,Xe _ hk,h⟩
   .exact .inl ⟨j,Xh ..,.inr h⟩
   .exact .inl ⟨j,Xh ..,.inl h⟩
   .exact .inr h
  .rintro(⟨k,hk,h⟩|h)
   .rcases Xq.1 hk with rfl|hk
    .exact .inr (h.elim (λh=>.inr (.inl h)) .inl)
    .exact .inl ⟨k,hk,h⟩
   .exact .inr (.inr (.inr h))
def Wme(ops:Array Oper)(S:Nat->Prop):Prop:=∀i o,ops[i]?=some o->S i->∀d∈WlO o,S d
theorem Wja{ops:Array Oper}{S:Nat->Prop}(hS:Wme ops S):∀(l:List Oper) (acc:List (List Nat)),(∀(k:Nat) (o:Oper),l[k]?=some o->ops[acc.length+k]?=some o)->
  (∀i,S i->∀j∈acc.getD i [],S j)->∀i,S i->∀j∈(Wea l acc).getD i [],S j
 | [],acc,_,h=>h
 |o::l,acc,hl,h=>by
  refine Wja hS l _ (λk o' hk=>?_) (λi hi j hj=>?_)
  .have:=hl (k+1) o' (by simpa using hk);rw[Xae];have e:acc.length+(k+1)=acc.length+ [WjX acc (WlO o) []].length+k:=by simp;omega
   rw[←e];exact this
  .rw[Xac,Xaz]at hj;split at hj
   .exact h i hi j (by rw[Xac];exact hj)
   .rename_i hlt;by_cases he:i=acc.length
    .subst he;simp only[Xde,Xdq,Xeb]at hj;rcases(Wh1 _ _).1 hj with⟨k,hk,iZ⟩|hj
     .have hSk:=hS _ o (hl 0 o (by simp)) hi k hk;rcases iZ with rfl|iZ
      .exact hSk
      .exact h k hSk j iZ
     .cases hj
    .have:[WjX acc (WlO o) []][i-acc.length]?=none:=Xbg (by simp;omega);rw[this]at hj;cases hj
theorem WpG{ops:Array Oper}{S:Nat->Prop}(hS:Wme ops S){i j:Nat}(h:WcR (Wea ops.toList []) j i=true)(hi:S i):S j:=
 Wja hS ops.toList [] (λk o hk=>by simpa using hk) (λi _ j hj=>by simp at hj) i hi j ((WaF _ _).1 h)
theorem Wjc{ops:Array Oper}:∀(l:List Oper) (n:Nat),Wtv l n=true->∀(k:Nat) (o:Oper),l[k]?=some o->∀d∈WlO o,d<n+k
 | [],_,_,k,o,hk=>by simp at hk
 |o'::l,n,h,k,o,hk=>by
  simp only[Wtv,Xi,Xak]at h;cases k with
  |zero=>
   simp at hk;subst hk;intro e he;have:=h.1 e he;rw[Xgy]at this;omega
  |succ k=>
   have:=Wjc (ops:=ops) l (n+1) h.2 k o (by simpa using hk);intro e he;have:=this e he;omega
structure Order(ops:Array Oper)(l:List Nat):Prop where
 nodup:l.Nodup
 all:∀i,i<ops.size↔i∈l
 dep:∀p i s,l=p++i::s->∀o,ops[i]?=some o->∀d∈WlO o,d∈p
theorem Order.closed{ops:Array Oper}{l:List Nat}(h:Order ops l){p s:List Nat}(e:l=p++s):Wme ops (· ∈p):=λi o ho hi d hd=>by
 obtain⟨a,b,rfl⟩:=Xei hi;have:=h.dep a i (b++s) (by rw[e];simp) o ho d hd;simp[this]
theorem Order.bef{ops:Array Oper}{l:List Nat}(h:Order ops l){p s:List Nat}{i j:Nat}(e:l=p++s)(hb:WcR (Wea ops.toList []) j i=true)(hi:i∈p):j∈p:=
 WpG (h.closed e) hb hi
theorem Order.bef'{ops:Array Oper}{l:List Nat}(h:Order ops l){p s:List Nat}{i j:Nat}(e:l=p++i::s)(hb:WcR (Wea ops.toList []) j i=true)(hne:j≠i):j∈p:=by
 have:=h.bef (p:=p++ [i]) (s:=s) (by rw[e];simp) hb (by simp);rcases Xl.1 this with h|h
 .exact h
 .simp at h;exact absurd h hne
def unl(ops:Array Oper)(listed:Array Bool):List Nat:=(Xdl ops.size).filter λi=>!listed.getD i true
theorem Wfs{ops:Array Oper}{listed:Array Bool}{i:Nat}:i∈unl ops listed↔i<ops.size/\listed.getD i true=false:=by
 unfold unl;rw[Xat,Xel];simp
theorem WfY{α:Type}{p q:α->Bool}:∀(l:List α),(∀x∈l,q x=true->p x=true)->(∃x∈l,p x=true/\q x=false)->(l.filter q).length<(l.filter p).length
 | [],_,⟨x,hx,_⟩=>by cases hx
 |x::l,h,⟨y,hy,hp,hq⟩=>by
  have hle:∀(l:List α),(∀x∈l,q x=true->p x=true)->(l.filter q).length<=(l.filter p).length:=by
   intro l
   induction l with
   |nil=>intro _;simp
   |cons x l ih=>
    intro h;have:=ih λx hx=>h x (Xe _ hx);have hx:=h x (Xh ..);rw[Xbj,Xbj];cases hqx:q x with
    |true=>rw[hx hqx];simpa using this
    |false=>cases p x<;>simp<;>omega
  rw[Xbj,Xbj];rcases Xq.1 hy with rfl|hy
  .rw[hp,hq];have:=hle l λx hx=>h x (Xe _ hx);simp;omega
  .have:=WfY l (λx hx=>h x (Xe _ hx)) ⟨y,hy,hp,hq⟩;have hx:=h x (Xh ..);cases hqx:q x with
   |true=>rw[hx hqx];simpa using this
   |false=>cases p x<;>simp<;>omega
theorem WjK{listed:Array Bool}{i j:Nat}:(listed.setIfInBounds i true).getD j true=(if i=j then true else listed.getD j true):=by
 simp only[Xcp,Xfc];split
 .split<;>rfl
 .rfl
theorem WrA{listed:Array Bool}{i j:Nat}(hi:i<listed.size):(listed.setIfInBounds i true).getD j false=(if i=j then true else listed.getD j false):=by
 simp only[Xcp,Xfc];split
 .simp[hi]
 .rfl
theorem Wuh{listed:Array Bool}{i:Nat}(hi:i<listed.size):listed.getD i true=listed.getD i false:=by
 simp[hi]
theorem Wn2{o:Oper}{e:Edge}(he:e∈o.after)(hb:Region.binds .any e=true):e.on∈WlO o:=
 Xv.2 ⟨e,Xat.2 ⟨by simpa using he,hb⟩,rfl⟩
theorem WnY{ops:Array Oper}(hb:∀(k:Nat) (o:Oper),ops[k]?=some o->∀d∈WlO o,d<k):∀(fuel t:Nat) (listed:Array Bool),listed.size=ops.size->(unl ops listed).length<=fuel->
  (Region.linearise.go .any ops fuel t listed []).Nodup/\
  (∀i,i∈Region.linearise.go .any ops fuel t listed []↔i∈unl ops listed)/\
  (∀p i s,Region.linearise.go .any ops fuel t listed []=p++i::s->∀o,ops[i]?=some o->∀e∈o.after,Region.binds .any e=true->listed.getD e.on false=true\/e.on∈p)
 |0,t,listed,hs,hlen=>by
  have:unl ops listed= []:=Xad (by omega);simp only[Region.linearise.go,List.reverse_nil,this];exact⟨by simp,by simp,λp i s h=>by simp at h⟩
 |fuel+1,t,listed,hs,hlen=>by
  have mW:Region.linearise.go .any ops (fuel+1) t listed []=match(Region.ready .any ops listed)[t%(Region.ready .any ops listed).length]? with
   |some i=>Region.linearise.go .any ops fuel (t/(Region.ready .any ops listed).length) (listed.setIfInBounds i true) [i]
   |none=>[]:=rfl
  rw[mW];cases hi:(Region.ready .any ops listed)[t%(Region.ready .any ops listed).length]? with
  |none=>
   have bB:Region.ready .any ops listed= []:=by
    cases hr:Region.ready .any ops listed with
    |nil=>rfl
    |cons x xs=>
     rw[hr]at hi;have hlt:t%(x::xs).length<(x::xs).length:=Nat.mod_lt _ (by simp);simp at hi;simp at hlt;omega
   have hu:unl ops listed= []:=by
    have key:∀n i,i<=n->i∉unl ops listed:=by
     intro n
     induction n with
     |zero=>
      intro i eT hm;obtain⟨h1,h2⟩:=Wfs.1 hm;have:i∈Region.ready .any ops listed:=by
       rw[mem_ready];refine⟨h2,ops[i],Xdk h1,λe he lb=>?_⟩;have:=hb i _ (Xdk h1) e.on (Wn2 he lb);omega
      rw[bB]at this;cases this
     |succ n ih=>
      intro i eT hm;obtain⟨h1,h2⟩:=Wfs.1 hm;have:i∈Region.ready .any ops listed:=by
       rw[mem_ready];refine⟨h2,ops[i],Xdk h1,λe he lb=>?_⟩;have hlt:=hb i _ (Xdk h1) e.on (Wn2 he lb);have cG:=ih e.on (by omega);have h3:e.on<ops.size:=by omega
       cases h4:listed.getD e.on true with
       |false=>exact absurd (Wfs.2 ⟨h3,h4⟩) cG
       |true=>rw[←Wuh (by omega)];exact h4
      rw[bB]at this;cases this
    exact Xev.2 λi=>key i i (Xn _)
   rw[hu];exact⟨Xcu,λ_=>Iff.rfl,λp i s h=>by simp at h⟩
  |some i=>
   have w7:=Xaw hi;obtain⟨h1,o,ho,h3⟩:=mem_ready.1 w7;have pM:i<ops.size:=(Xdi.1 ho).1;have w8:i∈unl ops listed:=Wfs.2 ⟨pM,h1⟩;simp only[];rw[linearise_go_acc,List.reverse_singleton,List.singleton_append];have ii:(unl ops (listed.setIfInBounds i true)).length<=fuel:=by
    have:(unl ops (listed.setIfInBounds i true)).length<(unl ops listed).length:=by
     refine WfY _ (λx _ hx=>?_) ⟨i,Xel.2 pM,by simpa using h1,by rw[WjK];simp⟩;rw[WjK]at hx;split at hx
     .simp at hx
     .exact hx
    omega
   obtain⟨g1,g2,g3⟩:=WnY hb fuel (t/(Region.ready .any ops listed).length) (listed.setIfInBounds i true) (by simp[hs]) ii;have hmem:∀j,j∈unl ops (listed.setIfInBounds i true)↔j∈unl ops listed/\j≠i:=λj=>by
    rw[Wfs,Wfs,WjK];constructor
    .rintro⟨q1,q2⟩;split at q2
     .cases q2
     .rename_i hne;exact⟨⟨q1,q2⟩,λe=>hne e.symm⟩
    .rintro⟨⟨q1,q2⟩,hne⟩;exact⟨q1,by rw[if_neg (λe=>hne e.symm)];exact q2⟩
   refine⟨Xaj.2 ⟨λhm=>?_,g1⟩,λj=>?_,λp j s e o' gw ed ot lb=>?_⟩
   .exact((hmem i).1 ((g2 i).1 hm)).2 rfl
   .rw[Xq,g2,hmem];constructor
    .rintro(rfl|h)
     .exact w8
     .exact h.1
    .intro h;by_cases he:j=i
     .exact .inl he
     .exact .inr ⟨h,he⟩
   .cases p with
    |nil=>
     simp only[Xby,List.cons.injEq]at e;obtain⟨rfl,_⟩:=e;rw[ho]at gw;injection gw with gw;subst gw;exact .inl (h3 ed ot lb)
    |cons x p=>
     simp only[Xbd,List.cons.injEq]at e;obtain⟨rfl,e⟩:=e;rcases g3 p j s e o' gw ed ot lb with h|h
     .rw[WrA (by omega)]at h;split at h
      .rename_i he;exact .inr (by rw[he];simp)
      .exact .inl h
     .exact .inr (Xe _ h)
theorem Wh6{ops:Array Oper}{t:Nat}(hb:∀(k:Nat) (o:Oper),ops[k]?=some o->∀d∈WlO o,d<k):Order ops (Region.linearise .any ops t):=by
 have hu:∀i,i∈unl ops (Xee ops.size false)↔i<ops.size:=λi=>by
  rw[Wfs];constructor
  .exactλh=>h.1
  .exactλh=>⟨h,by simp[h]⟩
 obtain⟨h1,h2,h3⟩:=WnY hb ops.size t (Xee ops.size false) (by simp) (by
  have:=Xet (λi=>!(Xee ops.size false).getD i true) (Xdl ops.size);rw[Xfk]at this;exact this)
 refine⟨h1,λi=>by unfold Region.linearise;rw[h2,hu],λp i s e o ho d hd=>?_⟩;unfold WlO at hd;obtain⟨ed,ot,rfl⟩:=Xv.1 hd;obtain⟨ot,lb⟩:=Xat.1 ot;rcases h3 p i s e o ho ed (by simpa using ot) lb with h|h
 .exfalso;rw[Xcp,Array.getElem?_replicate]at h;split at h<;>simp at h
 .exact h
theorem WiP{ops:Array Oper}{t:Nat}(hb:∀(k:Nat) (o:Oper),ops[k]?=some o->∀d∈WlO o,d<k):Order ops (Region.schedule true ops t):=by
 unfold Region.schedule;rw[if_pos (by simp)];exact Wh6 hb
end Go.Sx
namespace Go.Sx
set_option linter.unusedVariables false
set_option linter.unusedSimpArgs false
def Wp3(n:Nat)(kept:List Nat)(o:Oper):Bool:=match o.dst with
 |some d=>Nat.blt d n&& !WbQ d kept
 |none=>true
def Wdj(n:Nat)(kept:List Nat):Code->Bool
 | .region _ ops _=>ops.toList.all (Wp3 n kept)
 | .seq a b=>Wdj n kept a&&Wdj n kept b
 | .cond _ x y=>Wdj n kept x&&Wdj n kept y
 | .block _ c=>Wdj n kept c
 | .loop c=>Wdj n kept c
 |_=>true
theorem Wng{nt:Slots}{n:Nat}{kept:List Nat}(hn:nt.n=n)(hk:∀p∈nt.kept,p.1∈kept){o:Oper}(h:Wp3 n kept o=true):∀d,o.dst=some d->nt.Ok d:=λd hd=>by
 unfold Wp3 at h;rw[hd]at h;simp only[Xi,Xar]at h;refine⟨by have h1:=h.1;rw[Xgy]at h1;rw[hn];exact h1,λp hp e=>?_⟩;have:=hk p hp;rw[e]at this;rw[(WaF d kept).2 this]at h;exact absurd h.2 (by simp)
def Ex.to:Ex->Exit
 | .normal=>.normal
 | .exit id=>.exit id
 | .ret=>.ret
section
variable{w0:World}{F:CS}{nt:Slots}{G0:GH}{P:Program}{T:Tab}{Γ:Ctx}{A:List (Nat×An)}{R:Type}{r:R}
def Wrj(w0:World)(F:CS)(nt:Slots)(G0:GH)(k:St->Option R)(r:R)(K:Act->World->Prop):Prop:=
 ∀st a w G ν,Rel w0 F nt G0 G ν st a w->k st=some r->K a w
theorem WnF{G:GH}{ν:Nat->Nu}{st:St}{a:Act}{w:World}(hr:Rel w0 F nt G0 G ν st a w){ops:Array Oper}{j:Nat}{t:Tmp}(ht:(ops[j]?).bind (·.dst)=some t){b:Bool}(hb:(look st.env t).bind asB=some b):
  a.tmps[t]?=some (.bool b)/\yielded ops a.tmps j=some b:=by
 cases hl:look st.env t with
 |none=>simp[hl]at hb
 |some x=>
  simp only[hl,Xd]at hb;obtain⟨v,hv,hx⟩:=hr.env t x hl;have:=WmV x v b hx hb;subst this;refine⟨hv,?_⟩;unfold yielded;rw[ht];simp[hv]
theorem Wt4(hT:Waf P T)(hΓ:WeT P Γ){ops:Array Oper}{o:Oper}(hd:∀d,o.dst=some d->nt.Ok d){k:St->Option R}{K:Act->World->Prop}{Q:Exit->Act->World->Prop}(hK:Wrj w0 F nt G0 k r K)
  {st:St} {a:Act} {w:World} {G:GH} {ν:Nat->Nu} (hr:Rel w0 F nt G0 G ν st a w) (h:rxg T Γ A ops o st k=some r):
  if Region.wanted o (yielded ops a.tmps)then o.wp P a w K Q else K (a.put o.dst undef) w:=by
 unfold rxg at h;have gP:∀ah,Rel w0 F nt G0 G ν ah a w->Rel w0 F nt G0 G ν (ah.put o.dst (.tup [])) (a.put o.dst undef) w:=λah bh=>
  bh.put hd ⟨[],rfl,rfl,λj x v hj=>by simp at hj⟩
 have dY:∀b:Bool,AValRel G ν st.nx (one .bool b) (.bool b):=λb=>WF (t:=.bool) (d:=b) (v:=.bool b) rfl;split at h
 .rename_i hg;simp only[Region.wanted,hg,if_true];exact Wru hT hΓ hr hd h (λah a' w' G' ν' bh hk=>hK _ _ _ _ _ bh hk)
 .rename_i j want hg;split at h
  .rename_i t ht;split at h
   .rename_i hl;obtain⟨v,hv,hx⟩:=hr.env t _ hl;have gz:v=undef:=by
     obtain⟨vs,h1,h2,_⟩:=hx;rw[h1,Xad h2];rfl
    subst gz;have hy:yielded ops a.tmps j=none:=by
     unfold yielded;rw[ht];simp only[Xd,hv];rfl
    simp only[Region.wanted,hg,hy];rw[if_neg (by simp)];exact hK _ _ _ _ _ (gP _ hr) h
   .rename_i x _ hl;split at h
    .rename_i b hb;obtain⟨hv,hy⟩:=WnF hr ht (b:=b) (by rw[hl];exact hb);simp only[Region.wanted,hg,hy];have mb:=hr.rebind hv (dY b);cases b with
     |true=>
      simp only[cond_true]at h;cases want with
      |true=>
       simp only[if_true]at h;simp only[beq_self_eq_true,if_true];exact Wru hT hΓ mb hd h (λah a' w' G' ν' bh hk=>hK _ _ _ _ _ bh hk)
      |false=>
       simp only[Xbp,if_false]at h;rw[if_neg (by simp)];exact hK _ _ _ _ _ (gP _ mb) h
     |false=>
      simp only[cond_false]at h;cases want with
      |true=>
       simp only[if_true]at h;rw[if_neg (by simp)];exact hK _ _ _ _ _ (gP _ mb) h
      |false=>
       simp only[Xbp,if_false]at h;simp only[beq_self_eq_true,if_true];exact Wru hT hΓ mb hd h (λah a' w' G' ν' bh hk=>hK _ _ _ _ _ bh hk)
    .cases h
   .cases h
  .cases h
theorem WtL(hT:Waf P T)(hΓ:WeT P Γ){ops:Array Oper}:∀(l:List Oper),(∀o∈l,∀d,o.dst=some d->nt.Ok d)->∀{k:St->Option R} {Q:Exit->Act->World->Prop},Wrj w0 F nt G0 k r (Q .normal)->
  Wrj w0 F nt G0 (λst=>rxs T Γ A ops l st k) r (wpList P ops Q l)
 | [],_,k,Q,hK=>λst a w G ν hr h=>hK st a w G ν hr h
 |o::l,hd,k,Q,hK=>λst a w G ν hr h=>by
  have ih:=WtL (ops:=ops) hT hΓ l (λo ho=>hd o (Xe _ ho)) hK;have h:rxg T Γ A ops o st (λah=>match opG A o ah with
   |some (c,ck)=>bif c then rxs T Γ A ops l ck k else none
   |none=>none)=some r:=h
  have w9:Wrj w0 F nt G0 (λah=>match opG A o ah with
   |some (c,ck)=>bif c then rxs T Γ A ops l ck k else none
   |none=>none) r (wpList P ops Q l):=λdF a1 w1 G1 ν1 gQ h1=>by
   have h1:(match opG A o dF with
    |some (c,ck)=>bif c then rxs T Γ A ops l ck k else none
    |none=>none)=some r:=h1
   split at h1
   .rename_i c am hg;obtain⟨rfl,h1⟩:=WaD h1;have:∃G' ν',Rel w0 F nt G0 G' ν' am a1 w1:=by
     unfold opG at hg;split at hg
     .split at hg
      .injection hg with hg;injection hg with _ hg;subst hg;exact⟨G1,ν1,gQ⟩
      .exact WlS gQ hg
     .injection hg with hg;injection hg with _ hg;subst hg;exact⟨G1,ν1,gQ⟩
     .injection hg with hg;injection hg with _ hg;subst hg;exact⟨G1,ν1,gQ⟩
     .injection hg with hg;injection hg with _ hg;subst hg;exact⟨G1,ν1,gQ⟩
     .injection hg with hg;injection hg with _ hg;subst hg;exact⟨G1,ν1,gQ⟩
    obtain⟨G2,ν2,gh⟩:=this;exact ih am a1 w1 G2 ν2 gh h1
   .cases h1
  have:=Wt4 hT hΓ (hd o (Xh ..)) (Q:=Q) w9 hr h;unfold wpList;split
  .rename_i hw;rw[if_pos hw]at this;exact .inl this
  .rename_i hw;rw[if_neg hw]at this;exact this
end
end Go.Sx
namespace Go.Sx
set_option linter.unusedVariables false
set_option linter.unusedSimpArgs false
section
variable{T:Tab}{Γ:Ctx}{A:List (Nat×An)}{ops:Array Oper}
theorem Wks{R:Type}(o:Oper)(st:St)(k:St->Option R):rx1 T Γ A o st k=(rx1 T Γ A o st some).bind k:=by
 unfold rx1;rw[WfJ,WfJ o st (λx objs nx=>some _),Xgp];rfl
theorem Wsx{R:Type}(o:Oper)(st:St)(k:St->Option R):rxg T Γ A ops o st k=(rxg T Γ A ops o st some).bind k:=by
 unfold rxg;cases o.guard with
 |none=>exact Wks o st k
 |some g=>
  obtain⟨j,want⟩:=g;simp only;cases(ops[j]?).bind (·.dst)with
  |none=>rfl
  |some t=>
   simp only;cases look st.env t with
   |none=>rfl
   |some x=>
    have main:(match asB x with
      |some b=>bif b
       then(if want then rx1 T Γ A o (st.put (some t) (one .bool true)) k else k ((st.put (some t) (one .bool true)).put o.dst (.tup [])))
       else(if want then k ((st.put (some t) (one .bool false)).put o.dst (.tup []))else rx1 T Γ A o (st.put (some t) (one .bool false)) k)
      |none=>none)=(match asB x with
      |some b=>bif b
       then(if want then rx1 T Γ A o (st.put (some t) (one .bool true)) some else some ((st.put (some t) (one .bool true)).put o.dst (.tup [])))
       else(if want then some ((st.put (some t) (one .bool false)).put o.dst (.tup []))else rx1 T Γ A o (st.put (some t) (one .bool false)) some)
      |none=>none).bind k:=by
     cases asB x with
     |none=>rfl
     |some b=>
      cases b<;>cases want
      .exact Wks _ _ _
      .rfl
      .rfl
      .exact Wks _ _ _
    cases x with
    |s y=>exact main
    |tup l=>
     cases l with
     |nil=>rfl
     |cons y l=>exact main
theorem WoK{R:Type}{o:Oper}{st:St}{k:St->Option R}{r:R}(h:rxg T Γ A ops o st k=some r):∃ah,rxg T Γ A ops o st some=some ah/\k ah=some r:=by
 rw[Wsx]at h;exact Xcb.1 h
structure Eff(o:Oper)(v:AVal)(pre:Wab)(ak:Nat)(st ah:St):Prop where
 env:∀t,look ah.env t=if o.dst=some t then some v else look st.env t
 objs:ah.objs=pre++st.objs
 nx:ah.nx=ak
theorem Wc0(st:St)(dst:Option Tmp)(x:AVal)(t:Nat):look (st.put dst x).env t=if dst=some t then some x else look st.env t:=by
 cases dst with
 |none=>simp[St.put]
 |some d=>
  simp only[St.put];rw[Wy];by_cases h:d=t
  .subst h;simp
  .rw[if_neg h,if_neg (by simpa using h)]
theorem WeL{st am:St}{x:Operand}(h:∀t∈WqL x,look am.env t=look st.env t):ev am x=ev st x:=by
 cases x with
 |tmp t=>exact h t (by simp[WqL])
 |_=>rfl
theorem WgE{st:St}{x:Operand}{v:AVal}:∀(l:List Operand),x∈l->ev st x=some v->∀id∈WaP v,id∈Wek st l
 | [],h,_,_,_=>by cases h
 |y::l,h,hv,id,bE=>by
  simp only[Wek];rcases Xq.1 h with rfl|h
  .rw[hv];exact Xk _ bE
  .split
   .exact Xg _ (WgE l h hv id bE)
   .exact WgE l h hv id bE
theorem WfG{st am:St}:∀(l:List Operand),(∀x∈l,ev am x=ev st x)->Wek am l=Wek st l
 | [],_=>rfl
 |x::l,h=>by simp only[Wek,h x (Xh ..),WfG l λy hy=>h y (Xe _ hy)]
theorem WpS{o:Oper}{st ah am:St}(h:rx1 T Γ A o st some=some ah)(he:∀x∈W8 o.op,ev am x=ev st x)
  (hm:WaG o=true->am.objs=st.objs/\am.nx=st.nx) (hf:WaG o=false->∀id∈WcN o st,look am.objs id=look st.objs id):
  ∃v pre ak,Eff o v pre ak st ah/\(WaG o=false->pre= []/\ak=st.nx)/\
   ∃bM,rx1 T Γ A o am some=some bM/\(WaG o=true->Eff o v pre ak am bM)/\(WaG o=false->Eff o v [] am.nx am bM):=by
 unfold rx1 at*;rw[WfJ]at h;obtain⟨⟨v,objs',ak⟩,h1,h2⟩:=Xcb.1 h;injection h2 with h2;subst h2;cases dR:WaG o with
 |true=>
  obtain⟨e1,e2⟩:=hm dR;obtain⟨pre,rfl⟩:=Wpe o st v objs' ak h1;refine⟨v,pre,ak,⟨λt=>Wc0 _ _ _ _,by cases o.dst<;>rfl,by cases o.dst<;>rfl⟩,by simp,?_⟩;have h3:rxe T Γ A o am WcE=some (v,pre++st.objs,ak):=by
   obtain⟨sU,uN,nx2⟩:=am;simp only at e1 e2;subst e1 e2;rw[Wqj o (env:=sU) (st:=st) WcE he];exact h1
  refine⟨_,?_,λ_=>⟨λt=>Wc0 (⟨am.env,pre++st.objs,ak⟩) o.dst v t,?_,?_⟩,by simp⟩
  .rw[WfJ,h3];rfl
  .rw[e1];cases o.dst<;>rfl
  .cases o.dst<;>rfl
 |false=>
  rw[WlR dR]at h1;obtain⟨u,h3,h4⟩:=Xcb.1 h1;injection h4 with h4;have e1:u=v:=congrArg (λp:Out=>p.1) h4;have e2:st.objs=objs':=congrArg (λp:Out=>p.2.1) h4;have e3:st.nx=ak:=congrArg (λp:Out=>p.2.2) h4;subst e1 e2 e3;refine⟨u,[],st.nx,⟨λt=>Wc0 _ _ _ _,by cases o.dst<;>rfl,by cases o.dst<;>rfl⟩,by simp,?_⟩;have h5:Wua T o am=some u:=by
   rw[←h3];refine Wpj dR he λou x hx v hv id bE=>hf dR id ?_;unfold WcN;rw[ou];exact WgE _ hx hv id bE
  refine⟨_,?_,by simp,λ_=>⟨λt=>Wc0 (⟨am.env,am.objs,am.nx⟩) o.dst u t,?_,?_⟩⟩
  .rw[WfJ,WlR dR,h5];rfl
  .cases o.dst<;>rfl
  .cases o.dst<;>rfl
theorem WuB{x:AVal}{b:Bool}(h:asB x=some b):x=one .bool b:=by
 unfold asB at h;split at h
 .injection h with h;subst h;rfl
 .cases h
theorem WdE{st:St}{t:Nat}{x:AVal}(h:look st.env t=some x)(t':Nat):look (st.put (some t) x).env t'=look st.env t':=by
 rw[Wc0];split
 .rename_i e;injection e with e;subst e;exact h.symm
 .rfl
theorem Wdy(st:St)(d:Option Tmp)(x:AVal):(st.put d x).objs=st.objs:=by cases d<;>rfl
theorem WhU(st:St)(d:Option Tmp)(x:AVal):(st.put d x).nx=st.nx:=by cases d<;>rfl
theorem WfV{o:Oper}{st am:St}(h:∀x∈W8 o.op,ev am x=ev st x):WcN o am=WcN o st:=by
 unfold WcN;rw[WfG _ h]
theorem Wr7{o:Oper}{st ah am:St}(h:rxg T Γ A ops o st some=some ah)(he:∀t∈Wc8 ops o,look am.env t=look st.env t)
  (hm:WaG o=true->am.objs=st.objs/\am.nx=st.nx) (hf:WaG o=false->∀id∈WcN o st,look am.objs id=look st.objs id):
  ∃v pre ak,Eff o v pre ak st ah/\(WaG o=false->pre= []/\ak=st.nx)/\
   ∃bM,rxg T Γ A ops o am some=some bM/\(WaG o=true->Eff o v pre ak am bM)/\(WaG o=false->Eff o v [] am.nx am bM):=by
 have uO:∀x∈W8 o.op,ev am x=ev st x:=λx hx=>WeL λt ht=>he t (by
  unfold Wc8;exact Xk _ (Xfo.2 ⟨x,hx,ht⟩))
 unfold rxg at h⊢;cases hg:o.guard with
 |none=>
  rw[hg]at h;exact WpS h uO hm hf
 |some g=>
  obtain⟨j,want⟩:=g;rw[hg]at h;simp only at h⊢;cases ht:(ops[j]?).bind (·.dst)with
  |none=>rw[ht]at h;cases h
  |some t=>
   rw[ht]at h;simp only at h⊢;have ik:look am.env t=look st.env t:=he t (by
    unfold Wc8;refine Xg _ ?_;rw[hg];simp only;rw[ht];simp)
   rw[ik];cases hx:look st.env t with
   |none=>rw[hx]at h;cases h
   |some x=>
    rw[hx]at h;have skip:∀(s s2:St) (s':St),some (s.put o.dst (.tup []))=some s'->(∀t,look s.env t=look st.env t)->s.objs=st.objs->s.nx=st.nx->(∀t,look s2.env t=look am.env t)->s2.objs=am.objs->s2.nx=am.nx->
      ∃v pre ak,Eff o v pre ak st s'/\(WaG o=false->pre= []/\ak=st.nx)/\
       ∃bM,some (s2.put o.dst (.tup []))=some bM/\(WaG o=true->Eff o v pre ak am bM)/\(WaG o=false->Eff o v [] am.nx am bM):=by
     intro s s2 s' hs a1 a2 a3 b1 b2 b3;injection hs with hs;subst hs;refine⟨.tup [],[],st.nx,⟨λt=>?_,by rw[Wdy,a2];rfl,by rw[WhU,a3]⟩,λ_=>⟨rfl,rfl⟩,_,rfl,λdR=>⟨λt=>?_,by rw[Wdy,b2];rfl,by rw[WhU,b3];exact(hm dR).2⟩,λ_=>⟨λt=>?_,by rw[Wdy,b2];rfl,by rw[WhU,b3]⟩⟩
     .rw[Wc0,a1]
     .rw[Wc0,b1]
     .rw[Wc0,b1]
    have doit:∀b:Bool,x=one .bool b->rx1 T Γ A o (st.put (some t) (one .bool b)) some=some ah->
      ∃v pre ak,Eff o v pre ak st ah/\(WaG o=false->pre= []/\ak=st.nx)/\
       ∃bM,rx1 T Γ A o (am.put (some t) (one .bool b)) some=some bM/\(WaG o=true->Eff o v pre ak am bM)/\(WaG o=false->Eff o v [] am.nx am bM):=by
     intro b hb h1;subst hb;have l1:=WdE hx;have l2:=WdE (st:=am) (t:=t) (x:=one .bool b) (by rw[ik];exact hx);have pN:∀x∈W8 o.op,ev (st.put (some t) (one .bool b)) x=ev st x:=λx hx=>WeL λt' _=>l1 t';have sV:∀x∈W8 o.op,ev (am.put (some t) (one .bool b)) x=ev am x:=λx hx=>WeL λt' _=>l2 t';obtain⟨v,pre,ak,e1,e2,bM,e3,e4,e5⟩:=WpS (am:=am.put (some t) (one .bool b)) h1 (λx hx=>by rw[sV x hx,pN x hx,uO x hx])
      (λdR=>hm dR) (λfM id bE=>hf fM id (by rw[←WfV pN];exact bE))
     refine⟨v,pre,ak,⟨λt'=>by rw[e1.env,l1],e1.objs,e1.nx⟩,e2,bM,e3,λdR=>⟨λt'=>by rw[(e4 dR).env,l2],(e4 dR).objs,(e4 dR).nx⟩,λdR=>⟨λt'=>by rw[(e5 dR).env,l2],(e5 dR).objs,(e5 dR).nx⟩⟩
    have main:(match asB x with
      |some b=>bif b
       then(if want then rx1 T Γ A o (st.put (some t) (one .bool true)) some else some ((st.put (some t) (one .bool true)).put o.dst (.tup [])))
       else(if want then some ((st.put (some t) (one .bool false)).put o.dst (.tup []))else rx1 T Γ A o (st.put (some t) (one .bool false)) some)
      |none=>none)=some ah->∃v pre ak,Eff o v pre ak st ah/\(WaG o=false->pre= []/\ak=st.nx)/\
       ∃bM,(match asB x with
      |some b=>bif b
       then(if want then rx1 T Γ A o (am.put (some t) (one .bool true)) some else some ((am.put (some t) (one .bool true)).put o.dst (.tup [])))
       else(if want then some ((am.put (some t) (one .bool false)).put o.dst (.tup []))else rx1 T Γ A o (am.put (some t) (one .bool false)) some)
      |none=>none)=some bM/\(WaG o=true->Eff o v pre ak am bM)/\(WaG o=false->Eff o v [] am.nx am bM):=by
     intro h;cases hb:asB x with
     |none=>rw[hb]at h;cases h
     |some b=>
      rw[hb]at h;have dY:=WuB hb;have r1:∀b',b'=b->∀t',look (st.put (some t) (one .bool b')).env t'=look st.env t':=λb' e=>by subst e;exact WdE (by rw[hx,dY])
      have r2:∀b',b'=b->∀t',look (am.put (some t) (one .bool b')).env t'=look am.env t':=λb' e=>by subst e;exact WdE (by rw[ik,hx,dY])
      cases b<;>cases want
      .exact doit false dY h
      .exact skip _ _ _ h (r1 _ rfl) (Wdy _ _ _) (WhU _ _ _) (r2 _ rfl) (Wdy _ _ _) (WhU _ _ _)
      .exact skip _ _ _ h (r1 _ rfl) (Wdy _ _ _) (WhU _ _ _) (r2 _ rfl) (Wdy _ _ _) (WhU _ _ _)
      .exact doit true dY h
    cases x with
    |s y=>exact main h
    |tup l=>
     cases l with
     |nil=>exact skip st am ah h (λ_=>rfl) rfl rfl (λ_=>rfl) rfl rfl
     |cons y l=>exact main h
end
end Go.Sx
namespace Go.Sx
set_option linter.unusedVariables false
set_option linter.unusedSimpArgs false
structure Rc where
 i:Nat
 v:AVal
 pre:Wab
 nx:Nat
 ids:List Nat
 mv:Bool
section
variable{T:Tab}{Γ:Ctx}{A:List (Nat×An)}{ops:Array Oper}
structure StepTo(T:Tab)(Γ:Ctx)(A:List (Nat×An))(ops:Array Oper)(ρ:Rc)(o:Oper)(st ah:St):Prop where
 at_:ops[ρ.i]?=some o
 isM:ρ.mv=WaG o
 lk:ρ.mv=false->ρ.ids=WcN o st
 run:rxg T Γ A ops o st some=some ah
 env:∀t,look ah.env t=if o.dst=some t then some ρ.v else look st.env t
 objs:ah.objs=if ρ.mv then ρ.pre++st.objs else st.objs
 nx:ah.nx=if ρ.mv then ρ.nx else st.nx
def Wup(T:Tab)(Γ:Ctx)(A:List (Nat×An))(ops:Array Oper):List Rc->St->St->Prop
 | [],st,ah=>st=ah
 |ρ::l,st,ah=>∃o dF,StepTo T Γ A ops ρ o st dF/\Wup T Γ A ops l dF ah
theorem Wrd{i:Nat}{o:Oper}{st ah:St}(hi:ops[i]?=some o)(h:rxg T Γ A ops o st some=some ah):
  ∃ρ:Rc,ρ.i=i/\StepTo T Γ A ops ρ o st ah:=by
 obtain⟨v,pre,ak,e1,e2,_⟩:=Wr7 (am:=st) h (λ_ _=>rfl) (λ_=>⟨rfl,rfl⟩) (λ_ _ _=>rfl);refine⟨⟨i,v,pre,ak,WcN o st,WaG o⟩,rfl,hi,rfl,λ_=>rfl,h,e1.env,?_,?_⟩
 .simp only;cases hm:WaG o with
  |true=>simpa using e1.objs
  |false=>rw[e1.objs,(e2 hm).1];rfl
 .simp only;cases hm:WaG o with
  |true=>simpa using e1.nx
  |false=>rw[e1.nx,(e2 hm).2];rfl
theorem StepTo.move{ρ:Rc}{o:Oper}{st ah am:St}(h:StepTo T Γ A ops ρ o st ah)(he:∀t∈Wc8 ops o,look am.env t=look st.env t)
  (hm:ρ.mv=true->am.objs=st.objs/\am.nx=st.nx) (hf:ρ.mv=false->∀id∈ρ.ids,look am.objs id=look st.objs id):
  ∃bM,StepTo T Γ A ops ρ o am bM:=by
 obtain⟨v,pre,ak,e1,e2,bM,e3,e4,e5⟩:=Wr7 (am:=am) h.run he (λdR=>hm (by rw[h.isM];exact dR)) (λfM id bE=>hf (by rw[h.isM];exact fM) id (by rw[h.lk (by rw[h.isM];exact fM)];exact bE));have hv:∀t,o.dst=some t->v=ρ.v:=λt ht=>by
  have a:=e1.env t;have b:=h.env t;rw[if_pos ht]at a b;rw[a]at b;injection b
 have sj:ρ.mv=false->WcN o am=WcN o st:=λ_=>WfV λx hx=>WeL λt ht=>he t (by
  unfold Wc8;exact Xk _ (Xfo.2 ⟨x,hx,ht⟩))
 cases dR:WaG o with
 |true=>
  have hρ:ρ.mv=true:=by rw[h.isM];exact dR
  have e4:=e4 dR;obtain⟨q1,q2⟩:=hm hρ;refine⟨bM,h.at_,h.isM,λhf=>(by rw[hρ]at hf;cases hf),e3,λt=>?_,?_,?_⟩
  .rw[e4.env];split
   .rename_i ht;rw[hv t ht]
   .rfl
  .rw[e4.objs,hρ];simp only[if_true];have a:=e1.objs;have b:=h.objs;rw[hρ]at b;simp only[if_true]at b;rw[a]at b;rw[List.append_cancel_right b]
  .rw[e4.nx,hρ];simp only[if_true];have a:=e1.nx;have b:=h.nx;rw[hρ]at b;simp only[if_true]at b;rw[←a,b]
 |false=>
  have hρ:ρ.mv=false:=by rw[h.isM];exact dR
  have e5:=e5 dR;refine⟨bM,h.at_,h.isM,λhf=>by rw[sj hρ];exact h.lk hρ,e3,λt=>?_,?_,?_⟩
  .rw[e5.env];split
   .rename_i ht;rw[hv t ht]
   .rfl
  .rw[e5.objs,hρ];rfl
  .rw[e5.nx,hρ];rfl
def Wtt(ids:List Nat)(pre:Wab):Prop:=∀id∈ids,id∉Wha pre
def Wwi(B:List (List Nat))(x y:Rc):Prop:=
 (x.mv=false->y.mv=true->WcR B x.i y.i=true\/Wtt x.ids y.pre)/\
 (x.mv=true->y.mv=false->WcR B x.i y.i=true\/Wtt y.ids x.pre)
theorem Weg{α:Type}:∀(l:List Nat) (k:List Nat->α),Wf0 l k=k l
 | [],_=>rfl
 |x::l,k=>by rw[Wf0,Weg l]
theorem Wl9{α:Type}:∀(l:List (List Nat)) (k:List (List Nat)->α),WnO l k=k l
 | [],_=>rfl
 |x::l,k=>by rw[WnO,Weg,Wl9 l]
theorem Wjj{ids:List Nat}{pre:Wab}(h:Wgt ids (Wha pre)=true):Wtt ids pre:=λid bE hk=>by
 unfold Wgt at h;have:=Xak.1 h id bE;rw[(WaF id _).2 hk]at this;cases this
theorem Wo6(pre objs:Wab):Wqd objs (pre++objs)=Wha pre:=by
 unfold Wqd;simp
theorem Wkd{B:List (List Nat)}{R:Type}{k:St->Option R}{r:R}:∀(l:List Nat) (fl mu:List (Nat×List Nat)) (st:St),rdx T Γ A ops B l fl mu st k=some r->
  ∃(rs:List Rc) (ah:St),rs.map (·.i)=l/\Wup T Γ A ops rs st ah/\k ah=some r/\rs.Pairwise (Wwi B)/\
   (∀p∈fl,∀ρ∈rs,ρ.mv=true->WcR B p.1 ρ.i=true\/Wtt p.2 ρ.pre)/\
   (∀p∈mu,∀ρ∈rs,ρ.mv=false->WcR B p.1 ρ.i=true\/Wgt ρ.ids p.2=true)
 | [],fl,mu,st,h=>⟨[],st,rfl,rfl,h,List.Pairwise.nil,by simp,by simp⟩
 |i::l,fl,mu,st,h=>by
  simp only[rdx]at h;cases ho:ops[i]? with
  |none=>rw[ho]at h;cases h
  |some o=>
   rw[ho]at h;simp only at h;cases hm:WaG o with
   |true=>
    simp only[hm,cond_true]at h;obtain⟨dF,h1,h2⟩:=WoK h;rw[Weg]at h2;obtain⟨jQ,h2⟩:=WaD h2;obtain⟨ρ,hi,hs⟩:=Wrd ho h1;have hρ:ρ.mv=true:=by rw[hs.isM];exact hm
    have az:=hs.objs;rw[hρ]at az;simp only[if_true]at az;rw[az,Wo6]at jQ h2;obtain⟨rs,ah,q1,q2,q3,q4,q5,q6⟩:=Wkd l _ _ _ h2;refine⟨ρ::rs,ah,by simp[hi,q1],⟨o,dF,hs,q2⟩,q3,List.Pairwise.cons (λy hy=>⟨λhf=>(by rw[hρ]at hf;cases hf),λ_ mX=>?_⟩) q4,λp hp y hy mY=>?_,λp hp y hy mX=>?_⟩
    .rcases q6 (i,Wha ρ.pre) (Xh ..) y hy mX with h|h
     .rw[hi];exact .inl h
     .exact .inr (Wjj h)
    .rcases Xq.1 hy with rfl|hy
     .have:=Xak.1 jQ p hp;rw[Xcl]at this;rw[hi];exact this.imp id Wjj
     .exact q5 p hp y hy mY
    .rcases Xq.1 hy with rfl|hy
     .rw[hρ]at mX;cases mX
     .exact q6 p (Xe _ hp) y hy mX
   |false=>
    simp only[hm,cond_false]at h;rw[Weg]at h;obtain⟨jQ,h⟩:=WaD h;obtain⟨dF,h1,h2⟩:=WoK h;obtain⟨ρ,hi,hs⟩:=Wrd ho h1;have hρ:ρ.mv=false:=by rw[hs.isM];exact hm
    have sW:=hs.lk hρ;rw[←sW]at jQ h2;obtain⟨rs,ah,q1,q2,q3,q4,q5,q6⟩:=Wkd l _ _ _ h2;refine⟨ρ::rs,ah,by simp[hi,q1],⟨o,dF,hs,q2⟩,q3,List.Pairwise.cons (λy hy=>⟨λ_ mY=>?_,λhf=>(by rw[hρ]at hf;cases hf)⟩) q4,λp hp y hy mY=>?_,λp hp y hy mX=>?_⟩
    .rw[hi];exact q5 (i,ρ.ids) (Xh ..) y hy mY
    .rcases Xq.1 hy with rfl|hy
     .rw[hρ]at mY;cases mY
     .exact q5 p (Xe _ hp) y hy mY
    .rcases Xq.1 hy with rfl|hy
     .have:=Xak.1 jQ p hp;rw[Xcl]at this;rw[hi];exact this
     .exact q6 p hp y hy mX
def WdW(ops:Array Oper)(i:Nat):Option Tmp:=(ops[i]?).bind (·.dst)
def WoA(ops:Array Oper):List Rc->(Nat->Option AVal)->Nat->Option AVal
 | [],e,t=>e t
 |ρ::a,e,t=>WoA ops a (λt'=>if WdW ops ρ.i=some t' then some ρ.v else e t') t
def Whh:List Rc->Wab×Nat->Wab×Nat
 | [],m=>m
 |ρ::a,m=>Whh a (if ρ.mv then(ρ.pre++m.1,ρ.nx)else m)
theorem Wgl:∀(rs:List Rc) (st ah:St),Wup T Γ A ops rs st ah->(∀t,look ah.env t=WoA ops rs (look st.env) t)/\(ah.objs,ah.nx)=Whh rs (st.objs,st.nx)
 | [],st,ah,h=>by cases h;exact⟨λ_=>rfl,rfl⟩
 |ρ::rs,st,ah,⟨o,dF,hs,h⟩=>by
  obtain⟨h1,h2⟩:=Wgl rs dF ah h;have e:(look dF.env)= λt'=>if WdW ops ρ.i=some t' then some ρ.v else look st.env t':=funext λt=>by
   rw[hs.env];unfold WdW;rw[hs.at_];rfl
  refine⟨λt=>by rw[h1,e];rfl,?_⟩;rw[h2,Whh];congr 1;rw[hs.objs,hs.nx];split<;>rfl
theorem Wju:∀(a:List Rc) (ρ:Rc) (b:List Rc) (st ah:St),Wup T Γ A ops (a++ρ::b) st ah->∃o dF am,Wup T Γ A ops a st dF/\StepTo T Γ A ops ρ o dF am
 | [],ρ,b,st,ah,⟨o,dF,hs,h⟩=>⟨o,st,dF,rfl,hs⟩
 |x::a,ρ,b,st,ah,⟨o,dF,hs,h⟩=>by
  obtain⟨o',s1,s2,h1,h2⟩:=Wju a ρ b dF ah h;exact⟨o',s1,s2,⟨o,dF,hs,h1⟩,h2⟩
theorem WbB:∀(a:List Rc) (m:Wab×Nat),Whh a m=Whh (a.filter (·.mv)) m
 | [],_=>rfl
 |ρ::a,m=>by
  rw[Whh,WbB a,Xbj];cases h:ρ.mv with
  |true=>simp only[if_true,Whh,h]
  |false=>simp only[Xbp,if_false]
theorem WdD:∀(a b:List Rc) (m:Wab×Nat),Whh (a++b) m=Whh b (Whh a m)
 | [],_,_=>rfl
 |ρ::a,b,m=>by rw[Xbd,Whh,WdD a b];rfl
theorem Why{pre objs:Wab}{id:Nat}(h:id∉Wha pre):look (pre++objs) id=look objs id:=by
 induction pre with
 |nil=>rfl
 |cons p pre ih=>
  obtain⟨j,ob⟩:=p;simp only[Wha,Xam,Xq,not_or]at h;rw[Xbd,Wy,if_neg (λe=>h.1 e.symm)];exact ih h.2
theorem WhZ{id:Nat}:∀(a:List Rc) (m:Wab×Nat),(∀ρ∈a,ρ.mv=true->id∉Wha ρ.pre)->look (Whh a m).1 id=look m.1 id
 | [],_,_=>rfl
 |ρ::a,m,h=>by
  rw[Whh,WhZ a _ λx hx=>h x (Xe _ hx)];split
  .rename_i hm;exact Why (h ρ (Xh ..) hm)
  .rfl
def WkC(ops:Array Oper):Prop:=∀i j t,WdW ops i=some t->WdW ops j=some t->i=j
theorem Wf6{t:Nat}:∀(a:List Rc) (e:Nat->Option AVal),(∀ρ∈a,WdW ops ρ.i≠some t)->WoA ops a e t=e t
 | [],_,_=>rfl
 |ρ::a,e,h=>by
  rw[WoA,Wf6 a _ λx hx=>h x (Xe _ hx),if_neg (h ρ (Xh ..))]
theorem WhN{t:Nat}(h1:WkC ops):∀(a:List Rc) (e:Nat->Option AVal),(a.map (·.i)).Nodup->∀ρ∈a,WdW ops ρ.i=some t->WoA ops a e t=some ρ.v
 | [],_,_,_,h,_=>by cases h
 |x::a,e,hn,ρ,hρ,ht=>by
  rw[Xam,Xaj]at hn;rw[WoA];rcases Xq.1 hρ with rfl|hρ
  .rw[Wf6 a _ λy hy xa=>hn.1 (by rw[h1 _ _ _ ht xa];exact Xv.2 ⟨y,hy,rfl⟩),if_pos ht]
  .exact WhN h1 a _ hn.2 ρ hρ ht
theorem Wjn{t:Nat}(h1:WkC ops){a b:List Rc}{e:Nat->Option AVal}(ha:(a.map (·.i)).Nodup)(hb:(b.map (·.i)).Nodup)
  (h:∀ρ,WdW ops ρ.i=some t->(ρ∈a↔ρ∈b)):WoA ops a e t=WoA ops b e t:=by
 by_cases hx:∃ρ∈a,WdW ops ρ.i=some t
 .obtain⟨ρ,hρ,ht⟩:=hx;rw[WhN h1 a e ha ρ hρ ht,WhN h1 b e hb ρ ((h ρ ht).1 hρ) ht]
 .rw[Wf6 a e λρ hρ ht=>hx ⟨ρ,hρ,ht⟩,Wf6 b e λρ hρ ht=>hx ⟨ρ,(h ρ ht).2 hρ,ht⟩]
end
end Go.Sx
namespace Go.Sx
set_option linter.unusedVariables false
set_option linter.unusedSimpArgs false
theorem Wfz{α:Type}{x:α}:∀{a c b d:List α},(a++x::b).Nodup->a++x::b=c++x::d->a=c
 | [],[],_,_,_,_=>rfl
 | [],y::c,b,d,hn,h=>by
  simp only[Xby,Xbd,List.cons.injEq]at h;obtain⟨rfl,h⟩:=h;rw[Xby,Xaj]at hn;exact absurd (by rw[h];simp) hn.1
 |y::a,[],b,d,hn,h=>by
  simp only[Xby,Xbd,List.cons.injEq]at h;obtain⟨rfl,h⟩:=h;rw[Xbd,Xaj]at hn;exact absurd (by simp) hn.1
 |y::a,z::c,b,d,hn,h=>by
  simp only[Xbd,List.cons.injEq]at h;obtain⟨rfl,h⟩:=h;rw[Xbd,Xaj]at hn;rw[Wfz hn.2 h]
def WaB(ops:Array Oper)(i:Nat):Bool:=match ops[i]? with
 |some o=>WaG o
 |none=>false
theorem Rel.same{w0:World}{F:CS}{nt:Slots}{G0 G:GH}{ν:Nat->Nu}{st am:St}{a:Act}{w:World}(h:Rel w0 F nt G0 G ν st a w)
  (he:∀t,look am.env t=look st.env t) (ho:am.objs=st.objs) (hn:am.nx=st.nx):Rel w0 F nt G0 G ν am a w:=
 ⟨h.defers,h.ntm,h.par,λi x hx=>by rw[he]at hx;rw[hn];exact h.env i x hx,by rw[ho,hn];exact h.h,h.gx⟩
theorem WtX:∀(rs:List Rc),(rs.map (·.i)).Nodup->∃rec:Nat->Rc,∀ρ∈rs,rec ρ.i=ρ
 | [],_=>⟨λi=>⟨i,.tup [],[],0,[],false⟩,by simp⟩
 |ρ::rs,h=>by
  rw[Xam,Xaj]at h;obtain⟨rec,hr⟩:=WtX rs h.2;refine⟨λi=>if i=ρ.i then ρ else rec i,λx hx=>?_⟩;rcases Xq.1 hx with rfl|hx
  .simp
  .simp only;rw[if_neg (λe=>h.1 (by rw[←e];exact Xv.2 ⟨x,hx,rfl⟩))];exact hr x hx
section
variable{w0:World}{F:CS}{nt:Slots}{G0:GH}{P:Program}{T:Tab}{Γ:Ctx}{A:List (Nat×An)}{ops:Array Oper}{Q:Exit->Act->World->Prop}
theorem Wsb(hT:Waf P T)(hΓ:WeT P Γ)(hd:∀o∈ops,∀d,o.dst=some d->nt.Ok d){l L:List Nat}(hl:Order ops l)(hL:Order ops L)(dY:WkC ops)
  (hsl:∀(i:Nat) (o:Oper) (t:Nat),ops[i]?=some o->t∈Wc8 ops o->∀j,WdW ops j=some t->j=i\/WcR (Wea ops.toList []) j i=true\/WcR (Wea ops.toList []) i j=true)
  (hσ:l.filter (WaB ops)=L.filter (WaB ops)) {rs:List Rc} {st ah:St} (gi:rs.map (·.i)=L) (jR:Wup T Γ A ops rs st ah) (bS:rs.Pairwise (Wwi (Wea ops.toList [])))
  (hK:∀a w G ν,Rel w0 F nt G0 G ν ah a w->Q .normal a w) {a:Act} {w:World} {G:GH} {ν:Nat->Nu} (hr:Rel w0 F nt G0 G ν st a w):wpOps P ops Q l a w:=by
 have aW:(rs.map (·.i)).Nodup:=by rw[gi];exact hL.nodup
 obtain⟨rec,bm⟩:=WtX rs aW;have hLr:L.map rec=rs:=by
  rw[←gi,Xeh]
  conv=>rhs;rw[←List.map_id rs]
  exact Xdp λρ hρ=>bm ρ hρ
 have il:∀i,i∈l↔i∈L:=λi=>by rw[←hl.all,hL.all]
 have iI:∀i∈L,(rec i).i=i/\rec i∈rs:=λi hi=>by
  rw[←gi]at hi;obtain⟨ρ,hρ,rfl⟩:=Xv.1 hi;rw[bm ρ hρ];exact⟨rfl,hρ⟩
 have im:∀i∈L,∃pre post o dF am,L=pre++i::post/\Wup T Γ A ops (pre.map rec) st dF/\StepTo T Γ A ops (rec i) o dF am:=λi hi=>by
  obtain⟨pre,post,e⟩:=Xei hi;have:rs=pre.map rec++rec i::post.map rec:=by rw[←hLr,e];simp
  rw[this]at jR;obtain⟨o,dF,am,h1,h2⟩:=Wju _ _ _ _ _ jR;exact⟨pre,post,o,dF,am,e,h1,h2⟩
 have ge:∀i∈L,(rec i).mv=WaB ops i:=λi hi=>by
  obtain⟨pre,post,o,dF,am,e,h1,h2⟩:=im i hi;rw[h2.isM];have:=h2.at_;rw[(iI i hi).1]at this;unfold WaB;rw[this]
 have fh:∀(p:List Nat),(∀i∈p,i∈L)->(p.map rec).filter (·.mv)=(p.filter (WaB ops)).map rec:=by
  intro p
  induction p with
  |nil=>intro _;rfl
  |cons i p ih=>
   intro h;have:=ih λj hj=>h j (Xe _ hj);rw[Xam,Xbj,Xbj,ge i (h i (Xh ..))];split
   .rw[Xam,this]
   .exact this
 have mZ:∀(p:List Nat),(∀i∈p,i∈L)->(p.map rec).map (·.i)=p:=by
  intro p h;rw[Xeh]
  conv=>rhs;rw[←List.map_id p]
  exact Xdp λi hi=>(iI i (h i hi)).1
 have eT:∀(p:List Nat),(∀i∈p,i∈L)->∀i∈L,(rec i∈p.map rec↔i∈p):=λp hp i hi=>by
  constructor
  .intro h;obtain⟨j,hj,e⟩:=Xv.1 h;have:j=i:=by rw[←(iI j (hp j hj)).1,←(iI i hi).1,e]
   rw[←this];exact hj
  .exactλh=>Xv.2 ⟨i,h,rfl⟩
 have mc:∀i j pre post,L=pre++i::post->j∈post->Wwi (Wea ops.toList []) (rec i) (rec j):=λi j pre post e hj=>by
  have:rs=pre.map rec++rec i::post.map rec:=by rw[←hLr,e];simp
  rw[this,List.pairwise_append]at bS;exact(List.pairwise_cons.1 bS.2.1).1 _ (Xv.2 ⟨j,hj,rfl⟩)
 suffices main:∀(s p:List Nat),l=p++s->∀(am:St) (a:Act) (w:World) (G:GH) (ν:Nat->Nu),Rel w0 F nt G0 G ν am a w->
   (∀t,look am.env t=WoA ops (p.map rec) (look st.env) t)->(am.objs,am.nx)=Whh (p.map rec) (st.objs,st.nx)->wpOps P ops Q s a w from
  main l [] rfl st a w G ν hr (λ_=>rfl) rfl
 intro s
 induction s with
 |nil=>
  intro p e am a w G ν gh he hm;rw[Xcz]at e;subst e;obtain⟨f1,f2⟩:=Wgl _ _ _ jR;have pO:∀i∈l,i∈L:=λi hi=>(il i).1 hi;refine hK a w G ν (gh.same (λt=>?_) ?_ ?_)
  .rw[f1,he];refine Wjn dY aW (by rw[mZ l pO];exact hl.nodup) λρ _=>?_;constructor
   .intro hρ;have hi:ρ.i∈L:=by rw[←gi];exact Xv.2 ⟨ρ,hρ,rfl⟩
    rw[←bm ρ hρ];exact(eT l pO ρ.i hi).2 ((il _).2 hi)
   .intro hρ;obtain⟨i,hi,rfl⟩:=Xv.1 hρ;exact(iI i (pO i hi)).2
  .have:Whh (l.map rec) (st.objs,st.nx)=Whh rs (st.objs,st.nx):=by
    rw[WbB,fh l pO,hσ,←fh L (λi hi=>hi),←WbB,hLr]
   rw[this,←f2]at hm;exact(congrArg (·.1) hm).symm
  .have:Whh (l.map rec) (st.objs,st.nx)=Whh rs (st.objs,st.nx):=by
    rw[WbB,fh l pO,hσ,←fh L (λi hi=>hi),←WbB,hLr]
   rw[this,←f2]at hm;exact(congrArg (·.2) hm).symm
 |cons i s ih=>
  intro p e am a w G ν gh he hm;have ov:i∈L:=(il i).1 (by rw[e];simp);have pP:∀j∈p,j∈L:=λj hj=>(il j).1 (by rw[e];exact Xk _ hj);obtain⟨pre,post,o,dF,xb,eL,h1,h2⟩:=im i ov;have io:∀j∈pre,j∈L:=λj hj=>by rw[eL];exact Xk _ hj
  have rL:ops[i]?=some o:=by have:=h2.at_;rw[(iI i ov).1]at this;exact this
  obtain⟨g1,g2⟩:=Wgl _ _ _ h1;have ld:=hl.nodup;have lh:=hL.nodup;rw[e]at ld;rw[eL]at lh;have li:i∉p:=λh=>(Xah.1 ld).2.2 i h i (Xh ..) rfl;have ip:i∉pre:=λh=>(Xah.1 lh).2.2 i h i (Xh ..) rfl;have m0:∀t∈Wc8 ops o,look am.env t=look dF.env t:=λt ht=>by
   rw[he,g1];refine Wjn dY (by rw[mZ p pP];exact(Xah.1 ld).1) (by rw[mZ pre io];exact(Xah.1 lh).1) λρ hρt=>?_;have key:∀j∈L,WdW ops j=some t->(j∈p↔j∈pre):=λj hj rG=>by
    rcases hsl i o t rL ht j rG with rfl|hb|hb
    .exact⟨λh=>absurd h li,λh=>absurd h ip⟩
    .by_cases pQ:j=i
     .subst pQ;exact⟨λh=>absurd h li,λh=>absurd h ip⟩
     .exact⟨λ_=>hL.bef' eL hb pQ,λ_=>hl.bef' e hb pQ⟩
    .exact⟨λh=>absurd (hl.bef e hb h) li,λh=>absurd (hL.bef eL hb h) ip⟩
   constructor
   .intro hρ;obtain⟨j,hj,rfl⟩:=Xv.1 hρ;have pR:=pP j hj;rw[(iI j pR).1]at hρt;exact Xv.2 ⟨j,(key j pR hρt).1 hj,rfl⟩
   .intro hρ;obtain⟨j,hj,rfl⟩:=Xv.1 hρ;have pR:=io j hj;rw[(iI j pR).1]at hρt;exact Xv.2 ⟨j,(key j pR hρt).2 hj,rfl⟩
  have uP:Whh (p.map rec) (st.objs,st.nx)=Whh ((p.filter (WaB ops)).map rec) (st.objs,st.nx):=by rw[WbB,fh p pP]
  have md:Whh (pre.map rec) (st.objs,st.nx)=Whh ((pre.filter (WaB ops)).map rec) (st.objs,st.nx):=by rw[WbB,fh pre io]
  obtain⟨xc,h3⟩:=h2.move (am:=am) m0 (λdR=>by
   have pS:WaB ops i=true:=by rw[←ge i ov];exact dR
   have:p.filter (WaB ops)=pre.filter (WaB ops):=by
    have q:=hσ;rw[e,eL,Xcv,Xcv,Xbj,Xbj,if_pos pS,if_pos pS]at q;refine Wfz ?_ q;have:=hl.nodup.filter (WaB ops);rw[e,Xcv,Xbj,if_pos pS]at this;exact this
   rw[uP,this,←md,←g2]at hm;exact⟨congrArg (·.1) hm,congrArg (·.2) hm⟩) (λfM id bE=>by
   have q:(p.filter (WaB ops))<+:l.filter (WaB ops):=by rw[e,Xcv];exact Xgk _ _
   have q2:(pre.filter (WaB ops))<+:l.filter (WaB ops):=by rw[hσ,eL,Xcv];exact Xgk _ _
   have sE:am.objs=(Whh ((p.filter (WaB ops)).map rec) (st.objs,st.nx)).1:=by rw[←uP,←hm]
   have ol:dF.objs=(Whh ((pre.filter (WaB ops)).map rec) (st.objs,st.nx)).1:=by rw[←md,←g2]
   rw[sE,ol];rcases List.prefix_or_prefix_of_prefix q q2 with⟨X,hX⟩|⟨X,hX⟩
   .
    rw[←hX,Xr,WdD];refine(WhZ _ _ λρ hρ hρm=>?_).symm;obtain⟨m,oz,rfl⟩:=Xv.1 hρ;have gR:m∈pre:=(Xat.1 (by rw[←hX];exact Xg _ oz:m∈pre.filter (WaB ops))).1;have m5:m∉p:=λhmem=>by
     have sX:WaB ops m=true:=(Xat.1 (by rw[←hX];exact Xg _ oz:m∈pre.filter (WaB ops))).2;have jS:(pre.filter (WaB ops)).Nodup:=(Xah.1 lh).1.filter _;rw[←hX]at jS;exact(Xah.1 jS).2.2 m (Xat.2 ⟨hmem,sX⟩) m oz rfl
    obtain⟨u,v,eu⟩:=Xei gR;have hf:=mc m i u (v++i::post) (by rw[eL,eu];simp) (by simp);rcases hf.2 hρm fM with hb|hb
    .rw[(iI m (io m gR)).1,(iI i ov).1]at hb;exact absurd (hl.bef' e hb (λhc=>ip (hc▸gR))) m5
    .exact hb id bE
   .rw[←hX,Xr,WdD];refine WhZ _ _ λρ hρ hρm=>?_;obtain⟨m,oz,rfl⟩:=Xv.1 hρ;have uQ:m∈p.filter (WaB ops):=by rw[←hX];exact Xg _ oz
    have lj:m∈p:=(Xat.1 uQ).1;have m5:m∉pre:=λhmem=>by
     have sX:WaB ops m=true:=(Xat.1 uQ).2;have jS:(p.filter (WaB ops)).Nodup:=(Xah.1 ld).1.filter _;rw[←hX]at jS;exact(Xah.1 jS).2.2 m (Xat.2 ⟨hmem,sX⟩) m oz rfl
    have uR:=pP m lj;have m6:m∈post:=by
     rw[eL]at uR;rcases Xl.1 uR with h|h
     .exact absurd h m5
     .rcases Xq.1 h with h|h
      .exact absurd (h▸lj) li
      .exact h
    have hf:=mc i m pre post eL m6;rcases hf.1 fM hρm with hb|hb
    .rw[(iI m (pP m lj)).1,(iI i ov).1]at hb;exact absurd (hl.bef e hb lj) li
    .exact hb id bE)
  have xd:∀d,o.dst=some d->nt.Ok d:=hd o (Array.mem_of_getElem? rL);have rM:=Wt4 (F:=F) (G0:=G0) (w0:=w0) hT hΓ xd (Q:=Q) (k:=some) (r:=xc) (K:=wpOps P ops Q s) (λxe a' w' G' ν' hr4 h4=>by
   injection h4 with h4;subst h4;refine ih (p++ [i]) (by rw[e];simp) xe a' w' G' ν' hr4 (λt=>?_) ?_
   .rw[h3.env];have hv:WoA ops ((p++ [i]).map rec) (look st.env) t=if WdW ops i=some t then some (rec i).v else WoA ops (p.map rec) (look st.env) t:=by
     rw[Xr];have gen:∀(x:List Rc) (y:Rc) (e:Nat->Option AVal),WoA ops (x++ [y]) e t=if WdW ops y.i=some t then some y.v else WoA ops x e t:=by
      intro x
      induction x with
      |nil=>intro y e;rfl
      |cons z x ih=>intro y e;rw[Xbd,WoA,ih];rfl
     rw[List.map_singleton,gen,(iI i ov).1]
    rw[hv,he];have:WdW ops i=o.dst:=by unfold WdW;rw[rL];rfl
    rw[this]
   .rw[Xr,WdD,←hm];simp only[Xam,Xcg,Whh];rw[h3.objs,h3.nx];split<;>rfl) gh h3.run
  rw[wpOps_cons];unfold wpOp;rw[rL];simp only;split
  .rename_i hw;rw[if_pos hw]at rM;exact .inl rM
  .rename_i hw;rw[if_neg hw]at rM;exact rM
end
end Go.Sx
namespace Go.Sx
set_option linter.unusedVariables false
set_option linter.unusedSimpArgs false
theorem Wi8:∀{l:List (Nat×Nat)},Wbl (l.map (·.1))=true->∀p∈l,∀q∈l,p.1=q.1->p=q
 | [],_,p,hp,_,_,_=>by cases hp
 |x::l,h,p,hp,q,hq,e=>by
  have hn:=(WeG _).1 h;simp only[Xam,Wbl,Xi]at h;rw[Xam,Xaj]at hn;rcases Xq.1 hp with h1|h1
  .rcases Xq.1 hq with h2|h2
   .rw[h1,h2]
   .exact absurd (Xv.2 ⟨q,h2,by rw[←e,h1]⟩) hn.1
  .rcases Xq.1 hq with h2|h2
   .exact absurd (Xv.2 ⟨p,h1,by rw[e,h2]⟩) hn.1
   .exact Wi8 h.2 p h1 q h2 e
theorem Wjm:∀(l:List Oper) (n k:Nat) (o:Oper) (d:Nat),l[k]?=some o->o.dst=some d->(d,n+k)∈Wg4 l n
 | [],_,k,o,d,h,_=>by simp at h
 |x::l,n,k,o,d,h,hd=>by
  cases k with
  |zero=>
   simp at h;subst h;simp only[Wg4,hd];exact Xh ..
  |succ k=>
   have:=Wjm l (n+1) k o d (by simpa using h) hd;have e:n+(k+1)=n+1+k:=by omega
   rw[e];simp only[Wg4];split
   .exact Xe _ this
   .exact this
theorem Wg6{ops:Array Oper}{B:List (List Nat)}{D:List (Nat×Nat)}:∀(l:List Oper) (n:Nat),Wkf ops B D l n=true->∀(k:Nat) (o:Oper),l[k]?=some o->∀t∈Wc8 ops o,∀p∈D,p.1=t->
  p.2=n+k\/WcR B p.2 (n+k)=true\/WcR B (n+k) p.2=true
 | [],_,_,k,o,h=>by simp at h
 |x::l,n,h,k,o,hk=>by
  simp only[Wkf,Xi]at h;cases k with
  |zero=>
   simp at hk;subst hk;intro t ht p hp e;have:=Xak.1 (Xak.1 h.1 t ht) p hp;simp only[Xcl,Xar]at this;rcases this with((h1|h1)|h1)|h1
   .rw[e]at h1;simp at h1
   .exact .inl (by simpa using h1)
   .exact .inr (.inl h1)
   .exact .inr (.inr h1)
  |succ k=>
   have:=Wg6 l (n+1) h.2 k o (by simpa using hk);have e:n+(k+1)=n+1+k:=by omega
   rw[e];exact this
structure RegOk(ops:Array Oper):Prop where
 back:∀(k:Nat) (o:Oper),ops[k]?=some o->∀d∈WlO o,d<k
 one:WkC ops
 slots:∀(i:Nat) (o:Oper) (t:Nat),ops[i]?=some o->t∈Wc8 ops o->∀j,WdW ops j=some t->j=i\/WcR (Wea ops.toList []) j i=true\/WcR (Wea ops.toList []) i j=true
theorem Wif{ops:Array Oper}{j t:Nat}(h:WdW ops j=some t):(t,j)∈Wg4 ops.toList 0:=by
 unfold WdW at h;obtain⟨o,ho,hd⟩:=Xcb.1 h;have:=Wjm ops.toList 0 j o t (by simpa using ho) hd;rw[Xba]at this;exact this
theorem WoR{ops:Array Oper}(h:Wur ops (Wea ops.toList [])=true):RegOk ops:=by
 simp only[Wur,Xi]at h;obtain⟨⟨h1,h2⟩,h3⟩:=h;refine⟨λk o ho e he=>?_,λi j t hi hj=>?_,λi o t ho ht j hj=>?_⟩
 .have:=Wjc (ops:=ops) ops.toList 0 h1 k o (by simpa using ho) e he;omega
 .have:=Wi8 h2 _ (Wif hi) _ (Wif hj) rfl;exact congrArg (·.2) this
 .have:=Wg6 ops.toList 0 h3 i o (by simpa using ho) t ht _ (Wif hj) rfl;simpa using this
theorem Wjv{ops:Array Oper}:∀(l done:List Nat),Wiz ops l done=true->done.Nodup->(∀i∈done,i<ops.size)->
  (done++l).Nodup/\(∀i∈done++l,i<ops.size)/\(done++l).length=ops.size/\(∀p i s,l=p++i::s->∀o,ops[i]?=some o->∀d∈WlO o,d∈done++p)
 | [],done,h,hn,hlt=>by
  simp only[Wiz]at h;exact⟨by simpa using hn,by simpa using hlt,by simpa using h,λp i s e=>by simp at e⟩
 |x::l,done,h,hn,hlt=>by
  simp only[Wiz,Xi,Xar]at h;obtain⟨⟨h1,h2⟩,h3⟩:=h;have hx:x∉done:=λhm=>by rw[(WaF x done).2 hm]at h1;cases h1
  cases ho:ops[x]? with
  |none=>rw[ho]at h2;cases h2
  |some o=>
   rw[ho]at h2;have mT:x<ops.size:=(Xdi.1 ho).1;obtain⟨g1,g2,g3,g4⟩:=Wjv l (x::done) h3 (Xaj.2 ⟨hx,hn⟩) (λi hi=>by
    rcases Xq.1 hi with rfl|hi
    .exact mT
    .exact hlt i hi)
   have jT:List.Perm (x::done++l) (done++x::l):=by simpa using(List.perm_middle (a:=x) (l₁:=done) (l₂:=l)).symm
   refine⟨jT.nodup_iff.1 g1,λi hi=>g2 i (jT.mem_iff.2 hi),by rw[←jT.length_eq];exact g3,λp i s e o' gw d hd=>?_⟩;cases p with
   |nil=>
    simp only[Xby,List.cons.injEq]at e;obtain⟨rfl,_⟩:=e;rw[ho]at gw;injection gw with gw;subst gw;have:=Xak.1 h2 d hd;simpa using(WaF d done).1 this
   |cons y p=>
    simp only[Xbd,List.cons.injEq]at e;obtain⟨rfl,e⟩:=e;have:=g4 p i s e o' gw d hd;simp only[Xbd,Xq,Xl]at this⊢;rcases this with h|h|h
    .exact .inr (.inl h)
    .exact .inl h
    .exact .inr (.inr h)
theorem Wm1{l:List Nat}{n:Nat}(hn:l.Nodup)(hlt:∀i∈l,i<n)(hlen:l.length=n):∀i,i<n->i∈l:=by
 intro i hi;refine Classical.byContradiction λh=>?_;have h1:(i::l).Nodup:=Xaj.2 ⟨h,hn⟩;have h2:∀j∈i::l,j∈Xdl n:=λj hj=>by
  rw[Xel];rcases Xq.1 hj with rfl|hj
  .exact hi
  .exact hlt j hj
 have key:∀(a b:List Nat),a.Nodup->(∀x∈a,x∈b)->a.length<=b.length:=by
  intro a
  induction a with
  |nil=>intro b _ _;simp
  |cons x a ih=>
   intro b m7 d9;rw[Xaj]at m7;have pT:x∈b:=d9 x (Xh ..);have:=ih (b.erase x) m7.2 λy hy=>(Xgb (λe=>m7.1 (by rw[←e];exact hy))).2 (d9 y (Xe _ hy));rw[Xeg pT]at this;have hpos:=Xfv pT;simp;omega
 have:=key _ _ h1 h2;rw[Xfk,Xw]at this;omega
theorem WmY{ops:Array Oper}{l:List Nat}(h:Wiz ops l []=true):Order ops l:=by
 obtain⟨h1,h2,h3,h4⟩:=Wjv l [] h Xcu (by simp);rw[Xby]at h1 h2 h3;exact⟨h1,λi=>⟨Wm1 h1 h2 h3 i,h2 i⟩,λp i s e o ho d hd=>by simpa using h4 p i s e o ho d hd⟩
theorem Wjk:∀(l:List Oper) (n i:Nat),i∈Wg8 l n↔n<=i/\∃o,l[i-n]?=some o/\WaG o=true
 | [],n,i=>by simp[Wg8]
 |o::l,n,i=>by
  have ih:=Wjk l (n+1) i;have jU:(n<=i/\∃o',(o::l)[i-n]?=some o'/\WaG o'=true)↔(i=n/\WaG o=true)\/(n+1<=i/\∃o',l[i-(n+1)]?=some o'/\WaG o'=true):=by
   by_cases hi:i=n
   .subst hi;constructor
    .rintro⟨_,o',h1,h2⟩;rw[Xde]at h1;injection h1 with h1;subst h1;exact .inl ⟨rfl,h2⟩
    .rintro(⟨_,h⟩|⟨h,_⟩)
     .exact⟨Xn _,o,by rw[Xde];rfl,h⟩
     .omega
   .constructor
    .rintro⟨h0,o',h1,h2⟩;have e:i-n=(i-(n+1))+1:=by omega
     rw[e,Xdr]at h1;exact .inr ⟨by omega,o',h1,h2⟩
    .rintro(⟨h,_⟩|⟨h0,o',h1,h2⟩)
     .exact absurd h hi
     .have e:i-n=(i-(n+1))+1:=by omega
      exact⟨by omega,o',by rw[e,Xdr];exact h1,h2⟩
  rw[jU,←ih];simp only[Wg8];cases hm:WaG o with
  |true=>simp
  |false=>simp
theorem Wl7{ops:Array Oper}{i:Nat}:i∈Wg8 ops.toList 0↔WaB ops i=true:=by
 rw[Wjk];unfold WaB;simp only[Xbr,true_and,Xdf,Array.getElem?_toList];cases ops[i]? with
 |none=>simp
 |some o=>simp
theorem Wou{B:List (List Nat)}:∀(σ rem:List Nat) (n:Nat),σ.length<=n->σ.Nodup->(∀i,i∈rem↔i∈σ)->(∀p m s,σ=p++m::s->∀m'∈m::s,WcR B m' m=false)->σ∈WuN B n rem
 | [],rem,n,hn,aW,hmem,hb=>by
  have:rem= []:=Xev.2 λi hi=>by have:=(hmem i).1 hi;cases this
  subst this;cases n<;>simp[WuN]
 |m::s,rem,0,hn,_,_,_=>by simp at hn
 |m::s,rem,n+1,hn,aW,hmem,hb=>by
  have hm:m∈rem:=(hmem m).2 (Xh ..);rw[Xaj]at aW;cases iJ:rem with
  |nil=>rw[iJ]at hm;cases hm
  |cons x xs=>
   rw[←iJ];have xf:WuN B (n+1) rem=(rem.filter λm=>rem.all λm'=>!WcR B m' m).flatMap λm=>(WuN B n (rem.filter λx=>!Xbv x m)).map (m:: ·):=by rw[iJ];rfl
   rw[xf];refine Xfo.2 ⟨m,Xat.2 ⟨hm,Xak.2 λm' gM=>?_⟩,Xv.2 ⟨s,?_,rfl⟩⟩
   .rw[hb [] m s rfl m' ((hmem m').1 gM)];rfl
   .refine Wou s _ n (by simpa using hn) aW.2 (λi=>?_) (λp q s' e=>hb (m::p) q s' (by rw[e];rfl));rw[Xat,hmem,Xq];constructor
    .rintro⟨h1,h2⟩;rcases h1 with rfl|h1
     .simp at h2
     .exact h1
    .intro h;refine⟨.inr h,?_⟩;have hne:i≠m:=λe=>aW.1 (e▸h);cases hb':Xbv i m with
     |false=>rfl
     |true=>exact absurd (Nat.eq_of_beq_eq_true hb') hne
theorem WtN:∀(l m:List Nat),eqN l m=true->l=m
 | [],[],_=>rfl
 | [],_::_,h=>by cases h
 |_::_,[],h=>by cases h
 |i::l,j::m,h=>by
  simp only[eqN,Xi]at h;have:i=j:=by simpa using h.1
  rw[this,WtN l m h.2]
theorem Wrn{α:Type}{a b:Option α}{r:α}(h:Whg a b=some r):a=some r/\b=some r:=by
 unfold Whg at h;split at h
 .rename_i e;exact⟨h,e▸h⟩
 .cases h
section
variable{w0:World}{F:CS}{nt:Slots}{G0:GH}{P:Program}{T:Tab}{Γ:Ctx}{A:List (Nat×An)}{R:Type}{r:R}
theorem Wos{ops:Array Oper}{B:List (List Nat)}{st:St}{k:St->Option R}:∀(l:List (List Nat)),Wvn T Γ A ops B st k l=some r->∀σ∈l,∃L,Wiz ops L []=true/\L.filter (λi=>WbQ i σ)=σ/\rdx T Γ A ops B L [] [] st k=some r
 | [],_,σ,hσ=>by cases hσ
 |τ::l,h,σ,hσ=>by
  have one:Wf0 (WjV ops.toList B ops.size [] τ) (λL=>bif Wiz ops L []&&eqN (L.filter λi=>WbQ i τ) τ then rdx T Γ A ops B L [] [] st k else none)=some r->∃L,Wiz ops L []=true/\L.filter (λi=>WbQ i τ)=τ/\rdx T Γ A ops B L [] [] st k=some r:=λh=>by
   rw[Weg]at h;obtain⟨hc,h⟩:=WaD h;simp only[Xi]at hc;exact⟨_,hc.1,WtN _ _ hc.2,h⟩
  cases l with
  |nil=>
   simp only[Wvn]at h;rcases Xq.1 hσ with rfl|hσ
   .exact one h
   .cases hσ
  |cons x l=>
   have h:Whg (Wf0 (WjV ops.toList B ops.size [] τ) (λL=>bif Wiz ops L []&&eqN (L.filter λi=>WbQ i τ) τ then rdx T Γ A ops B L [] [] st k else none)) (Wvn T Γ A ops B st k (x::l))=some r:=h;obtain⟨h1,h2⟩:=Wrn h;rcases Xq.1 hσ with rfl|hσ
   .exact one h1
   .exact Wos (x::l) h2 σ hσ
theorem Wth(hM:P.follows .mixedOrders=true)(hT:Waf P T)(hΓ:WeT P Γ){id:Nat}{ops:Array Oper}(hd:∀o∈ops,∀d,o.dst=some d->nt.Ok d){k:St->Option R}{Q:Exit->Act->World->Prop}(hK:Wrj w0 F nt G0 k r (Q .normal)):
  Wrj w0 F nt G0 (λst=>Wuc T Γ A ops st k) r ((Code.region id ops true).wp P Q):=λst a w G ν hr h=>by
 simp only[Wuc,Wl9]at h;obtain⟨sY,h⟩:=WaD h;have hR:=WoR sY;refine wp_region_draw λt=>?_;rw[hM];have hl:Order ops (Region.schedule true ops t):=WiP hR.back;generalize Region.schedule true ops t=l at hl;have hσ:l.filter (WaB ops)∈WuN (Wea ops.toList []) ops.size (Wg8 ops.toList 0):=by
  refine Wou _ _ _ ?_ (hl.nodup.filter _) (λi=>?_) (λp m s e m' gM=>?_)
  .refine Xcr (Xet _ _) ?_;have dv:l.length<=(Xdl ops.size).length:=by
    have key:∀(a b:List Nat),a.Nodup->(∀x∈a,x∈b)->a.length<=b.length:=by
     intro a
     induction a with
     |nil=>intro b _ _;simp
     |cons x a ih=>
      intro b m7 d9;rw[Xaj]at m7;have pT:x∈b:=d9 x (Xh ..);have:=ih (b.erase x) m7.2 λy hy=>(Xgb (λe=>m7.1 (by rw[←e];exact hy))).2 (d9 y (Xe _ hy));rw[Xeg pT]at this;have hpos:=Xfv pT;simp;omega
    exact key _ _ hl.nodup λx hx=>Xel.2 ((hl.all x).2 hx)
   rw[Xfk]at dv;exact dv
  .rw[Wl7,Xat];constructor
   .intro h;refine⟨(hl.all i).1 ?_,h⟩;unfold WaB at h;split at h
    .rename_i o ho;exact(Xdi.1 ho).1
    .cases h
   .exactλh=>h.2
  .cases hb:WcR (Wea ops.toList []) m' m with
   |false=>rfl
   |true=>
    exfalso;have oA:m∈l:=(Xat.1 (by rw[e];simp:m∈l.filter (WaB ops))).1;obtain⟨u,v,eu⟩:=Xei oA;have hm'u:m'∈u++ [m]:=hl.bef (p:=u++ [m]) (s:=v) (by rw[eu];simp) hb (by simp);have uS:WaB ops m=true:=(Xat.1 (by rw[e];simp:m∈l.filter (WaB ops))).2;have pU:=hl.nodup.filter (WaB ops);have e2:l.filter (WaB ops)=u.filter (WaB ops)++m::v.filter (WaB ops):=by rw[eu,Xcv,Xbj,if_pos uS]
    have xg:p=u.filter (WaB ops):=by
     refine Wfz (b:=s) (d:=v.filter (WaB ops)) (x:=m) ?_ ?_
     .rw[←e];exact pU
     .rw[←e,e2]
    rcases Xq.1 gM with rfl|hm's
    .
     have:=hl.bef (p:=u++ [m']) (s:=v) (by rw[eu];simp) hb (by simp);have hcl:Wme ops (λj=>j∈u\/(j=m'/\False)):=λi o ho hi d hd=>by
      rcases hi with hi|⟨_,hf⟩
      .exact .inl (hl.closed (p:=u) (s:=m'::v) eu i o ho hi d hd)
      .exact hf.elim
     have back:∀(j i:Nat),WcR (Wea ops.toList []) j i=true->j<i:=λj i pQ=>by
      have hcl2:Wme ops (λx=>x<i\/(x=i)):=λx o ho hx d hd=>by
       have:d<x:=hR.back x o ho d hd;omega
      refine Classical.byContradiction λhn=>?_;have hlt:∀(l:List Oper) (acc:List (List Nat)),(∀(k:Nat) (o:Oper),l[k]?=some o->ops[acc.length+k]?=some o)->(∀i,∀j∈acc.getD i [],j<i)->∀i,∀j∈(Wea l acc).getD i [],j<i:=by
       intro l
       induction l with
       |nil=>intro acc _ h;exact h
       |cons o l ih=>
        intro acc hl h;refine ih _ (λk o' hk=>?_) (λi j hj=>?_)
        .have:=hl (k+1) o' (by simpa using hk);rw[Xae];have e:acc.length+(k+1)=acc.length+ [WjX acc (WlO o) []].length+k:=by simp;omega
         rw[←e];exact this
        .rw[Xac,Xaz]at hj;split at hj
         .exact h i j (by rw[Xac];exact hj)
         .by_cases he:i=acc.length
          .subst he;simp only[Xde,Xdq,Xeb]at hj;rcases(Wh1 _ _).1 hj with⟨k,hk,iZ⟩|hj
           .have lY:k<acc.length:=hR.back acc.length o (hl 0 o (by simp)) k hk;rcases iZ with rfl|iZ
            .exact lY
            .have:=h k j iZ;omega
           .cases hj
          .have:[WjX acc (WlO o) []][i-acc.length]?=none:=Xbg (by simp;omega);rw[this]at hj;cases hj
      exact hn (hlt ops.toList [] (λk o hk=>by simpa using hk) (λi j hj=>by simp at hj) i j ((WaF _ _).1 pQ))
     have:=back m' m' hb;omega
    .
     have hm'l:m'∈p:=by
      rw[xg];rcases Xl.1 hm'u with h|h
      .refine Xat.2 ⟨h,?_⟩;exact(Xat.1 (by rw[e];simp[hm's]:m'∈l.filter (WaB ops))).2
      .simp at h;subst h;rw[e]at pU;have:=(Xaj.1 (Xah.1 pU).2.1).1;exact absurd hm's this
     rw[e]at pU;exact(Xah.1 pU).2.2 m' hm'l m' (Xe _ hm's) rfl
 obtain⟨L,g1,g2,g3⟩:=Wos _ h _ hσ;have hL:=WmY g1;obtain⟨rs,ah,q1,q2,q3,q4,_,_⟩:=Wkd _ _ _ _ g3;have hf:l.filter (WaB ops)=L.filter (WaB ops):=by
  rw[←g2];refine List.filter_congr λi hi=>?_;cases hm:WaB ops i with
  |true=>exact(WaF _ _).2 (Xat.2 ⟨(hl.all i).1 ((hL.all i).2 hi),hm⟩)
  |false=>
   cases he:WbQ i (l.filter (WaB ops))with
   |false=>rfl
   |true=>
    have:=(Xat.1 ((WaF _ _).1 he)).2;rw[hm]at this;cases this
 have bh:Rel w0 F nt G0 G ν st a {w with drawn:=w.drawn+1}:=⟨hr.defers,hr.ntm,hr.par,hr.env,?_,hr.gx⟩
 .exact Wsb hT hΓ hd hl hL hR.one hR.slots hf q1 q2 q4 (λa w G ν hr=>hK ah a w G ν hr q3) bh
 .exact hr.h.drew
end
end Go.Sx
namespace Go.Sx
set_option linter.unusedVariables false
set_option linter.unusedSimpArgs false
section
variable{w0:World}{F:CS}{nt:Slots}{G0:GH}{P:Program}{T:Tab}{Γ:Ctx}{A:List (Nat×An)}{R:Type}{r:R}
theorem Wnn(hM:P.follows .mixedOrders=true)(hT:Waf P T)(hΓ:WeT P Γ){n:Nat}{kept:List Nat}(hn:nt.n=n)(m8:∀p∈nt.kept,p.1∈kept){ann:Nat->List Ghost}{N:Nat}:∀(c:Code),Wdj n kept c=true->∀{k:Ex->St->Option R} {Q:Exit->Act->World->Prop},
  (∀e,Wrj w0 F nt G0 (k e) r (Q e.to))->Wrj w0 F nt G0 (λst=>sx T Γ ann N c st k) r (c.wp P Q)
 | .skip,_,k,Q,hK=>λst a w G ν hr h=>wp_skip (hK .normal st a w G ν hr h)
 | .exit id,_,k,Q,hK=>λst a w G ν hr h=>wp_exit (hK (.exit id) st a w G ν hr h)
 | .ret,_,k,Q,hK=>λst a w G ν hr h=>wp_ret (hK .ret st a w G ν hr h)
 | .region id ops draw,aX,k,Q,hK=>λst a w G ν hr h=>by
  have kB:Wrj w0 F nt G0 (λah=>match WdT (ann id) ah with|some (c,ck)=>bif c then k .normal ck else none|none=>none) r (Q .normal):=λah a' w' G' ν' bh h'=>by
   simp only at h';split at h'
   .rename_i c ck hg;obtain⟨rfl,h'⟩:=WaD h';obtain⟨G2,ν2,gh⟩:=Wdo _ _ _ _ _ bh hg;exact hK .normal _ _ _ _ _ gh h'
   .cases h'
  have pV:∀o∈ops,∀d,o.dst=some d->nt.Ok d:=λo ho=>Wng hn m8 (Xak.1 aX o (by simpa using ho));cases draw with
  |true=>exact Wth hM hT hΓ pV kB st a w G ν hr h
  |false=>exact wp_region_list (WtL hT hΓ ops.toList (λo ho=>pV o (by simpa using ho)) kB st a w G ν hr h)
 | .seq x y,aX,k,Q,hK=>λst a w G ν hr h=>by
  simp only[Wdj,Xi]at aX;refine wp_seq (Wnn hM hT hΓ hn m8 x aX.1 (Q:=Exit.then (y.wp P Q) Q) (λe=>?_) st a w G ν hr h);cases e with
  |normal=>exact Wnn hM hT hΓ hn m8 y aX.2 hK
  |exit id=>exact hK (.exit id)
  |ret=>exact hK .ret
 | .cond c x y,aX,k,Q,hK=>λst a w G ν hr h=>by
  simp only[Wdj,Xi]at aX;simp only[sx]at h;split at h
  .rename_i b hb;cases hv:ev st c with
   |none=>simp[hv]at hb
   |some v=>
    simp only[hv,Xd]at hb;have hc:=WmV v _ b (WE hr c v hv) hb;refine wp_cond hc ?_;cases b with
    |true=>exact Wnn hM hT hΓ hn m8 x aX.1 hK st a w G ν hr h
    |false=>exact Wnn hM hT hΓ hn m8 y aX.2 hK st a w G ν hr h
  .cases h
 | .block id c,aX,k,Q,hK=>λst a w G ν hr h=>by
  simp only[Wdj]at aX;refine wp_block (Wnn hM hT hΓ hn m8 c aX (Q:=Exit.inBlock id Q) (λe=>?_) st a w G ν hr h);cases e with
  |normal=>exact hK .normal
  |exit bL=>
   intro ah a' w' G' ν' bh h';simp only[Ex.to,Exit.inBlock];split
   .rename_i he;simp only[he,if_true]at h';exact hK .normal _ _ _ _ _ bh h'
   .rename_i he;simp only[he,if_false]at h';exact hK (.exit bL) _ _ _ _ _ bh h'
  |ret=>exact hK .ret
 | .loop c,aX,k,Q,hK=>λst a w G ν hr h=>by
  simp only[Wdj]at aX;refine wp_loop_rounds N ?_;have key:∀(m:Nat),Wrj w0 F nt G0 (λst=>Wnt (Wi0 (ann (Wfw c)) λst k=>sx T Γ ann N c st k) m st k) r (Code.rounds P c Q m):=by
   intro m
   induction m with
   |zero=>intro st a w G ν hr h;cases h
   |succ m ih=>
    intro st a w G ν hr h;rw[rounds_succ];have h:sx T Γ ann N c st (λe ah=>match e with
     | .normal=>match WdT (ann (Wfw c)) ah with
      |some (b,ck)=>bif b then Wnt (Wi0 (ann (Wfw c)) λst k=>sx T Γ ann N c st k) m ck k else none
      |none=>none
     | .exit id=>k (.exit id) ah
     | .ret=>k .ret ah)=some r:=by
     rw[←h];simp only[Wnt,Wi0];congr 1
    refine Wnn hM hT hΓ hn m8 c aX (Q:=Exit.then (Code.rounds P c Q m) Q) (λe=>?_) st a w G ν hr h;cases e with
    |normal=>
     intro ah a' w' G' ν' bh h';simp only at h';split at h'
     .rename_i b ck hg;obtain⟨rfl,h'⟩:=WaD h';obtain⟨G2,ν2,gh⟩:=Wdo _ _ _ _ _ bh hg;exact ih _ _ _ _ _ gh h'
     .cases h'
    |exit id=>exact hK (.exit id)
    |ret=>exact hK .ret
  have h:(match WdT (ann (Wfw c)) st with
   |some (b,ah)=>bif b then Wnt (Wi0 (ann (Wfw c)) λst k=>sx T Γ ann N c st k) N ah k else none
   |none=>none)=some r:=h
  split at h
  .rename_i b ah hg;obtain⟨rfl,h⟩:=WaD h;obtain⟨G2,ν2,gh⟩:=Wdo _ _ _ _ _ hr hg;exact key N _ _ _ _ _ gh h
  .cases h
 | .scope ..,_,k,Q,hK=>λst a w G ν hr h=>by cases h
 | .label ..,_,k,Q,hK=>λst a w G ν hr h=>by cases h
 | .goto ..,_,k,Q,hK=>λst a w G ν hr h=>by cases h
 | .rangeFunc ..,_,k,Q,hK=>λst a w G ν hr h=>by cases h
 | .refuse ..,_,k,Q,hK=>λst a w G ν hr h=>by cases h
end
end Go.Sx
namespace Go.Sx
set_option linter.unusedVariables false
set_option linter.unusedSimpArgs false
section
variable{w0:World}{F:CS}{nt:Slots}{G0 G G':GH}{ν:Nat->Nu}{φ:Nat->CS}{objs:Wab}{nx ak:Nat}{st ah:St}{a:Act}{w w':World}{P:Program}{T:Tab}{Γ:Ctx}
theorem Wg9:∀(xs:List AVal) (j i:Nat),look (Wgi j xs) i=if j<=i then xs[i-j]? else none
 | [],j,i=>by simp[Wgi,look]
 |x::xs,j,i=>by
  simp only[Wgi];rw[Wy,Wg9 xs (j+1) i];by_cases h:j=i
  .subst h;simp
  .by_cases h2:j<=i
   .have h3:j+1<=i:=by omega
    rw[if_neg h,if_pos h3,if_pos h2,show i-j=(i-(j+1))+1 by omega];rfl
   .rw[if_neg h,if_neg h2,if_neg (by omega)]
theorem Wjy:∀(l:List Nat),WqQ (Wi4 l)=l
 | []=>rfl
 |i::l=>by
  show i::WqQ (Wi4 l)=i::l;rw[Wjy l]
theorem WjC:∀(ps:List PTy) (d:WeW ps) (objs:Wab) (nx n:Nat),Wjr ps n=true->∃ids,ids.length=n/\(WL ps d objs nx).1.take n=Wi4 ids
 |_,_,_,_,0,_=>⟨[],rfl,rfl⟩
 | [],_,_,_,_+1,h=>by cases h
 | .v _ _::_,_,_,_,_+1,h=>by cases h
 | .mut _::_,_,_,_,_+1,h=>by cases h
 | .clos _ _::_,_,_,_,_+1,h=>by cases h
 | .kv _ _::_,_,_,_,_+1,h=>by cases h
 | .rp _::_,_,_,_,_+1,h=>by cases h
 | .vj _::_,_,_,_,_+1,h=>by cases h
 | .boxal _ _::_,_,_,_,_+1,h=>by cases h
 | .box t::ps,d,objs,nx,n+1,h=>by
  obtain⟨ids,h1,h2⟩:=WjC ps d.2 ((nx,.box (unfold t d.1 (nx+1)).1)::((unfold t d.1 (nx+1)).2.1++objs)) (unfold t d.1 (nx+1)).2.2 n h;refine⟨nx::ids,by simp[h1],?_⟩;simp only[WL,List.take_succ_cons,h2];rfl
theorem Wck:∀(ps:List PTy) (d:WeW ps) (vs:List Value) (ns:List Pc) (ks:List Nu) (objs:Wab) (nx ak:Nat),Wch ps=true->Wbf G w ps d vs ns ks->At ν φ nx ns->nx+ns.length<=ak->
  (WL ps d objs nx).2.2=nx+ns.length/\
  (∀id ob,look (WL ps d objs nx).2.1 id=some ob->(nx<=id/\id<nx+ns.length/\Wcq G ν ak w id (φ id) ob)\/look objs id=some ob)/\
  (WL ps d objs nx).1.length=vs.length/\∀(j:Nat) (x:AVal) (v:Value),(WL ps d objs nx).1[j]?=some x->vs[j]?=some v->AValRel G ν ak x v
 | [],d,vs,ns,ks,objs,nx,ak,_,⟨h1,h2,h3⟩,_,_=>by
  subst h1 h2;exact⟨rfl,λid ob h=>.inr h,rfl,λj x v h=>by simp[WL]at h⟩
 | .v t agg::ps,d,vs,ns,ks,objs,nx,ak,eQ,⟨v,vs',n1,n2,h1,h2,h3,h4⟩,hν,hx=>by
  subst h2;obtain⟨us,iX⟩:=WnE h3;have bj:=W3 _ _ _ _ iX;have hlen:(n1++n2).length=t.owns+n2.length:=by rw[Xae,bj]
  obtain⟨_,o1⟩:=Waq t d.1 nx us n1 iX hν.left;obtain⟨e1,e2,e3,e4⟩:=Wck ps d.2 vs' n2 ks ((unfold t d.1 nx).2.1++objs) (nx+t.owns) ak eQ h4 (hν.right bj) (by omega);simp only[WL,WaE];refine⟨by rw[e1,hlen];omega,λid ob hl=>?_,by rw[h1];simp[e3],λj x u hj hu=>?_⟩
  .rcases e2 id ob hl with⟨g1,g2,g3⟩|g
   .exact .inl ⟨by omega,by omega,g3⟩
   .rcases WD g with g|g
    .obtain⟨g1,g2,e,xs,rfl,g3⟩:=o1 id ob g;exact .inl ⟨g1,by omega,g3⟩
    .exact .inr g
  .rw[h1]at hu;cases j with
   |zero=>simp at hj hu;subst hj hu;exact WjY h3 hν.left (by omega)
   |succ j=>exact e4 j x u (by simpa using hj) (by simpa using hu)
 | .kv t agg::ps,d,vs,ns,ks,objs,nx,ak,eQ,⟨v,vs',n1,n2,ks',h1,h2,_,h3,h4⟩,hν,hx=>by
  subst h2;obtain⟨us,iX⟩:=WnE h3;have bj:=W3 _ _ _ _ iX;have hlen:(n1++n2).length=t.owns+n2.length:=by rw[Xae,bj]
  obtain⟨_,o1⟩:=Waq t d.1 nx us n1 iX hν.left;obtain⟨e1,e2,e3,e4⟩:=Wck ps d.2 vs' n2 ks' ((unfold t d.1 nx).2.1++objs) (nx+t.owns) ak eQ h4 (hν.right bj) (by omega);simp only[WL,WaE];refine⟨by rw[e1,hlen];omega,λid ob hl=>?_,by rw[h1];simp[e3],λj x u hj hu=>?_⟩
  .rcases e2 id ob hl with⟨g1,g2,g3⟩|g
   .exact .inl ⟨by omega,by omega,g3⟩
   .rcases WD g with g|g
    .obtain⟨g1,g2,e,xs,rfl,g3⟩:=o1 id ob g;exact .inl ⟨g1,by omega,g3⟩
    .exact .inr g
  .rw[h1]at hu;cases j with
   |zero=>simp at hj hu;subst hj hu;exact WjY h3 hν.left (by omega)
   |succ j=>exact e4 j x u (by simpa using hj) (by simpa using hu)
 | .box t::ps,d,vs,ns,ks,objs,nx,ak,eQ,⟨b,o,vs',n1,n2,ks',h1,h2,h3,⟨us,hrow,hmem,gy⟩,h6⟩,hν,hx=>by
  subst h2;have bj:=W3 _ _ _ _ gy;have hlen:((⟨Wb5 b o,rng b o t.size⟩:Pc)::(n1++n2)).length=1+t.owns+n2.length:=by rw[Xw,Xae,bj];omega
  obtain⟨hν0,hφ0⟩:ν nx=Wb5 b o/\φ nx=rng b o t.size:=by have:=hν 0 _ rfl;simpa using this
  have hν1:At ν φ (nx+1) (n1++n2):=hν.right (n1:=[⟨Wb5 b o,rng b o t.size⟩]) rfl;obtain⟨c1,o1⟩:=Waq t d.1 (nx+1) us n1 gy hν1.left;have cY:=WbY t d.1 (nx+1);obtain⟨e1,e2,e3,e4⟩:=Wck ps d.2 vs' n2 ks' ((nx,.box (unfold t d.1 (nx+1)).1)::((unfold t d.1 (nx+1)).2.1++objs)) (nx+1+t.owns) ak eQ h6 (hν1.right bj) (by omega);simp only[WL,WaE];refine⟨by rw[e1,hlen];omega,λid ob hl=>?_,by rw[h1];simp[e3],λj x u hj hu=>?_⟩
  .rcases e2 id ob hl with⟨g1,g2,g3⟩|g
   .exact .inl ⟨by omega,by omega,g3⟩
   .rw[Wy]at g;split at g
    .rename_i e;subst e;injection g with g;subst g;exact .inl ⟨Xn _,by omega,b,us,by rw[hν0];rfl,by rw[hν0,cY];exact hrow,by rw[hν0];exact hmem,c1 ak (by omega),by rw[hν0,cY,hφ0];exactλ_ _ hh=>hh⟩
    .rcases WD g with g|g
     .obtain⟨g1,g2,e,xs,rfl,g3⟩:=o1 id ob g;exact .inl ⟨by omega,by omega,g3⟩
     .exact .inr g
  .rw[h1]at hu;cases j with
   |zero=>
    simp at hj hu;subst hj hu;exact⟨⟨by omega,b,by rw[hν0];rfl,by rw[hν0];rfl⟩,rfl⟩
   |succ j=>exact e4 j x u (by simpa using hj) (by simpa using hu)
 | .vj _::_,_,_,_,_,_,_,_,_,h,_,_=>h.elim
 | .boxal t lf::ps,d,vs,ns,ks,objs,nx,ak,eQ,⟨b,o,b',pc,vs',n1,n2,ks',h1,h2,h3,⟨us,hrow,hmem,gy⟩,h4,h5,h7,h6⟩,hν,hx=>by
  subst h2;have bj:=W3 _ _ _ _ gy;have hlen:((⟨Wb5 b o,rng b o t.size⟩:Pc)::(n1++n2)).length=1+t.owns+n2.length:=by rw[Xw,Xae,bj];omega
  obtain⟨hν0,hφ0⟩:ν nx=Wb5 b o/\φ nx=rng b o t.size:=by have:=hν 0 _ rfl;simpa using this
  have hν1:At ν φ (nx+1) (n1++n2):=hν.right (n1:=[⟨Wb5 b o,rng b o t.size⟩]) rfl;obtain⟨c1,o1⟩:=Waq t d.1 (nx+1) us n1 gy hν1.left;have cY:=WbY t d.1 (nx+1);have pW:lf<n1.length:=(Xt.1 h4).1;have hνl:ν (nx+1+lf)=pc.nu:=(hν1.left lf pc h4).1;obtain⟨e1,e2,e3,e4⟩:=Wck ps d.2.2 vs' n2 ks' ((nx,.box (unfold t d.1 (nx+1)).1)::((unfold t d.1 (nx+1)).2.1++objs)) (nx+1+t.owns) ak eQ h6 (hν1.right bj) (by omega);simp only[WL,WaE];refine⟨by rw[e1,hlen];omega,λid ob hl=>?_,by rw[h1];simp[e3],λj x u hj hu=>?_⟩
  .rcases e2 id ob hl with⟨g1,g2,g3⟩|g
   .exact .inl ⟨by omega,by omega,g3⟩
   .rw[Wy]at g;split at g
    .rename_i e;subst e;injection g with g;subst g;exact .inl ⟨Xn _,by omega,b,us,by rw[hν0];rfl,by rw[hν0,cY];exact hrow,by rw[hν0];exact hmem,c1 ak (by omega),by rw[hν0,cY,hφ0];exactλ_ _ hh=>hh⟩
    .rcases WD g with g|g
     .obtain⟨g1,g2,e,xs,rfl,g3⟩:=o1 id ob g;exact .inl ⟨by omega,by omega,g3⟩
     .exact .inr g
  .rw[h1]at hu
   match j with
   |0=>
    simp at hj hu;subst hj hu;exact⟨⟨by omega,b,by rw[hν0];rfl,by rw[hν0];rfl⟩,rfl⟩
   |1=>
    simp at hj hu;subst hj hu;exact⟨⟨by omega,by rw[hνl];exact h7,b',by rw[hνl];exact h5,by rw[hνl];rfl⟩,rfl⟩
   |j+2=>exact e4 j x u (by simpa using hj) (by simpa using hu)
 | .rp t::ps,d,vs,ns,ks,objs,nx,ak,eQ,⟨b,o,us,vs',h1,h2,h3,h4⟩,hν,hx=>by
  obtain⟨e1,e2,e3,e4⟩:=Wck ps d.2 vs' ns ks objs nx ak eQ h4 hν hx;simp only[WL];refine⟨e1,e2,by rw[h1];simp[e3],λj x u hj hu=>?_⟩;rw[h1]at hu;cases j with
  |zero=>
   simp at hj hu;subst hj hu;exact⟨⟨b,o,us,by rw[Xbb],h2,h3⟩,rfl⟩
  |succ j=>exact e4 j x u (by simpa using hj) (by simpa using hu)
 | .mut e::ps,d,vs,ns,ks,objs,nx,ak,eQ,⟨pc,vs',n2,ks',h1,h2,h3,h4,h5⟩,hν,hx=>by
  subst h2;have hlen:(pc::n2).length=1+n2.length:=by rw[Xw];omega
  obtain⟨hν0,hφ0⟩:ν nx=pc.nu/\φ nx=pc.fp:=by have:=hν 0 _ rfl;simpa using this
  obtain⟨e1,e2,e3,e4⟩:=Wck ps d.2 vs' n2 ks' ((nx,.arr e d.1)::objs) (nx+1) ak eQ h5 (hν.right (n1:=[pc]) rfl) (by omega);simp only[WL];refine⟨by rw[e1,hlen];omega,λid ob hl=>?_,by rw[h1];simp[e3],λj x u hj hu=>?_⟩
  .rcases e2 id ob hl with⟨g1,g2,g3⟩|g
   .exact .inl ⟨by omega,by omega,g3⟩
   .rw[Wy]at g;split at g
    .rename_i e;subst e;injection g with g;subst g;refine .inl ⟨Xn _,by omega,?_⟩;show OwnL w (TyRel G w _) _ (ν nx) d.1 (φ nx);rw[hν0,hφ0];exact h4
    .exact .inr g
  .rw[h1]at hu;cases j with
   |zero=>
    simp at hj hu;subst hj hu;exact⟨⟨by omega,by rw[hν0]⟩,Wio _⟩
   |succ j=>exact e4 j x u (by simpa using hj) (by simpa using hu)
 | .clos g n::ps,d,vs,ns,ks,objs,nx,ak,eQ,⟨cvs,vs',h1,h2,h3,h4⟩,hν,hx=>by
  simp only[Wch,Xi]at eQ;obtain⟨e1,e2,e3,e4⟩:=Wck ps d (cvs++vs') ns ks objs nx ak eQ.2 h4 hν hx;obtain⟨ids,g1,g2⟩:=WjC ps d objs nx n eQ.1;simp only[WL];rw[g2,Wjy];have hlen:(WL ps d objs nx).1.length=n+vs'.length:=by rw[e3,Xae,h2]
  have sZ:∀(j id:Nat),ids[j]?=some id->(WL ps d objs nx).1[j]?=some (AVal.s (.one (.ptr id 0))):=λj id hj=>by
   have hlt:j<n:=by rw[←g1];exact(Xt.1 hj).1
   have:((WL ps d objs nx).1.take n)[j]?=some (.s (.one (.ptr id 0))):=by rw[g2];simp[Wi4,hj]
   rw[List.getElem?_take,if_pos hlt]at this;exact this
  refine⟨e1,e2,by rw[h1];simp[hlen],λj x u hj hu=>?_⟩;rw[h1]at hu;cases j with
  |zero=>
   simp at hj hu;subst hj hu;refine⟨⟨cvs,rfl,by rw[h2,g1],λj id u hj hu=>?_⟩,rfl⟩;have hlt:j<cvs.length:=(Xt.1 hu).1;obtain⟨⟨q1,q2⟩,q3⟩:=e4 j _ u (sZ j id hj) (by rw[List.getElem?_append_left hlt];exact hu);exact⟨q1,q3,q2⟩
  |succ j=>
   have hj':(WL ps d objs nx).1[n+j]?=some x:=by
    rw[←List.getElem?_drop];simpa using hj
   exact e4 (n+j) x u hj' (by rw[Xay (by omega),h2,Xbe];simpa using hu)
theorem WcZ:∀(ps:List PTy) (d:WeW ps) (vs:List Value) (ns:List Pc) (ks:List Nu),Wbf G w ps d vs ns ks->vs.length<=WbO ps
 | [],d,vs,ns,ks,⟨h1,_,_⟩=>by rw[h1];exact Xn _
 | .v t agg::ps,d,vs,ns,ks,⟨v,vs',n1,n2,h1,h2,h3,h4⟩=>by rw[h1,Xw];have:=WcZ ps _ _ _ _ h4;simp only[WbO];omega
 | .box t::ps,d,vs,ns,ks,⟨b,o,vs',n1,n2,ks',h1,h2,h3,h4,h6⟩=>by rw[h1,Xw];have:=WcZ ps _ _ _ _ h6;simp only[WbO];omega
 | .mut e::ps,d,vs,ns,ks,⟨pc,vs',n2,ks',h1,h2,h3,h4,h5⟩=>by rw[h1,Xw];have:=WcZ ps _ _ _ _ h5;simp only[WbO];omega
 | .clos g n::ps,d,vs,ns,ks,⟨cvs,vs',h1,h2,h3,h4⟩=>by rw[h1,Xw];have:=WcZ ps _ _ _ _ h4;simp at this;simp only[WbO];omega
 | .kv t agg::ps,d,vs,ns,ks,⟨v,vs',n1,n2,ks',h1,h2,iD,h3,h4⟩=>by rw[h1,Xw];have:=WcZ ps _ _ _ _ h4;simp only[WbO];omega
 | .rp t::ps,d,vs,ns,ks,⟨b,o,us,vs',h1,h2,h3,h4⟩=>by rw[h1,Xw];have:=WcZ ps _ _ _ _ h4;simp only[WbO];omega
 | .vj _::_,_,_,_,_,h=>h.elim
 | .boxal t lf::ps,d,vs,ns,ks,⟨b,o,b',pc,vs',n1,n2,ks',h1,h2,h3,h4,h5,h6,h7,h8⟩=>by rw[h1,Xw,Xw];have:=WcZ ps _ _ _ _ h8;simp only[WbO];omega
def Wnp(i:Nat)(vs:List Value):List (Nat×Value):=match vs with
 |v::_=>[(i,v)]
 | []=>[]
def Wz:List PTy->Nat->Nat->List Value->List (Nat×Value)
 | [],_,_,_=>[]
 |_::ps,i,k+1,vs=>Wz ps i k vs
 | .v _ _::ps,i,0,vs=>Wz ps (i+1) 0 vs.tail
 | .box _::ps,i,0,vs=>Wnp i vs++Wz ps (i+1) 0 vs.tail
 | .mut _::ps,i,0,vs=>Wnp i vs++Wz ps (i+1) 0 vs.tail
 | .clos _ n::ps,i,0,vs=>Wnp i vs++Wz ps (i+1) n vs.tail
 | .kv _ _::ps,i,0,vs=>Wnp i vs++Wz ps (i+1) 0 vs.tail
 | .rp _::ps,i,0,vs=>Wz ps (i+1) 0 vs.tail
 | .vj _::ps,i,0,vs=>Wz ps (i+1) 0 vs.tail
 | .boxal _ _::ps,i,0,vs=>Wnp i vs++Wz ps (i+2) 0 vs.tail.tail
theorem Wbk{i:Nat}{vs:List Value}{p:Nat×Value}(h:p∈Wnp i vs):p.1=i/\vs[0]?=some p.2:=by
 unfold Wnp at h;split at h
 .simp at h;subst h;exact⟨rfl,rfl⟩
 .cases h
theorem WM:∀(ps:List PTy) (i k:Nat) (vs:List Value),∀p∈Wz ps i k vs,p.1∈WdP ps i k
 | [],_,_,_,p,h=>by simp[Wz]at h
 | .v _ _::ps,i,k+1,vs,p,h=>WM ps i k vs p h
 | .box _::ps,i,k+1,vs,p,h=>WM ps i k vs p h
 | .mut _::ps,i,k+1,vs,p,h=>WM ps i k vs p h
 | .clos _ _::ps,i,k+1,vs,p,h=>WM ps i k vs p h
 | .v _ _::ps,i,0,vs,p,h=>WM ps (i+1) 0 vs.tail p h
 | .box _::ps,i,0,vs,p,h=>by
  simp only[Wz]at h;rcases Xl.1 h with h|h
  .rw[(Wbk h).1];exact Xh ..
  .exact Xe _ (WM ps (i+1) 0 vs.tail p h)
 | .mut _::ps,i,0,vs,p,h=>by
  simp only[Wz]at h;rcases Xl.1 h with h|h
  .rw[(Wbk h).1];exact Xh ..
  .exact Xe _ (WM ps (i+1) 0 vs.tail p h)
 | .clos _ n::ps,i,0,vs,p,h=>by
  simp only[Wz]at h;rcases Xl.1 h with h|h
  .rw[(Wbk h).1];exact Xh ..
  .exact Xe _ (WM ps (i+1) n vs.tail p h)
 | .kv _ _::ps,i,k+1,vs,p,h=>WM ps i k vs p h
 | .kv _ _::ps,i,0,vs,p,h=>by
  simp only[Wz]at h;rcases Xl.1 h with h|h
  .rw[(Wbk h).1];exact Xh ..
  .exact Xe _ (WM ps (i+1) 0 vs.tail p h)
 | .rp _::ps,i,k+1,vs,p,h=>WM ps i k vs p h
 | .rp _::ps,i,0,vs,p,h=>WM ps (i+1) 0 vs.tail p h
 | .vj _::ps,i,k+1,vs,p,h=>WM ps i k vs p h
 | .vj _::ps,i,0,vs,p,h=>WM ps (i+1) 0 vs.tail p h
 | .boxal _ _::ps,i,k+1,vs,p,h=>WM ps i k vs p h
 | .boxal _ _::ps,i,0,vs,p,h=>by
  simp only[Wz]at h;rcases Xl.1 h with h|h
  .rw[(Wbk h).1];exact Xh ..
  .exact Xe _ (WM ps (i+2) 0 vs.tail.tail p h)
theorem WH:∀(ps:List PTy) (i k:Nat) (vs:List Value),∀p∈Wz ps i k vs,i<=p.1/\vs[p.1-i]?=some p.2
 | [],_,_,_,p,h=>by simp[Wz]at h
 | .v _ _::ps,i,k+1,vs,p,h=>WH ps i k vs p h
 | .box _::ps,i,k+1,vs,p,h=>WH ps i k vs p h
 | .mut _::ps,i,k+1,vs,p,h=>WH ps i k vs p h
 | .clos _ _::ps,i,k+1,vs,p,h=>WH ps i k vs p h
 | .v _ _::ps,i,0,vs,p,h=>by
  obtain⟨h1,h2⟩:=WH ps (i+1) 0 vs.tail p h;refine⟨by omega,?_⟩;rw[show p.1-i=(p.1-(i+1))+1 by omega,←Xcj];exact h2
 | .box _::ps,i,0,vs,p,h=>by
  simp only[Wz]at h;rcases Xl.1 h with h|h
  .obtain⟨h1,h2⟩:=Wbk h;rw[h1];exact⟨Xn _,by rw[Xde];exact h2⟩
  .obtain⟨h1,h2⟩:=WH ps (i+1) 0 vs.tail p h;refine⟨by omega,?_⟩;rw[show p.1-i=(p.1-(i+1))+1 by omega,←Xcj];exact h2
 | .mut _::ps,i,0,vs,p,h=>by
  simp only[Wz]at h;rcases Xl.1 h with h|h
  .obtain⟨h1,h2⟩:=Wbk h;rw[h1];exact⟨Xn _,by rw[Xde];exact h2⟩
  .obtain⟨h1,h2⟩:=WH ps (i+1) 0 vs.tail p h;refine⟨by omega,?_⟩;rw[show p.1-i=(p.1-(i+1))+1 by omega,←Xcj];exact h2
 | .clos _ n::ps,i,0,vs,p,h=>by
  simp only[Wz]at h;rcases Xl.1 h with h|h
  .obtain⟨h1,h2⟩:=Wbk h;rw[h1];exact⟨Xn _,by rw[Xde];exact h2⟩
  .obtain⟨h1,h2⟩:=WH ps (i+1) n vs.tail p h;refine⟨by omega,?_⟩;rw[show p.1-i=(p.1-(i+1))+1 by omega,←Xcj];exact h2
 | .kv _ _::ps,i,k+1,vs,p,h=>WH ps i k vs p h
 | .kv _ _::ps,i,0,vs,p,h=>by
  simp only[Wz]at h;rcases Xl.1 h with h|h
  .obtain⟨h1,h2⟩:=Wbk h;rw[h1];exact⟨Xn _,by rw[Xde];exact h2⟩
  .obtain⟨h1,h2⟩:=WH ps (i+1) 0 vs.tail p h;refine⟨by omega,?_⟩;rw[show p.1-i=(p.1-(i+1))+1 by omega,←Xcj];exact h2
 | .rp _::ps,i,k+1,vs,p,h=>WH ps i k vs p h
 | .rp _::ps,i,0,vs,p,h=>by
  obtain⟨h1,h2⟩:=WH ps (i+1) 0 vs.tail p h;refine⟨by omega,?_⟩;rw[show p.1-i=(p.1-(i+1))+1 by omega,←Xcj];exact h2
 | .vj _::ps,i,k+1,vs,p,h=>WH ps i k vs p h
 | .vj _::ps,i,0,vs,p,h=>by
  obtain⟨h1,h2⟩:=WH ps (i+1) 0 vs.tail p h;refine⟨by omega,?_⟩;rw[show p.1-i=(p.1-(i+1))+1 by omega,←Xcj];exact h2
 | .boxal _ _::ps,i,k+1,vs,p,h=>WH ps i k vs p h
 | .boxal _ _::ps,i,0,vs,p,h=>by
  simp only[Wz]at h;rcases Xl.1 h with h|h
  .obtain⟨h1,h2⟩:=Wbk h;rw[h1];exact⟨Xn _,by rw[Xde];exact h2⟩
  .obtain⟨h1,h2⟩:=WH ps (i+2) 0 vs.tail.tail p h;refine⟨by omega,?_⟩;rw[show p.1-i=(p.1-(i+2))+1+1 by omega,←Xcj,←Xcj];exact h2
def WmA(tmps:Array Value):ResultVar->Sem Value
 | .tmp t=>pure (tmps.getD t undef)
 | .cell b t=>do loadVar t (←asAddr (tmps.getD b undef))
theorem Wj7(hT:Waf P T)(hr:Rel w0 F nt G0 G ν st a w):∀(l:List ResultVar) (xs:List AVal),Wet T st l=some xs->
  ∃vs:List Value,(l.mapM (WmA a.tmps)).run P w= .ok vs w/\vs.length=xs.length/\
   ∀(j:Nat) (x:AVal) (v:Value),xs[j]?=some x->vs[j]?=some v->AValRel G ν st.nx x v
 | [],xs,h=>by
  simp only[Wet]at h;injection h with h;subst h;exact⟨[],by simp,rfl,λj x v hj=>by simp at hj⟩
 | .tmp t::l,xs,h=>by
  simp only[Wet]at h;split at h
  .rename_i x rI h1 h2;injection h with h;subst h;obtain⟨vs,h3,h4,h5⟩:=Wj7 hT hr l rI h2;obtain⟨v,hv,hx⟩:=hr.env t x h1;refine⟨v::vs,?_,by simp[h4],λj y u hj hu=>?_⟩
   .have cH:a.tmps.getD t undef=v:=by simp[Xcp,hv]
    simp only[Xfd,Sem.run_bind,WmA,Sem.run_pure,Result.andThen_ok,h3,cH]
   .cases j with
    |zero=>simp at hj hu;subst hj hu;exact hx
    |succ j=>exact h5 j y u (by simpa using hj) (by simpa using hu)
  .cases h
 | .cell b t::l,xs,h=>by
  simp only[Wet]at h;split at h
  .rename_i x rI h1 h2;injection h with h;subst h;obtain⟨vs,h3,h4,h5⟩:=Wj7 hT hr l rI h2;cases hb:look st.env b with
   |none=>simp[hb]at h1
   |some y=>
    simp only[hb,Xd]at h1;obtain⟨v,hv,hx⟩:=hr.env b y hb;obtain⟨u,hu,rN⟩:=WgT hT hr.h hx h1;refine⟨u::vs,?_,by simp[h4],λj z q hj hq=>?_⟩
    .have cH:a.tmps.getD b undef=v:=by simp[Xcp,hv]
     unfold Instr.loadAt at hu;rw[Sem.run_bind]at hu;obtain⟨p,rfl⟩:∃p,v= .pointer (some p):=by
      unfold Instr.sureAddr at hu;split at hu
      .exact⟨_,rfl⟩
      .simp[stuck]at hu
     simp only[Instr.sureAddr,Sem.run_pure,Result.andThen_ok]at hu;have ha:(asAddr (.pointer (some p))).run P w= .ok p w:=rfl;simp only[Xfd,Sem.run_bind,WmA,Sem.run_pure,Result.andThen_ok,cH,ha,hu,h3]
    .cases j with
     |zero=>simp at hj hq;subst hj hq;exact rN
     |succ j=>exact h5 j z q (by simpa using hj) (by simpa using hq)
  .cases h
theorem WdC(h:HR w0 F G ν φ objs nx w)(hg:GLe G G'):∀(rs:List PTy) (xs:List AVal) (vs:List Value) (A:Outs (Wgw rs)),vs.length=xs.length->
  (∀(j:Nat) (x:AVal) (v:Value),xs[j]?=some x->vs[j]?=some v->AValRel G ν nx x v)->Lent G' w φ objs A.lent->A.moved.Nodup->WaY rs xs objs=some A->
  ∃ns,WfO G' w rs A.d vs ns/\Sep (fps ns)/\(∀q∈ns,CS.le q.fp (FromL φ objs A.moved))/\(∀i∈A.moved,Live objs i)
 | [],xs,vs,A,hlen,hx,hl,aW,hf=>by
  simp only[WaY]at hf;split at hf
  .injection hf with hf;subst hf;have eO:vs= []:=Xad (by simpa using hlen);exact⟨[],⟨eO,rfl⟩,List.Pairwise.nil,by simp,by simp⟩
  .cases hf
 | .v t agg::rs,xs,vs,A,hlen,hx,hl,aW,hf=>by
  simp only[WaY]at hf;split at hf
  .rename_i x xs;split at hf
   .rename_i d m l A' h1 h2;injection hf with hf;subst hf
    match vs,hlen with
    |v::vs,hlen=>
     cases hc:cellsOf agg x with
     |none=>simp[hc]at h1
     |some cs=>
      simp[hc]at h1;obtain⟨k1,k2,k3⟩:=Xah.1 aW;obtain⟨n1,g1,g2,g3,g4,_⟩:=WkN h hg (hx 0 x v rfl rfl) (hl.mono (λi hi=>Xk _ hi)) k1 hc h1;obtain⟨n2,g5,g6,g7,g8⟩:=WdC h hg rs xs vs A' (by simpa using hlen) (λj y u hj hu=>hx (j+1) y u (by simpa using hj) (by simpa using hu)) (hl.mono (λi hi=>Xg _ hi)) k2 h2;refine⟨n1++n2,⟨v,vs,n1,n2,rfl,rfl,g1,g5⟩,Wca h g2 g6 g3 g7 (λi hi hj=>k3 i hi i hj rfl),λq hq=>?_,λi hi=>?_⟩
      .rcases Xl.1 hq with hq|hq
       .exactλb o hh=>FromL.mono (λi hi=>Xk _ hi) b o (g3 q hq b o hh)
       .exactλb o hh=>FromL.mono (λi hi=>Xg _ hi) b o (g7 q hq b o hh)
      .rcases Xl.1 hi with hi|hi
       .exact g4 i hi
       .exact g8 i hi
   .cases hf
  .cases hf
 | .box t::rs,xs,vs,A,hlen,hx,hl,aW,hf=>by
  simp only[WaY]at hf;split at hf
  .rename_i id xs;split at hf
   .rename_i cs ba;split at hf
    .rename_i d m l A' h1 h2;injection hf with hf;subst hf
     match vs,hlen with
     |v::vs,hlen=>
      obtain⟨k0,k1⟩:=Xaj.1 aW;obtain⟨k2,k3,k4⟩:=Xah.1 k1;obtain⟨⟨_,b,hνb,rfl⟩,_⟩:=hx 0 _ v rfl rfl;have aB:Live objs id:=⟨_,ba,by simp⟩;obtain⟨b'',us,ll,hrow,hmem,br,eP⟩:Wcq G ν nx w id (φ id) (.box cs):=h.ob _ _ ba;rw[hνb]at ll;injection ll with ll;subst ll;obtain⟨n1,g1,g2,g3,g4,_⟩:=Wae h hg t cs us d m l br (hl.mono (λi hi=>Xk _ hi)) k2 h1;have cY:cs.length=t.size:=by rw[←br.1];exact Wx _ _ _ _ g1
      obtain⟨n2,g5,g6,g7,g8⟩:=WdC h hg rs xs vs A' (by simpa using hlen) (λj y u hj hu=>hx (j+1) y u (by simpa using hj) (by simpa using hu)) (hl.mono (λi hi=>Xg _ hi)) k3 h2;rw[cY]at hrow eP;refine⟨⟨Wb5 b ((ν id).off+0),rng b ((ν id).off+0) t.size⟩::(n1++n2),⟨b,(ν id).off+0,vs,n1,n2,rfl,rfl,⟨us,hrow,hmem,g1⟩,g5⟩,?_,λq hq=>?_,λi hi=>?_⟩
      .refine Wca h (n1:=[⟨Wb5 b ((ν id).off+0),rng b ((ν id).off+0) t.size⟩]) (m:=[id]) (l:=m++A'.moved) (Xbf _ _) (Wca h g2 g6 g3 g7 (λi hi hj=>k4 i hi i hj rfl)) (λq hq=>?_) (λq hq=>?_) (λi hi hj=>k0 (by rw[←Xx.1 hi];exact hj))
       .rw[Xx.1 hq];exactλb o hh=>⟨id,by simp,aB,eP b o hh⟩
       .rcases Xl.1 hq with hq|hq
        .exactλb o hh=>FromL.mono (λi hi=>Xk _ hi) b o (g3 q hq b o hh)
        .exactλb o hh=>FromL.mono (λi hi=>Xg _ hi) b o (g7 q hq b o hh)
      .rcases Xq.1 hq with rfl|hq
       .exactλb o hh=>⟨id,by simp,aB,eP b o hh⟩
       .rcases Xl.1 hq with hq|hq
        .exactλb o hh=>FromL.mono (λi hi=>Xe _ (Xk _ hi)) b o (g3 q hq b o hh)
        .exactλb o hh=>FromL.mono (λi hi=>Xe _ (Xg _ hi)) b o (g7 q hq b o hh)
      .rcases Xq.1 hi with rfl|hi
       .exact aB
       .rcases Xl.1 hi with hi|hi
        .exact g4 i hi
        .exact g8 i hi
    .cases hf
   .cases hf
  .cases hf
 | .mut _::_,_,_,_,_,_,_,_,h=>by simp only[WaY]at h;cases h
 | .clos _ _::_,_,_,_,_,_,_,_,h=>by simp only[WaY]at h;cases h
 | .kv _ _::_,_,_,_,_,_,_,_,h=>by simp only[WaY]at h;cases h
 | .rp _::_,_,_,_,_,_,_,_,h=>by simp only[WaY]at h;cases h
 | .vj t::rs,xs,vs,A,hlen,hx,hl,aW,hf=>by
  simp only[WaY]at hf;split at hf
  .rename_i cs xs;split at hf
   .rename_i hcl;split at hf
    .rename_i d m l A' h1 h2;injection hf with hf;subst hf
     match vs,hlen with
     |v::vs,hlen=>
      obtain⟨k1,k2,k3⟩:=Xah.1 aW;obtain⟨us,rfl,br⟩:=hx 0 _ v rfl rfl;obtain⟨n1,g1,g2,g3,g4,_⟩:=Wae h hg t (cs.take t.size) (us.take t.size) d m l (br.take t.size) (hl.mono (λi hi=>Xk _ hi)) k1 h1;obtain⟨n2,g5,g6,g7,g8⟩:=WdC h hg rs xs vs A' (by simpa using hlen) (λj y u hj hu=>hx (j+1) y u (by simpa using hj) (by simpa using hu)) (hl.mono (λi hi=>Xg _ hi)) k2 h2;have cY:us.length=t.size+1:=by rw[br.1,hcl]
      have hlt:t.size<us.length:=by omega
      have e0:us=us.take t.size++ [us[t.size]]:=by
       rw[←List.take_succ_eq_append_getElem hlt,Xbx (by omega)]
      have ho:=(br.2 t.size (cs[t.size]'(by omega)) us[t.size] (Xp (by omega)) (Xp hlt)).2;refine⟨n1++n2,⟨us.take t.size,us[t.size],vs,n1,n2,by rw[←e0],ho,rfl,g1,g5⟩,Wca h g2 g6 g3 g7 (λi hi hj=>k3 i hi i hj rfl),λq hq=>?_,λi hi=>?_⟩
      .rcases Xl.1 hq with hq|hq
       .exactλb o hh=>FromL.mono (λi hi=>Xk _ hi) b o (g3 q hq b o hh)
       .exactλb o hh=>FromL.mono (λi hi=>Xg _ hi) b o (g7 q hq b o hh)
      .rcases Xl.1 hi with hi|hi
       .exact g4 i hi
       .exact g8 i hi
    .cases hf
   .cases hf
  .cases hf
 | .boxal _ _::_,_,_,_,_,_,_,_,h=>by simp only[WaY]at h;cases h
theorem Wnl{p:PTy}{ps:List PTy}{k:Nat}(h:Wjr (p::ps) (k+1)=true):(∃t,p= .box t)/\Wjr ps k=true:=by
 cases p with
 |box t=>exact⟨⟨t,rfl⟩,h⟩
 |_=>cases h
theorem WfW(hr:Rel w0 F nt G0 G ν st a w){i:Nat}{u:Value}(hp:a.tmps[i]?=some u):(look st.env i).getD (.tup [])= .tup []\/AValRel G ν st.nx ((look st.env i).getD (.tup [])) u:=by
 cases he:look st.env i with
 |none=>exact .inl rfl
 |some y=>
  obtain⟨v,hv,hx⟩:=hr.env i y he;rw[hp]at hv;injection hv with hv;subst hv;exact .inr hx
theorem Wax{wb:World}{Gb:GH}(hr:Rel w0 F nt G0 G ν st a w):∀(ps:List PTy) (d:WeW ps) (vs:List Value) (ns:List Pc) (ks:List Nu) (i k:Nat),Wbf Gb wb ps d vs ns ks->Wch ps=true->Wjr ps k=true->k<=vs.length->
  (∀p∈Wz ps i k (vs.drop k),a.tmps[p.1]?=some p.2)->(Wt ps i k st).length+k=vs.length/\
  ∀(j:Nat) (x:AVal) (v:Value),(Wt ps i k st)[j]?=some x->vs[k+j]?=some v->x= .tup []\/AValRel G ν st.nx x v
 | [],d,vs,ns,ks,i,k,⟨h1,_,_⟩,_,_,hk,_=>by
  subst h1;have:k=0:=by simpa using hk
  subst this;exact⟨rfl,λj x v hj=>by simp[Wt]at hj⟩
 |p::ps,d,vs,ns,ks,i,k+1,h,hc,hb,hk,hp=>by
  obtain⟨⟨t,rfl⟩,hb'⟩:=Wnl hb;obtain⟨b,o,vs',n1,n2,ks',h1,h2,h3,h4,h6⟩:=h;subst h1;have fJ:Wch ps=true:=hc;obtain⟨e1,e2⟩:=Wax hr ps d.2 vs' n2 ks' i k h6 fJ hb' (by simpa using hk) (by simpa [Wz]using hp);refine⟨by simp only[Wt,Xw];omega,λj x v hj hv=>e2 j x v (by simpa [Wt]using hj) ?_⟩;rw[show k+1+j=(k+j)+1 by omega]at hv;simpa using hv
 | .v t agg::ps,d,vs,ns,ks,i,0,⟨v,vs',n1,n2,h1,h2,h3,h4⟩,hc,_,_,hp=>by
  subst h1;obtain⟨e1,e2⟩:=Wax hr ps d.2 vs' n2 ks (i+1) 0 h4 hc (by cases ps<;>rfl) (Xbr _) (by simpa [Wz]using hp);refine⟨by simp only[Wt,Xw];omega,λj x u hj hu=>?_⟩;cases j with
  |zero=>simp[Wt]at hj;exact .inl hj.symm
  |succ j=>exact e2 j x u (by simpa [Wt]using hj) (by simpa using hu)
 | .rp t::ps,d,vs,ns,ks,i,0,⟨b,o,us,vs',h1,h2,h3,h4⟩,hc,_,_,hp=>by
  subst h1;obtain⟨e1,e2⟩:=Wax hr ps d.2 vs' ns ks (i+1) 0 h4 hc (by cases ps<;>rfl) (Xbr _) (by simpa [Wz]using hp);refine⟨by simp only[Wt,Xw];omega,λj x u hj hu=>?_⟩;cases j with
  |zero=>simp[Wt]at hj;exact .inl hj.symm
  |succ j=>exact e2 j x u (by simpa [Wt]using hj) (by simpa using hu)
 | .box t::ps,d,vs,ns,ks,i,0,⟨b,o,vs',n1,n2,ks',h1,h2,h3,h4,h6⟩,hc,_,_,hp=>by
  subst h1;simp only[Wz,Xcf,Xek]at hp;obtain⟨e1,e2⟩:=Wax hr ps d.2 vs' n2 ks' (i+1) 0 h6 hc (by cases ps<;>rfl) (Xbr _) (λp gI=>hp p (Xg _ (by simpa using gI)));refine⟨by simp only[Wt,Xw];omega,λj x u hj hu=>?_⟩;cases j with
  |zero=>
   simp[Wt]at hj hu;subst hj hu;exact WfW hr (hp (i,_) (Xk _ (Xh ..)))
  |succ j=>exact e2 j x u (by simpa [Wt]using hj) (by simpa using hu)
 | .vj _::_,_,_,_,_,_,_,h,_,_,_,_=>h.elim
 | .boxal t lf::ps,d,vs,ns,ks,i,0,⟨b,o,b',pc,vs',n1,n2,ks',h1,h2,h3,h4,h5,h6,h7,h8⟩,hc,_,_,hp=>by
  subst h1;simp only[Wz,Xcf,Xek]at hp;obtain⟨e1,e2⟩:=Wax hr ps d.2.2 vs' n2 ks' (i+2) 0 h8 hc (by cases ps<;>rfl) (Xbr _) (λp gI=>hp p (Xg _ (by simpa using gI)));refine⟨by simp only[Wt,Xw];omega,λj x u hj hu=>?_⟩
  match j with
  |0=>
   simp[Wt]at hj hu;subst hj hu;exact WfW hr (hp (i,_) (Xk _ (Xh ..)))
  |1=>simp[Wt]at hj;exact .inl hj.symm
  |j+2=>exact e2 j x u (by simpa [Wt]using hj) (by simpa using hu)
 | .mut e::ps,d,vs,ns,ks,i,0,⟨pc,vs',n2,ks',h1,h2,h3,h4,h5⟩,hc,_,_,hp=>by
  subst h1;simp only[Wz,Xcf,Xek]at hp;obtain⟨e1,e2⟩:=Wax hr ps d.2 vs' n2 ks' (i+1) 0 h5 hc (by cases ps<;>rfl) (Xbr _) (λp gI=>hp p (Xg _ (by simpa using gI)));refine⟨by simp only[Wt,Xw];omega,λj x u hj hu=>?_⟩;cases j with
  |zero=>
   simp[Wt]at hj hu;subst hj hu;exact WfW hr (hp (i,_) (Xk _ (Xh ..)))
  |succ j=>exact e2 j x u (by simpa [Wt]using hj) (by simpa using hu)
 | .clos g n::ps,d,vs,ns,ks,i,0,⟨cvs,vs',h1,h2,h3,h4⟩,hc,_,_,hp=>by
  subst h1;simp only[Wch,Xi]at hc;simp only[Wz,Xcf,Xek]at hp;obtain⟨e1,e2⟩:=Wax hr ps d (cvs++vs') ns ks (i+1) n h4 hc.2 hc.1 (by simp[h2]) (λp gI=>hp p (Xg _ (by rw[List.drop_left' h2]at gI;exact gI)));refine⟨by simp only[Wt,Xw];simp at e1;omega,λj x u hj hu=>?_⟩;cases j with
  |zero=>
   simp[Wt]at hj hu;subst hj hu;exact WfW hr (hp (i,_) (Xk _ (Xh ..)))
  |succ j=>exact e2 j x u (by simpa [Wt]using hj) (by rw[Xay (by omega),h2,Xbe];simpa using hu)
 | .kv t agg::ps,d,vs,ns,ks,i,0,⟨v,vs',n1,n2,ks',h1,h2,iD,h3,h4⟩,hc,_,_,hp=>by
  subst h1;simp only[Wz,Xcf,Xek]at hp;obtain⟨e1,e2⟩:=Wax hr ps d.2 vs' n2 ks' (i+1) 0 h4 hc (by cases ps<;>rfl) (Xbr _) (λp gI=>hp p (Xg _ (by simpa using gI)));refine⟨by simp only[Wt,Xw];omega,λj x u hj hu=>?_⟩;cases j with
  |zero=>
   simp[Wt]at hj hu;subst hj hu;exact WfW hr (hp (i,_) (Xk _ (Xh ..)))
  |succ j=>exact e2 j x u (by simpa [Wt]using hj) (by simpa using hu)
theorem Wob{G G':GH}{wb w:World}{nu pX:Nu}{e:Ty}{xs ys:List e.den}{S S':CS}(h4:OwnL wb (TyRel G wb e) e.size nu xs S)(hown:OwnL w (TyRel G' w e) e.size pX ys S')(hx:nu.hdr=pX.hdr):OwnL w (TyRel G' w e) e.size nu ys S':=by
 unfold Nu.hdr at hx;cases hb:pX.blk with
 |none=>
  cases hb':nu.blk with
  |some b=>simp[hb,hb']at hx
  |none=>
   have k1:=Wce h4 hb';have k2:=Wce hown hb;refine⟨by rw[k2,←h4.1,k1],h4.2.1,?_⟩;simp only[hb'];exact k2
 |some b=>
  cases hb':nu.blk with
  |none=>simp[hb,hb']at hx
  |some b'=>
   simp only[hb,hb']at hx;injection hx with x1 x2 x3;injection x1 with x1;injection x1 with x1 x4 _;have e1:=h4.2.1;have e2:=hown.2.1;have:nu=pX:=by
    obtain⟨a1,a2,a3,a4,a5⟩:=nu;obtain⟨b1,b2,b3,b4,b5⟩:=pX;simp only at hb hb' x1 x2 x3 x4 e1 e2;subst hb hb' x1 x2 x3 x4;rw[e1,e2]
   rw[this];exact hown
theorem WeI{G G':GH}{wb w:World}:∀(t:Ty) (d0 d:t.den) (us:List Value) (n1 n2:List Pc),TyRel G wb t d0 us n1->TyRel G' w t d us n2->∃n3,TyRel G' w t d us n3/\nus n3=nus n1/\fps n3=fps n2
 | .own e,d0,d,us,n1,n2,⟨pc,h1,h2,h3⟩,⟨cI,g1,g2,g3⟩=>by
  subst h1 g1;have hx:pc.nu.hdr=cI.nu.hdr:=by rw[h2]at g2;simpa using g2
  exact⟨[⟨pc.nu,cI.fp⟩],⟨_,rfl,h2,Wob h3 g3 hx⟩,rfl,rfl⟩
 | .prod a b,d0,d,us,n1,n2,⟨v1,v2,m1,m2,h1,h2,h3,h4⟩,⟨u1,u2,k1,k2,g1,g2,g3,g4⟩=>by
  have l1:=Wx a _ _ _ h3;have l2:=Wx a _ _ _ g3;obtain⟨q1,q2⟩:=List.append_inj (h1.symm.trans g1) (by rw[l1,l2]);subst q1 q2 h2 g2;obtain⟨a1,a2,a3,a4⟩:=WeI a _ _ _ _ _ h3 g3;obtain⟨b1,b2,b3,b4⟩:=WeI b _ _ _ _ _ h4 g4;exact⟨a1++b1,⟨_,_,a1,b1,h1,rfl,a2,b2⟩,by unfold nus at a3 b3⊢;rw[Xr,Xr,a3,b3],by unfold fps at a4 b4⊢;rw[Xr,Xr,a4,b4]⟩
 | .int _,d0,d,us,n1,n2,h,g=>by obtain⟨h1,_⟩:=h;obtain⟨g1,g2⟩:=g;subst h1 g1;exact⟨[],⟨rfl,g2⟩,rfl,rfl⟩
 | .bool,d0,d,us,n1,n2,h,g=>by obtain⟨h1,_⟩:=h;obtain⟨g1,g2⟩:=g;subst h1 g1;exact⟨[],⟨rfl,g2⟩,rfl,rfl⟩
 | .str,d0,d,us,n1,n2,h,g=>by obtain⟨h1,_⟩:=h;obtain⟨g1,g2⟩:=g;subst h1 g1;exact⟨[],⟨rfl,g2⟩,rfl,rfl⟩
 | .slice _,d0,d,us,n1,n2,h,g=>by obtain⟨h1,_⟩:=h;obtain⟨g1,g2⟩:=g;subst h1 g1;exact⟨[],⟨rfl,g2⟩,rfl,rfl⟩
theorem WqW{G G':GH}{wb w:World}{t:Ty}{agg:Bool}{d0 d:t.den}{v:Value}{n1 n2:List Pc}(h:WiE G wb t agg d0 v n1)(g:WiE G' w t agg d v n2):∃us n3,TyRel G' w t d us n3/\nus n3=nus n1/\fps n3=fps n2:=by
 unfold WiE at h g;split at h
 .rename_i ha;rw[if_pos ha]at g;obtain⟨us,h1,h2⟩:=h;obtain⟨xh,g1,g2⟩:=g;have:us=xh:=by
   rw[h1]at g1;injection g1 with g1;have:=congrArg Array.toList g1;simpa using this
  subst this;exact⟨us,WeI _ _ _ _ _ _ h2 g2⟩
 .rename_i ha;rw[if_neg ha]at g;exact⟨_,WeI _ _ _ _ _ _ h g⟩
structure OOk(G':GH)(φ:Nat->CS)(objs:Wab)(w:World)(ps:List PTy)(B:OutK (WfB ps))(ks:List Nu)(kf:List CS)(ms:List Pc):Prop where
 outs:Wbu G' w ps B.d ks kf ms
 sepk:Sep kf
 sepm:Sep (fps ms)
 kf:∀S∈kf,CS.le S (FromL φ objs B.kept)
 ms:∀q∈ms,CS.le q.fp (FromL φ objs B.moved)
theorem Wv9(h:HR w0 F G ν φ objs nx w){k1 k2:List CS}{m l:List Nat}(h1:Sep k1)(h2:Sep k2)(g1:∀S∈k1,CS.le S (FromL φ objs m))(g2:∀S∈k2,CS.le S (FromL φ objs l))(hd:∀i∈m,i∉l):Sep (k1++k2):=
 Wnu h1 h2 (A:=FromL φ objs m) (B:=FromL φ objs l) g1 g2 (FromL.disj h hd)
theorem WgX{wb:World}{Gb:GH}(hg:GLe G G')(h:HR w0 F G ν φ objs nx w){t:Ty}{ps:List PTy}{id b o:Nat}{cs:List Cell}{dd:t.den}{m l:List Nat}{A:OutK (WfB ps)}{ks:List Nu}{kf:List CS}{ms:List Pc}
  (hx:CellRel G ν nx (.ptr id 0) (.pointer (some ⟨b,o,none⟩))) (ho:look objs id=some (.box cs)) (g1:Wao t cs objs=some (dd,m,l)) (hl:Lent G' w φ objs l) (hk:(id::A.kept).Nodup) (hm:(m++A.moved).Nodup) (hA:OOk G' φ objs w ps A ks kf ms):
  ∃nn,WeX G' w t dd b o nn/\Sep (rng b o t.size::kf)/\Sep (fps (nn++ms))/\(∀S∈rng b o t.size::kf,CS.le S (FromL φ objs (id::A.kept)))/\(∀q∈nn++ms,CS.le q.fp (FromL φ objs (m++A.moved))):=by
 obtain⟨_,b',xi,ja⟩:=hx;injection ja with ja;injection ja with ja;injection ja with ja kW _;subst ja kW;have aB:Live objs id:=⟨_,ho,by simp⟩;obtain⟨b'',us,rO,hrow,hmem,br,eP⟩:Wcq G ν nx w id (φ id) (.box cs):=h.ob _ _ ho;rw[xi]at rO;injection rO with rO;subst rO;obtain⟨k1,k2⟩:=Xaj.1 hk;obtain⟨k3,k4,k5⟩:=Xah.1 hm;obtain⟨nn,e1,e2,e3,_⟩:=Wae h hg t cs us dd m l br hl k3 g1;have cY:cs.length=t.size:=by rw[←br.1];exact Wx _ _ _ _ e1
 rw[cY]at hrow eP;have fL:CS.le (rng b ((ν id).off+0) t.size) (FromL φ objs [id]):=λb o hh=>⟨id,by simp,aB,eP b o hh⟩;refine⟨nn,⟨us,hrow,hmem,e1⟩,?_,Wca h e2 hA.sepm e3 hA.ms (λi hi hj=>k5 i hi i hj rfl),λS hS=>?_,λq hq=>?_⟩
 .exact Wv9 h (k1:=[rng b ((ν id).off+0) t.size]) (m:=[id]) (Xbf _ _) hA.sepk (λS hS=>by rw[Xx.1 hS];exact fL) hA.kf (λi hi hj=>k1 (by rw[←Xx.1 hi];exact hj))
 .rcases Xq.1 hS with rfl|hS
  .exactλb o hh=>FromL.mono (λi hi=>by rw[Xx.1 hi];exact Xh ..) b o (fL b o hh)
  .exactλb o hh=>FromL.mono (λi hi=>Xe _ hi) b o (hA.kf S hS b o hh)
 .rcases Xl.1 hq with hq|hq
  .exactλb o hh=>FromL.mono (λi hi=>Xk _ hi) b o (e3 q hq b o hh)
  .exactλb o hh=>FromL.mono (λi hi=>Xg _ hi) b o (hA.ms q hq b o hh)
theorem WaJ{wb:World}{Gb:GH}(hg:GLe G G')(h:HR w0 F G ν φ objs nx w):∀(ps:List PTy) (d:WeW ps) (vs:List Value) (ns:List Pc) (ks:List Nu) (xs:List AVal) (B:OutK (WfB ps)),Wbf Gb wb ps d vs ns ks->xs.length=vs.length->
  (∀(j:Nat) (x:AVal) (v:Value),xs[j]?=some x->vs[j]?=some v->x= .tup []\/AValRel G ν nx x v)->Lent G' w φ objs B.lent->B.kept.Nodup->B.moved.Nodup->WY ps xs objs=some B->
  ∃kf ms,OOk G' φ objs w ps B ks kf ms
 | [],d,vs,ns,ks,xs,B,⟨_,_,hk⟩,_,_,_,_,_,hf=>by
  simp only[WY]at hf;injection hf with hf;subst hf;exact⟨[],[],⟨hk,rfl,rfl⟩,List.Pairwise.nil,List.Pairwise.nil,by simp,by simp⟩
 | .v t agg::ps,d,vs,ns,ks,xs,B,⟨v,vs',n1,n2,h1,h2,h3,h4⟩,hlen,hp,hl,hk,hm,hf=>by
  subst h1;simp only[WY]at hf;cases hA:WY ps xs.tail objs with
  |none=>simp[hA]at hf
  |some A=>
   simp[hA]at hf;subst hf
   match xs,hlen with
   |x::xs,hlen=>
    obtain⟨kf,ms,hO⟩:=WaJ hg h ps d.2 vs' n2 ks xs A h4 (by simpa using hlen) (λj y u hj hu=>hp (j+1) y u (by simpa using hj) (by simpa using hu)) hl hk hm hA;exact⟨kf,ms,hO.outs,hO.sepk,hO.sepm,hO.kf,hO.ms⟩
 | .rp t::ps,d,vs,ns,ks,xs,B,⟨b,o,us,vs',h1,h2,h3,h4⟩,hlen,hp,hl,hk,hm,hf=>by
  subst h1;simp only[WY]at hf;cases hA:WY ps xs.tail objs with
  |none=>simp[hA]at hf
  |some A=>
   simp[hA]at hf;subst hf
   match xs,hlen with
   |x::xs,hlen=>
    obtain⟨kf,ms,hO⟩:=WaJ hg h ps d.2 vs' ns ks xs A h4 (by simpa using hlen) (λj y u hj hu=>hp (j+1) y u (by simpa using hj) (by simpa using hu)) hl hk hm hA;exact⟨kf,ms,hO.outs,hO.sepk,hO.sepm,hO.kf,hO.ms⟩
 | .box t::ps,d,vs,ns,ks,xs,B,⟨b,o,vs',n1,n2,ks',h1,h2,h3,h4,h6⟩,hlen,hp,hl,hk,hm,hf=>by
  subst h1;simp only[WY]at hf;split at hf
  .rename_i id xs;split at hf
   .rename_i cs ho;split at hf
    .rename_i dd m l A g1 g2;injection hf with hf;subst hf;have hx:=((hp 0 _ _ rfl rfl).resolve_left (λe=>by cases e)).1;obtain⟨kf,ms,hO⟩:=WaJ hg h ps d.2 vs' n2 ks' xs A h6 (by simpa using hlen) (λj y u hj hu=>hp (j+1) y u (by simpa using hj) (by simpa using hu)) (hl.mono λj hj=>Xg _ hj) (Xaj.1 hk).2 (Xah.1 hm).2.1 g2;obtain⟨nn,e1,e2,e3,e4,e5⟩:=WgX (wb:=wb) (Gb:=Gb) hg h hx ho g1 (hl.mono λj hj=>Xk _ hj) hk hm hO;exact⟨_,nn++ms,⟨b,o,ks',kf,nn,ms,h3,rfl,rfl,e1,hO.outs⟩,e2,e3,e4,e5⟩
    .cases hf
   .cases hf
  .cases hf
 | .vj _::_,_,_,_,_,_,_,h,_,_,_,_,_,_=>h.elim
 | .boxal t lf::ps,d,vs,ns,ks,xs,B,⟨b,o,b',pc,vs',n1,n2,ks',h1,h2,h3,h4,h5,h6,h7,h8⟩,hlen,hp,hl,hk,hm,hf=>by
  subst h1;simp only[WY]at hf;split at hf
  .rename_i id y xs;split at hf
   .rename_i cs ho;split at hf
    .rename_i dd m l A g1 g2;injection hf with hf;subst hf;have hx:=((hp 0 _ _ rfl rfl).resolve_left (λe=>by cases e)).1;obtain⟨kf,ms,hO⟩:=WaJ hg h ps d.2.2 vs' n2 ks' xs A h8 (by simpa using hlen) (λj y u hj hu=>hp (j+2) y u (by simpa using hj) (by simpa using hu)) (hl.mono λj hj=>Xg _ hj) (Xaj.1 hk).2 (Xah.1 hm).2.1 g2;obtain⟨nn,e1,e2,e3,e4,e5⟩:=WgX (wb:=wb) (Gb:=Gb) hg h hx ho g1 (hl.mono λj hj=>Xk _ hj) hk hm hO;exact⟨_,nn++ms,⟨b,o,ks',kf,nn,ms,h3,rfl,rfl,e1,hO.outs⟩,e2,e3,e4,e5⟩
    .cases hf
   .cases hf
  .cases hf
 | .mut e::ps,d,vs,ns,ks,xs,B,⟨pc,vs',n2,ks',h1,h2,h3,h4,h5⟩,hlen,hp,hl,hk,hm,hf=>by
  subst h1;simp only[WY]at hf;split at hf
  .rename_i id xs;split at hf
   .rename_i e' ys ho;split at hf
    .rename_i dd A g1 g2;injection hf with hf;subst hf;obtain⟨dg,hd⟩:=Wap g1;subst dg;simp only at hd;subst hd;obtain⟨⟨_,hx⟩,_⟩:=(hp 0 _ _ rfl rfl).resolve_left (λe=>by cases e);have aB:Live objs id:=⟨_,ho,by simp⟩;have hown:OwnL w (TyRel G w e') e'.size (ν id) ys (φ id):=h.ob _ _ ho;have hown':=WcJ hg (Same.refl _ w) (λ_ _ hh=>hh) hown;obtain⟨k1,k2⟩:=Xaj.1 hk;obtain⟨kf,ms,hO⟩:=WaJ hg h ps d.2 vs' n2 ks' xs A h5 (by simpa using hlen) (λj y u hj hu=>hp (j+1) y u (by simpa using hj) (by simpa using hu)) hl k2 hm g2;refine⟨φ id::kf,ms,⟨⟨pc.nu,φ id⟩,ks',kf,h3,rfl,Wob h4 hown' hx,hO.outs⟩,?_,hO.sepm,λS hS=>?_,hO.ms⟩
     .exact Wv9 h (k1:=[φ id]) (m:=[id]) (Xbf _ _) hO.sepk (λS hS=>by rw[Xx.1 hS];exact FromL.one (by simp) aB) hO.kf (λi hi hj=>k1 (by rw[←Xx.1 hi];exact hj))
     .rcases Xq.1 hS with rfl|hS
      .exact FromL.one (Xh ..) aB
      .exactλb o hh=>FromL.mono (λi hi=>Xe _ hi) b o (hO.kf S hS b o hh)
    .cases hf
   .cases hf
  .cases hf
 | .clos g n::ps,d,vs,ns,ks,xs,B,⟨cvs,vs',h1,h2,h3,h4⟩,hlen,hp,hl,hk,hm,hf=>by
  subst h1;simp only[WY]at hf;split at hf
  .rename_i g' caps xs;split at hf
   .rename_i hc;obtain⟨rfl,hcl⟩:=hc;cases hA:WY ps (Wi4 caps++xs) objs with
    |none=>simp[hA]at hf
    |some A=>
     simp[hA]at hf;subst hf;obtain⟨⟨us,s7,uT,xj⟩,_⟩:=(hp 0 _ _ rfl rfl).resolve_left (λe=>by cases e);have iX:us=cvs:=by
      injection s7 with _ _ s7;have:=congrArg Array.toList s7;simpa using this.symm
     subst iX;obtain⟨kf,ms,hO⟩:=WaJ hg h ps d (us++vs') ns ks (Wi4 caps++xs) A h4 (by simp[Wi4,uT];simpa using hlen) (λj y u hj hu=>by
      rw[Xaz]at hj hu;simp only[Wi4,List.length_map]at hj;rw[uT]at hu;split at hj
      .rename_i hlt;rw[if_pos hlt]at hu;rw[Xap]at hj;obtain⟨id,bE,rfl⟩:=Xab.1 hj;obtain⟨q1,q3,q2⟩:=xj _ id u bE hu;exact .inr ⟨⟨q1,q2⟩,q3⟩
      .rename_i hlt;rw[if_neg hlt]at hu;exact hp (j-caps.length+1) y u (by simpa using hj) (by simpa using hu)) hl hk hm hA
     exact⟨kf,ms,hO.outs,hO.sepk,hO.sepm,hO.kf,hO.ms⟩
   .cases hf
  .cases hf
 | .kv t agg::ps,d,vs,ns,ks,xs,B,⟨v,vs',n1,n2,ks',h1,h2,iD,h3,h4⟩,hlen,hp,hl,hk,hm,hf=>by
  subst h1;simp only[WY]at hf;split at hf
  .rename_i x xs;split at hf
   .rename_i dd m l A g1 g2;split at hf
    .rename_i gg;injection hf with hf;subst hf;cases hc:cellsOf agg x with
     |none=>simp[hc]at g1
     |some cs=>
      simp[hc]at g1;obtain⟨k1,k2,k3⟩:=Xah.1 hk;have hx:=(hp 0 _ _ rfl rfl).resolve_left (λe=>by subst e;cases hc);have bj:Lent G' w φ objs l:=hl.mono λj hj=>Xk _ hj;obtain⟨_,_,_,_,q4,_⟩:=WkN h hg hx bj k1 hc g1;obtain⟨v1,_⟩:=Wmg h hg hx bj hc g1 gg;obtain⟨us,n3,r1,r2,r3⟩:=WqW h3 v1;obtain⟨kf,ms,hO⟩:=WaJ hg h ps d.2 vs' n2 ks' xs A h4 (by simpa using hlen) (λj y u hj hu=>hp (j+1) y u (by simpa using hj) (by simpa using hu)) (hl.mono λj hj=>Xg _ hj) k2 hm g2;have gp:∀S∈fps n3,CS.le S (FromL φ objs m):=λS hS=>by
       rw[r3,WnD]at hS;obtain⟨i,hi,rfl⟩:=Xv.1 hS;exact FromL.one hi (q4 i hi)
      have gs:Sep (fps n3):=by
       rw[r3,WnD];refine List.pairwise_map.2 (k1.imp_of_mem λ{i j} hi hj hne=>?_)
       exactλb o h1 h2=>hne (h.inj i j b o (q4 i hi) (q4 j hj) h1 h2)
      refine⟨fps n3++kf,ms,⟨n3,ks',kf,us,by rw[iD,r2],rfl,r1,hO.outs⟩,Wv9 h gs hO.sepk gp hO.kf (λi hi hj=>k3 i hi i hj rfl),hO.sepm,λS hS=>?_,hO.ms⟩;rcases Xl.1 hS with hS|hS
      .exactλb o hh=>FromL.mono (λi hi=>Xk _ hi) b o (gp S hS b o hh)
      .exactλb o hh=>FromL.mono (λi hi=>Xg _ hi) b o (hO.kf S hS b o hh)
    .cases hf
   .cases hf
  .cases hf
end
end Go.Sx
namespace Go.Sx
set_option linter.unusedVariables false
set_option linter.unusedSimpArgs false
section
variable{P:Program}{T:Tab}{Γ:Ctx}
theorem Wsp{sg:Sig}{d:WeW sg.ps}{G:GH}{w:World}{vs:List Value}{ns:List Pc}{ks:List Nu}{n:Nat}(hn:WbO sg.ps<=n)(eQ:Wch sg.ps=true)(hargs:Wbf G w sg.ps d vs ns ks)(hsep:Sep (fps ns))
  (hfree:∀q∈ns,∀b off,q.fp b off->G b off=none/\b<w.heap.size) (hg:∀b o v,G b o=some v->w.cell? ⟨b,o,none⟩=some v):
  ∃ν,Rel w (Of ns) ⟨n,Wz sg.ps 0 0 vs⟩ G G ν {env:=Wgi 0 (WL sg.ps d [] 0).1,objs:=(WL sg.ps d [] 0).2.1,nx:=(WL sg.ps d [] 0).2.2}
   {tmps:=vs.toArray++Xee (n-vs.toArray.size) undef,defers:=[]} w:=by
 obtain⟨ν,hν⟩:∃ν:Nat->Nu,ν= λi=>((nus ns)[i]?).getD ⟨none,0,0,0,0⟩:=⟨_,rfl⟩;obtain⟨φ,hφ⟩:∃φ:Nat->CS,φ= λi=>((fps ns)[i]?).getD (λ_ _=>False):=⟨_,rfl⟩;have hAt:At ν φ 0 ns:=λj pc hj=>by
  have e1:(nus ns)[j]?=some pc.nu:=by unfold nus;rw[Xap,hj];rfl
  have e2:(fps ns)[j]?=some pc.fp:=by unfold fps;rw[Xap,hj];rfl
  rw[hν,hφ];simp only[Xba,e1,e2];exact⟨rfl,rfl⟩
 obtain⟨h1,h2,h3,h4⟩:=Wck (ν:=ν) (φ:=φ) sg.ps d vs ns ks [] 0 (0+ns.length) eQ hargs hAt (Xn _);have rz:=WcZ _ _ _ _ _ hargs;have dQ:∀id,Live (WL sg.ps d [] 0).2.1 id->id<ns.length:=λid ⟨ob,ho,_⟩=>by
  rcases h2 id ob ho with⟨_,h,_⟩|h
  .simpa using h
  .cases h
 have aq:∀id b o,φ id b o->∃q,ns[id]?=some q/\(fps ns)[id]?=some q.fp/\q.fp b o:=λid b o hp=>by
  rw[hφ]at hp
  try simp only at hp
  cases hq:ns[id]? with
  |none=>
   have:(fps ns)[id]?=none:=by unfold fps;rw[Xap,hq];rfl
   rw[this]at hp;exact hp.elim
  |some q=>
   have:(fps ns)[id]?=some q.fp:=by unfold fps;rw[Xap,hq];rfl
   rw[this]at hp;exact⟨q,rfl,this,hp⟩
 have uU:∀(i:Nat) (v:Value),vs[i]?=some v->(vs.toArray++Xee (n-vs.toArray.size) undef)[i]?=some v:=λi v hi=>by
  have hlt:=(Xt.1 hi).1;rw[Array.getElem?_append_left (by simpa using hlt)];simpa using hi
 refine⟨ν,rfl,by simp;omega,λp hp=>?_,λi x hx=>?_,⟨φ,?_⟩,λ_ _ _ hh=>hh,λ_ _ _ hh=>.inl hh⟩
 .obtain⟨_,g2⟩:=WH _ _ _ _ p hp;exact uU _ _ (by simpa using g2)
 .simp only at hx;rw[Wg9]at hx;simp only[Xbr,if_true,Xdf]at hx;have hlt:=(Xt.1 hx).1;rw[h3]at hlt;have hv:=Xp hlt;refine⟨_,uU i _ hv,?_⟩;have:=h4 i x _ hx hv;simp only[h1];exact this
 .exact{
   g:=hg
   ob:=λid ob ho=>by
    rcases h2 id ob ho with⟨_,_,h⟩|h
    .simp only[h1];exact h
    .cases h
   gf:=λid b o hl hp=>by
    obtain⟨q,g1,_,g2⟩:=aq id b o hp;exact(hfree q (Xaw g1) b o g2).1
   inj:=λid bL b o hl bK hp df=>by
    obtain⟨q,_,g1,g2⟩:=aq id b o hp;obtain⟨q',_,xk,xl⟩:=aq bL b o df;exact Wkh hsep g1 xk g2 xl
   own:=λid b o hl hp=>by
    obtain⟨q,g1,_,g2⟩:=aq id b o hp;exact .inr ⟨q,Xaw g1,g2⟩
   lt:=λid hl=>by simp only[h1];have:=dQ id hl;omega
   bl:=λid b o hl hp=>by
    obtain⟨q,g1,_,g2⟩:=aq id b o hp;exact(hfree q (Xaw g1) b o g2).2
   le:=WLe.refl _ w}
theorem Wp4(hT:Waf P T){f:Func}{sg:Sig}{d:WeW sg.ps}{G:GH}{w:World}{vs:List Value}{ns:List Pc}{ks:List Nu}{n:Nat}(eQ:Wch sg.ps=true)(hargs:Wbf G w sg.ps d vs ns ks)
  {st:St} {a:Act} {w':World} {G1:GH} {ν:Nat->Nu} (hr:Rel w (Of ns) ⟨n,Wz sg.ps 0 0 vs⟩ G G1 ν st a w') {xs:List AVal} (hx:Wet T st f.results.toList=some xs)
  {A:Outs (Wgw sg.rs)} (hA:WaY sg.rs xs st.objs=some A) {B:OutK (WfB sg.ps)} (hB:WY sg.ps (Wt sg.ps 0 0 st) st.objs=some B)
  (aW:Wbl (B.kept++(B.moved++A.moved))=true) (kX:Wgt (A.lent++B.lent) (B.kept++(B.moved++A.moved))=true):
  ∃rv kf ms cF G',(results f a.tmps).run P w'= .ok (Wij rv) w'/\After sg (B.d,A.d) G w ns ks rv kf ms cF G' w':=by
 have aW:=(WeG _).1 aW;have kX:=Wl0 kX;obtain⟨φ,hφ⟩:=hr.h;have s8:=hφ.addG_le (A.lent++B.lent);have xm:=hφ.addG_w (A.lent++B.lent);have me:Lent (WpP G1 w' (FromL φ st.objs (A.lent++B.lent))) w' φ st.objs (A.lent++B.lent):=λid bE hl=>(Wh7 _).mono (FromL.one bE hl);obtain⟨k1,k2,k3⟩:=Xah.1 aW;obtain⟨k4,k5,k6⟩:=Xah.1 k2;obtain⟨rv,s9,ta,tc⟩:=Wj7 hT hr _ xs hx;obtain⟨cF,q1,q2,q3,q4⟩:=WdC hφ s8 sg.rs xs rv A ta tc (me.mono λi hi=>Xk _ hi) k5 hA;obtain⟨hsl,cU⟩:=Wax hr sg.ps d vs ns ks 0 0 hargs eQ (by cases sg.ps<;>rfl) (Xbr _) (by simpa using hr.par);obtain⟨kf,ms,hO⟩:=WaJ s8 hφ sg.ps d vs ns ks _ B hargs hsl (λj x v hj hv=>cU j x v hj (by simpa using hv)) (me.mono λi hi=>Xg _ hi) k1 k4 hB;have fg:∀S∈kf++fps (ms++cF),CS.le S (FromL φ st.objs (B.kept++(B.moved++A.moved))):=λS hS=>by
  rcases Xl.1 hS with hS|hS
  .exactλb o hh=>FromL.mono (λi hi=>Xk _ hi) b o (hO.kf S hS b o hh)
  .obtain⟨q,hq,rfl⟩:=Xv.1 hS;rcases Xl.1 hq with hq|hq
   .exactλb o hh=>FromL.mono (λi hi=>Xg _ (Xk _ hi)) b o (hO.ms q hq b o hh)
   .exactλb o hh=>FromL.mono (λi hi=>Xg _ (Xg _ hi)) b o (q3 q hq b o hh)
 refine⟨rv,kf,ms,cF,WpP G1 w' (FromL φ st.objs (A.lent++B.lent)),?_,?_⟩
 .show(do let vs←f.results.mapM (WmA a.tmps);pure (if h:vs.size=1 then vs[0]else .tuple vs):Sem Value).run P w'=_;have gi:(f.results.mapM (WmA a.tmps)).run P w'= .ok rv.toArray w':=by
   rw[Array.mapM_eq_mapM_toList,Sem.run_map,s9];rfl
  rw[Sem.run_bind,gi];simp only[Result.andThen_ok,Sem.run_pure];congr 1;unfold Wij
  match rv with
  | []=>rfl
  | [v]=>rfl
  |u::v::l=>simp
 .exact{
   res:=q1
   outs:=hO.outs
   sep:=by
    refine Wv9 hφ hO.sepk (Wca hφ hO.sepm q2 hO.ms q3 (λi hi hj=>k6 i hi i hj rfl)) hO.kf (l:=B.moved++A.moved) (λS hS=>?_) (λi hi hj=>k3 i hi i hj rfl);obtain⟨q,hq,rfl⟩:=Xv.1 hS;rcases Xl.1 hq with hq|hq
    .exactλb o hh=>FromL.mono (λi hi=>Xk _ hi) b o (hO.ms q hq b o hh)
    .exactλb o hh=>FromL.mono (λi hi=>Xg _ hi) b o (q3 q hq b o hh)
   own:=λS hS b off hh=>by
    obtain⟨i,hi,h1,h2⟩:=fg S hS b off hh;refine⟨?_,(hφ.own i b off h1 h2).symm,hφ.bl i b off h1 h2⟩;rw[WcV (λ⟨j,hj,h3,h4⟩=>by
     have:=hφ.inj i j b off h1 h3 h2 h4;subst this;exact kX _ hj hi)]
    exact hφ.gf i b off h1 h2
   gx:=by
    refine⟨λb o v hv=>s8 b o v (hr.gx.le b o v hv),λb off v hv=>?_⟩;by_cases hb:FromL φ st.objs (A.lent++B.lent) b off
    .obtain⟨j,hj,h1,h2⟩:=hb;exact .inr (hφ.own j b off h1 h2)
    .rw[WcV hb]at hv;exact hr.gx.new b off v hv
   g:=xm
   le:=hφ.le}
theorem Wu9(hM:P.follows .mixedOrders=true)(hT:Waf P T)(hΓ:WeT P Γ){f:Func}{k:FuncId}{c:Code}(hf:P.funcs[k]?=some f)(hb:f.body=some c){sg:Sig}(aX:Wdj f.ntmps (WdP sg.ps 0 0) c=true)(eQ:Wch sg.ps=true)
  (hn:WbO sg.ps<=f.ntmps) {ann:Nat->List Ghost} (h:∀d o,sg.run d=some o->∃N,den T Γ ann N sg f d some=some o):Good P k sg:=by
 intro d o hrun G w vs ns ks hargs hsep hfree hg;obtain⟨N,gS⟩:=h d o hrun;unfold den at gS;simp only[hb]at gS;obtain⟨ν,mf⟩:=Wsp hn eQ hargs hsep hfree hg;split at gS
 case h_2=>cases gS
 rename_i c' b st0 fJ xn;injection fJ with fJ;subst fJ;obtain⟨rfl,gS⟩:=WaD gS;obtain⟨G0',ν0',hr⟩:=Wdo _ _ _ _ _ mf xn;refine calls_of_wp hf hb ?_
 suffices hk:∀e,Wrj w (Of ns) ⟨f.ntmps,Wz sg.ps 0 0 vs⟩ G (Wwr T sg f.results.toList some e) o (bodyPost P f (λe w'=>∃rv kf ms cF G',e= .returned (Wij rv)/\After sg o G w ns ks rv kf ms cF G' w') e.to)from
  Wnn (nt:=⟨f.ntmps,Wz sg.ps 0 0 vs⟩) hM hT hΓ (n:=f.ntmps) rfl (WM sg.ps 0 0 vs) c aX hk _ _ _ _ _ hr gS
 intro e st a w' G1 ν1 gQ hk;have gj:(∃xs,Wet T st f.results.toList=some xs/\∃A B,WaY sg.rs xs st.objs=some A/\WY sg.ps (Wt sg.ps 0 0 st) st.objs=some B/\Wbl (B.kept++(B.moved++A.moved))=true/\Wgt (A.lent++B.lent) (B.kept++(B.moved++A.moved))=true/\(B.d,A.d)=o)->
   a.defers= []/\∃v,(results f a.tmps).run P w'= .ok v w'/\∃rv kf ms cF G',Ending.returned v= .returned (Wij rv)/\After sg o G w ns ks rv kf ms cF G' w':=by
  rintro⟨xs,hx,A,B,hA,hB,h1,h2,rfl⟩;obtain⟨rv,kf,ms,cF,G',h3,h4⟩:=Wp4 hT (f:=f) eQ hargs gQ hx hA hB h1 h2;exact⟨gQ.defers,_,h3,rv,kf,ms,cF,G',rfl,h4⟩
 have mW:(match Wet T st f.results.toList with
   |some xs=>match WaY sg.rs xs st.objs,WY sg.ps (Wt sg.ps 0 0 st) st.objs with
    |some A,some B=>if Wbl (B.kept++(B.moved++A.moved))&&Wgt (A.lent++B.lent) (B.kept++(B.moved++A.moved))then some (B.d,A.d)else none
    |_,_=>none
   |none=>none)=some o->(∃xs,Wet T st f.results.toList=some xs/\∃A B,WaY sg.rs xs st.objs=some A/\WY sg.ps (Wt sg.ps 0 0 st) st.objs=some B/\Wbl (B.kept++(B.moved++A.moved))=true/\Wgt (A.lent++B.lent) (B.kept++(B.moved++A.moved))=true/\(B.d,A.d)=o):=λhk=>by
  split at hk
  .rename_i xs hx;split at hk
   .rename_i A B hA hB;obtain⟨hc,hk⟩:=WbP hk;simp only[Xi]at hc;injection hk with hk;exact⟨xs,hx,A,B,hA,hB,hc.1,hc.2,hk⟩
   .cases hk
  .cases hk
 cases e with
 |normal=>exact gj (mW hk)
 |ret=>exact gj (mW hk)
 |exit id=>cases hk
end
end Go.Sx
namespace Go.Sx
set_option linter.unusedVariables false
set_option linter.unusedSimpArgs false
def zv1:Value->Value->Bool
 | .int k n,.int k' n'=>decide (k=k')&&decide (n=n')
 | .bool b,.bool b'=>b==b'
 | .string s,.string s'=>match s.data.toList,s'.data.toList with
  | [],[]=>true
  |_,_=>false
 | .slice none 0 0,.slice none 0 0=>true
 | .pointer none,.pointer none=>true
 |_,_=>false
theorem WtG(x y:Value)(h:zv1 x y=true):x=y:=by
 unfold zv1 at h;split at h
 .simp only[Xi,decide_eq_true_eq]at h;obtain⟨rfl,rfl⟩:=h;rfl
 .have:=eq_of_beq h;subst this;rfl
 .rename_i s s';split at h
  .rename_i e1 e2;have:s=s':=by
    cases s with|mk a=>cases s' with|mk b=>
    congr 1;apply Array.ext';simp only at e1 e2;rw[e1,e2]
   rw[this]
  .cases h
 .rfl
 .rfl
 .cases h
def Wv8:List Value->List Value->Bool
 | [],[]=>true
 |x::l,y::m=>zv1 x y&&Wv8 l m
 |_,_=>false
theorem WlB:∀(l m:List Value),Wv8 l m=true->l=m
 | [],[],_=>rfl
 | [],_::_,h=>by cases h
 |_::_,[],h=>by cases h
 |x::l,y::m,h=>by
  simp only[Wv8,Xi]at h;rw[WtG x y h.1,WlB l m h.2]
def Wf7:List Field->List (Nat×TypeId)->Bool
 | [],[]=>true
 |f::l,p::m=>Xbv f.offset p.1&&Xbv f.type p.2&&(f.name != "_")&&Wf7 l m
 |_,_=>false
def Wrh(P:Program)(T:Tab)(t:TypeId)(te:TE):Bool:=match te.shape with
 | .basic=>!te.agg&&(match te.ty with
  | .int k=>match P.underlying t with|some (.int k')=>decide (k'=k)|_=>false
  | .bool=>match P.underlying t with|some .bool=>true|_=>false
  | .str=>match P.underlying t with|some .string=>true|_=>false
  |_=>false)
 | .slice e=>!te.agg&&(match P.underlying t with|some (.slice e')=>Xbv e' e|_=>false)&&(match look T e with|some dE=>decide (te.ty= .slice dE.ty)|none=>false)
 | .struct fs=>te.agg&&(match P.underlying t with|some (.struct fields)=>Wf7 fields.toList fs|_=>false)&& !P.stoodInHeld t&& !P.eqGuardType P.depth t
 | .ptr e=>!te.agg&&(match P.underlying t with|some (.pointer e')=>Xbv e' e|_=>false)
 | .arr n e=>te.agg&&(match P.underlying t with|some (.array n' e')=>Xbv n' n&&Xbv e' e|_=>false)&&(match look T e with|some dE=>decide (dE.ty=te.ty)&&dE.plain|none=>false)
def Wna(P:Program)(t:TypeId)(te:TE):Bool:=match P.info? t with
 |some i=>match i.zero with
  |some z=>Xbv i.size te.size&&Wv8 z.cells.toList te.cells&&Nat.ble i.bytes 4096
  |none=>false
 |none=>false
def WlF(P:Program)(T:Tab):Tab->Bool
 | []=>true
 |(t,te)::l=>Wrh P T t te&&Wna P t te&&WlF P T l
theorem We0:∀(l:List Field) (m:List (Nat×TypeId)),Wf7 l m=true→l.map (λf=>(f.offset,f.type))=m∧∀f∈l,f.name≠ "_"
 | [],[],_=>⟨rfl,by simp⟩
 | [],_::_,h=>by cases h
 |_::_,[],h=>by cases h
 |f::l,p::m,h=>by
  simp only[Wf7,Xi,bne_iff_ne,ne_eq]at h;obtain⟨⟨⟨h1,h2⟩,h3⟩,h4⟩:=h;obtain⟨h5,h6⟩:=We0 l m h4;have h1:f.offset=p.1:=by simpa using h1
  have h2:f.type=p.2:=by simpa using h2
  refine⟨by rw[Xam,h5,h1,h2],λg hg=>?_⟩;rcases Xq.1 hg with hg|hg
  .subst hg;exact h3
  .exact h6 g hg
theorem WmX{P:Program}{T:Tab}{t:TypeId}{te:TE}(h:Wrh P T t te=true)(hi:Wna P t te=true):TEok P T t te:=by
 obtain⟨ty,agg,shape⟩:=te;refine⟨?_,?_⟩
 .unfold Wrh at h;cases shape with
  |basic=>
   simp only[Xi,Xar]at h⊢;refine⟨h.1,?_⟩;have h:=h.2;cases ty with
   |int k=>
    simp only at h⊢;split at h
    .rename_i k' hu;simp only[decide_eq_true_eq]at h;rw[hu,h]
    .cases h
   |bool=>
    simp only at h⊢;split at h
    .assumption
    .cases h
   |str=>
    simp only at h⊢;split at h
    .assumption
    .cases h
   |slice e=>cases h
   |own e=>cases h
   |prod a b=>cases h
  |slice e=>
   simp only[Xi,Xar]at h⊢;obtain⟨⟨h1,h2⟩,h3⟩:=h;refine⟨h1,?_,?_⟩
   .split at h2
    .rename_i e' hu;rw[hu];have:e'=e:=by simpa using h2
     rw[this]
    .cases h2
   .split at h3
    .rename_i dE hl;exact⟨dE,hl,by simpa using h3⟩
    .cases h3
  |struct fs=>
   simp only[Xi,Xar]at h⊢;obtain⟨⟨⟨h1,h2⟩,h3⟩,h4⟩:=h;refine⟨h1,?_⟩;split at h2
   .rename_i fields hu;obtain⟨h5,h6⟩:=We0 _ _ h2;exact⟨fields,hu,h5,λf hf=>h6 f (by simpa using hf),h3,h4⟩
   .cases h2
  |ptr e=>
   simp only[Xi,Xar]at h⊢;refine⟨h.1,?_⟩;have h:=h.2;split at h
   .rename_i e' hu;rw[hu];have:e'=e:=by simpa using h
    rw[this]
   .cases h
  |arr n e=>
   simp only[Xi]at h⊢;obtain⟨⟨h1,h2⟩,h3⟩:=h;refine⟨h1,?_,?_⟩
   .split at h2
    .rename_i n' e' hu;simp only[Xi]at h2;have e1:n'=n:=by simpa using h2.1
     have e2:e'=e:=by simpa using h2.2
     rw[hu,e1,e2]
    .cases h2
   .split at h3
    .rename_i dE hl;simp only[Xi,decide_eq_true_eq]at h3;refine⟨dE,hl,h3.1,λm f hs=>?_⟩;have:=h3.2;unfold TE.plain at this;rw[hs]at this;cases this
    .cases h3
 .unfold Wna at hi;split at hi
  .rename_i i dy;split at hi
   .rename_i z hz;simp only[Xi]at hi;obtain⟨⟨h1,h2⟩,h3⟩:=hi;exact⟨i,z,dy,by simpa using h1,hz,WlB _ _ h2,Xga h3⟩
   .cases hi
  .cases hi
theorem Wvq{P:Program}{T:Tab}(h:WlF P T T=true):Waf P T:=by
 have key:∀l,WlF P T l=true->∀t te,look l t=some te->TEok P T t te:=by
  intro l
  induction l with
  |nil=>intro _ t te hl;cases hl
  |cons p l ih=>
   intro hc t te hl;obtain⟨t',dE⟩:=p;simp only[WlF,Xi]at hc;rw[Wy]at hl;split at hl
   .rename_i e;subst e;injection hl with hl;subst hl;exact WmX hc.1.1 hc.1.2
   .exact ih hc.2 t te hl
 exact key T h
theorem Wa{P:Program}:WeT P []:=λk sg h=>by cases h
theorem WsD{P:Program}{Γ:Ctx}{k:FuncId}{sg:Sig}(hg:Good P k sg)(hc:WfI P k)(h:WeT P Γ):WeT P ((k,sg)::Γ):=λk' xo hl=>by
 simp only[look]at hl;split at hl
 .rename_i e;have:k=k':=by simpa using e
  subst this;injection hl with hl;subst hl;exact⟨hg,hc⟩
 .exact h k' xo hl
def Wnf(f:Func):Bool:=f.body.isSome&& !(f.name== "runtime.NumGoroutine")
theorem WcL{P:Program}{k:FuncId}{f:Func}(hf:P.funcs[k]?=some f)(h:Wnf f=true):WfI P k:=by
 simp only[Wnf,Xi,Xar]at h;refine⟨f,hf,?_,h.2⟩;cases hb:f.body with
 |none=>rw[hb]at h;cases h.1
 |some c=>rfl
def Wne(f:Func)(ps:List PTy):Bool:=match f.body with
 |some c=>Wdj f.ntmps (WdP ps 0 0) c&&Nat.ble (WbO ps) f.ntmps&&Wch ps
 |none=>false
theorem Wsa{P:Program}{T:Tab}{Γ:Ctx}(hM:P.follows .mixedOrders=true)(hT:Waf P T)(hΓ:WeT P Γ){f:Func}{k:FuncId}(hf:P.funcs[k]?=some f){sg:Sig}(aX:Wne f sg.ps=true){ann:Nat->List Ghost}
  (h:∀d o,sg.run d=some o->∃N,den T Γ ann N sg f d some=some o):Good P k sg:=by
 unfold Wne at aX;split at aX
 .rename_i c hb;simp only[Xi]at aX;exact Wu9 hM hT hΓ hf hb aX.1.1 aX.2 (Xga aX.1.2) h
 .cases aX
end Go.Sx
namespace Go.Sx
def Wfa:Code->List Code
 | .seq a b=>Wfa a++Wfa b
 | .cond _ a b=>Wfa a++Wfa b
 | .block _ c=>Wfa c
 | .loop c=>c::Wfa c
 |_=>[]
def WqY(f:Func):Code:=match f.body with
 |some c=>c
 |none=>.skip
def Wqy(f:Func)(i:Nat):Code:=(Wfa (WqY f)).getD i .skip
noncomputable def Wuu{R:Type}(T:Tab)(Γ:Ctx)(ann:Nat->List Ghost)(N:Nat):Code->List Nat->(Ex->St->Option R)->Ex->St->Option R
 | .seq a b,p,k=>match p with
  |0::p=>Wuu T Γ ann N a p λe ah=>match e with
   | .normal=>sx T Γ ann N b ah k
   | .exit id=>k (.exit id) ah
   | .ret=>k .ret ah
  |_::p=>Wuu T Γ ann N b p k
  | []=>k
 | .cond _ x y,p,k=>match p with
  |0::p=>Wuu T Γ ann N x p k
  |_::p=>Wuu T Γ ann N y p k
  | []=>k
 | .block id c,p,k=>match p with
  |_::p=>Wuu T Γ ann N c p λe ah=>match e with
   | .exit bL=>if bL=id then k .normal ah else k (.exit bL) ah
   | .normal=>k .normal ah
   | .ret=>k .ret ah
  | []=>k
 |_,_,k=>k
def Wwg{R:Type}(gs:List Ghost)(L:St->(Ex->St->Option R)->Option R)(K:Ex->St->Option R):Ex->St->Option R:=λe st=>match e with
 | .normal=>match WdT gs st with
  |some (c,ah)=>bif c then L ah K else none
  |none=>none
 | .exit id=>K (.exit id) st
 | .ret=>K .ret st
abbrev vI(x:Int):AVal:=.s (.one (.val (.int .i64) x))
abbrev vB(x:Bool):AVal:=.s (.one (.val .bool x))
abbrev vV(t:Ty)(x:t.den):AVal:=.s (.one (.val t x))
abbrev vO(i:Nat):AVal:=.s (.one (.own i))
abbrev vP(i o:Nat):AVal:=.s (.one (.ptr i o))
abbrev Qs(s:Sig):=WfB s.ps×Wgw s.rs
structure Fn where
 F:Func
 a:Nat->List Ghost
 s:Nat->Sig
 c:Nat->Ctx
def WB:Nat->List Ghost:=λ_=>[]
def Wbg:Nat->Ctx:=λ_=>[]
noncomputable def lpM{R:Type}(T:Tab)(Γ:Ctx)(ann:Nat->List Ghost)(N:Nat)(F:Func)(i k n:Nat)(st:St)(K:Ex->St->Option R):Option R:=Wnt (Wi0 (ann k) λst k=>sx T Γ ann N (Wqy F i) st k) n st K
noncomputable def cxF(T:Tab)(Γ:Ctx)(ann:Nat->List Ghost)(N:Nat)(sg:Sig)(F:Func)(p:List Nat):Ex->St->Option (Qs sg):=Wuu (R:=Qs sg) T Γ ann N (WqY F) p (Wwr T sg F.results.toList some)
noncomputable def cxL{R:Type}(T:Tab)(Γ:Ctx)(ann:Nat->List Ghost)(N:Nat)(F:Func)(i k:Nat)(p:List Nat)(n:Nat)(K:Ex->St->Option R):Ex->St->Option R:=Wuu T Γ ann N (Wqy F i) p (Wwg (ann k) (lpM T Γ ann N F i k n) K)
end Go.Sx
namespace Go.Sx
open Go.ChangeShapes Go.WideShapes Go.ChangeAt Go.RowKit
set_option linter.unusedVariables false
set_option linter.unusedSimpArgs false
def Wfd:(t:Ty)->t.den->Prop
 | .int k,n=>(Lit.int k n).wf=true
 | .bool,_=>True
 | .str,s=>Xc s<=maxLen
 | .slice e,l=>Xc l<=maxLen/\∀x,List.Mem x l->Wfd e x
 | .own _,_=>False
 | .prod a b,d=>Wfd a d.1/\Wfd b d.2
def WfF:(t:Ty)->t.den->Nat
 | .int _,_=>1
 | .bool,_=>1
 | .str,s=>Xc s+1
 | .slice e,l=>(List.map (WfF e) l).sum+1
 | .own _,_=>0
 | .prod a b,d=>WfF a d.1+WfF b d.2
structure Bulk{H:Type}(β:DataW H->Nat):Prop where
 lit:∀l,1<=β (.lit l)
 str:∀s,s.length+1<=β (.lit (.string s))
 nil:1<=β .nil
 slice:∀es sp,(es.map β).sum+1<=β (.slice es sp)
 agg:∀ps,(ps.map β).sum<=β (.agg ps)
def Wjz(T:Tab):List (Nat×TypeId)->Nat->Option (List Ty)
 | [],_=>some []
 |(o,ft)::fs,off=>match look T ft with
  |some te=>bif Xbv o off&&te.plain then(Wjz T fs (off+te.ty.size)).map (te.ty:: ·)else none
  |none=>none
def WdR:List Ty->Ty
 | []=>.bool
 | [t]=>t
 |t::ts=>.prod t (WdR ts)
def Wnw(T:Tab):Nat->TypeId->Bool
 |0,_=>false
 |n+1,t=>match look T t with
  |some te=>match te.shape with
   | .basic=>match te.ty with
    | .int _=>true
    | .bool=>true
    | .str=>true
    | .slice _=>false
    | .own _=>false
    | .prod _ _=>false
   | .slice e=>Wnw T n e&&(match look T e with|some dE=>dE.plain|none=>false)
   | .struct fs=>fs.all (λf=>Wnw T n f.2)&&(match Wjz T fs 0 with
    |some (t::ts)=>decide (te.ty=WdR (t::ts))
    |_=>false)
   | .ptr _=>false
   | .arr _ _=>false
  |none=>false
section
variable{P:Program}{T:Tab}{H:Type}{enc:TypeId×Value->H}{β:DataW H->Nat}{w:World}
theorem Wgo{t:TypeId}{te:TE}(h:TEok P T t te):P.cellsOf t=te.size:=by
 obtain⟨i,z,hi,hs,_⟩:=h.info;unfold Program.cellsOf;rw[hi];exact hs
def WhH(w:World):GH:=λb o=>w.cell? ⟨b,o,none⟩
theorem Wrg{b:Nat}{a:Addr}{n:Nat}{cs:List Value}(h:w.cells? b a n=some cs):cs.length=n/\∀(j:Nat) (v:Value),cs[j]?=some v->w.cell? (a.add j)=some v:=by
 unfold World.cells? at h;split at h
 .refine⟨by simpa using mapM_some_length h,λj v hj=>?_⟩;have hlt:j<n:=by
   have:=mapM_some_length h;have h2:=(Xt.1 hj).1;simp at this;omega
  have:=mapM_some_get h j j (by simp[hlt]);rw[this];exact hj
 .cases h
theorem Wof{e:Ty}{a:Addr}(n:Nat)(hn:0<n):∀(k:Nat) (i0:Nat) (el:Nat->Option (DataW H×List MemPlace)) (f:List Value->Option (DataW H×List MemPlace)),
  (∀cs y,f cs=some y->∃d:e.den,Enc (WhH w) e d cs/\Wfd e d/\WfF e d<=β y.1)->
  (∀i,i0<=i->i<i0+k->∃y cs,w.cells? 0 (a.add (i*n)) n=some cs/\f cs=some y/\el i=some y)->
  ∃(l:List e.den) (cs:List Value),l.length=k/\EncL (Enc (WhH w) e) l cs/\(∀x∈l,Wfd e x)/\(∀(j:Nat) (v:Value),cs[j]?=some v->w.cell? (a.add (i0*n+j))=some v)/\
   cs.length=k*n/\(l.map (WfF e)).sum<=((Xdl k).map λi=>match el (i0+i)with|some y=>β y.1|none=>0).sum
 |0,i0,el,f,hf,he=>⟨[],[],rfl,rfl,by simp,by simp,by simp,by simp⟩
 |k+1,i0,el,f,hf,he=>by
  obtain⟨y,c1,h1,h2,h3⟩:=he i0 (Xn _) (by omega);obtain⟨d,xp,la,hd3⟩:=hf _ _ h2;obtain⟨l,cs,g1,g2,g3,g4,g5,g6⟩:=Wof n hn k (i0+1) el f hf (λi lm jV=>he i (by omega) (by omega));obtain⟨hl,hg⟩:=Wrg h1;refine⟨d::l,c1++cs,by simp[g1],⟨c1,cs,rfl,xp,g2⟩,λx hx=>?_,λj v hj=>?_,?_,?_⟩
  .rcases Xq.1 hx with rfl|hx
   .exact la
   .exact g3 x hx
  .rw[Xaz]at hj;split at hj
   .have:=hg j v hj;rw[Addr.add_add]at this;exact this
   .rename_i hlt;have:=g4 _ v hj;rw[hl]at this hlt;have e:(i0+1)*n+(j-n)=i0*n+j:=by rw[Xcy];omega
    rw[e]at this;exact this
  .rw[Xae,hl,g5,Xcy];omega
  .rw[List.range_succ_eq_map,Xam,Xam,Xdb,Xdb,Xeh];simp only[Xbb,h3];have:((λi=>match el (i0+i)with|some y=>β y.1|none=>0)∘Nat.succ)= λi=>match el (i0+1+i)with|some y=>β y.1|none=>0:=by
    funext i;simp only[Function.comp,Nat.succ_eq_add_one];rw[show i0+(i+1)=i0+1+i by omega]
   rw[this];omega
theorem WuG{β':DataW H×List MemPlace->Nat}(xs:List (DataW H×List MemPlace)):((Xdl xs.length).map λi=>match xs[0+i]? with|some y=>β' y|none=>0).sum=(xs.map β').sum:=by
 congr 1;apply List.ext_getElem
 .simp
 .intro i h1 h2;simp at h1;simp[h1]
theorem Wnv{t:Ty}{ts:List Ty}(h:ts≠ []):WdR (t::ts)= .prod t (WdR ts):=by
 cases ts with
 |nil=>exact absurd rfl h
 |cons _ _=>rfl
theorem Wi3(hT:Waf P T)(hβ:Bulk β)(f:TypeId->List Value->Option (DataW H×List MemPlace)){cs:List Value}:∀(fs:List (Nat×TypeId)) (off:Nat) (ts:List Ty) (ys:List (DataW H×List MemPlace)),ts≠ []->Wjz T fs off=some ts->
  (∀fd∈fs,∀te cs y,look T fd.2=some te->f fd.2 cs=some y->∃d:te.ty.den,Enc (WhH w) te.ty d cs/\Wfd te.ty d/\WfF te.ty d<=β y.1)->
  ys.length=fs.length->(∀(i:Nat) (fd:Nat×TypeId),fs[i]?=some fd->f fd.2 ((cs.drop fd.1).take (P.cellsOf fd.2))=ys[i]?)->cs.length=off+(WdR ts).size->
  ∃d:(WdR ts).den,Enc (WhH w) (WdR ts) d (cs.drop off)/\Wfd (WdR ts) d/\WfF (WdR ts) d<=(ys.map λy=>β y.1).sum
 | [],off,ts,ys,hne,ik,_,_,_,_=>by injection ik with ik;exact absurd ik.symm hne
 |(o,ft)::fs,off,ts,ys,hne,ik,hf,hlen,uV,br=>by
  cases ys with
  |nil=>simp at hlen
  |cons y ys=>
   simp only[Wjz]at ik;split at ik
   .rename_i te hl;obtain⟨hc,ik⟩:=WaD ik;simp only[Xi]at hc;have ho:o=off:=by simpa using hc.1
    obtain⟨uW,d4,rfl⟩:=Xab.1 ik;have hsz:P.cellsOf ft=te.ty.size:=by rw[Wgo (hT _ _ hl),WU hc.2]
    have h0:=uV 0 (o,ft) rfl;simp only[Xdq,hsz,ho]at h0;obtain⟨d1,e1,e2,e3⟩:=hf (o,ft) (Xh ..) te _ y hl h0;cases dt:fs with
    |nil=>
     subst dt;simp only[Wjz]at d4;injection d4 with d4;subst d4;have td:ys= []:=by cases ys with
      |nil=>rfl
      |cons _ _=>simp at hlen
     subst td;have sZ:(cs.drop off).take te.ty.size=cs.drop off:=Xbx (by rw[List.length_drop,br];simp[WdR]);rw[sZ]at e1;exact⟨d1,e1,e2,by rw[Xam,Xcg,Xdb,List.sum_nil,Xbb];exact e3⟩
    |cons g gs=>
     have pY:uW≠ []:=by
      rw[dt]at d4;obtain⟨o2,ft2⟩:=g;simp only[Wjz]at d4;split at d4
      .obtain⟨_,d4⟩:=WaD d4;obtain⟨x,_,rfl⟩:=Xab.1 d4;simp
      .cases d4
     have uX:=Wnv (t:=te.ty) pY;obtain⟨d2,f1,f2,f3⟩:=Wi3 hT hβ f (cs:=cs) fs (off+te.ty.size) uW ys pY d4 (λfd fw=>hf fd (Xe _ fw)) (by simpa using hlen)
      (λi fd hi=>by have:=uV (i+1) fd (by simpa using hi);simpa using this) (by rw[br,uX,Ty.size];omega)
     rw[uX];refine⟨(d1,d2),⟨_,_,?_,e1,f1⟩,⟨e2,f2⟩,?_⟩
     .rw[←List.drop_drop];exact(List.take_append_drop _ _).symm
     .simp only[WfF,Xam,Xdb];omega
   .cases ik
theorem WkK(hT:Waf P T)(hβ:Bulk β):∀(n fuel:Nat) (t:TypeId) (te:TE) (cs:List Value) (x:DataW H×List MemPlace),Wnw T n t=true->look T t=some te->
  DataW.trod enc P w 0 (λ_=>true) true fuel t cs=some x->∃d:te.ty.den,Enc (WhH w) te.ty d cs/\Wfd te.ty d/\WfF te.ty d<=β x.1
 |0,_,_,_,_,_,h,_,_=>by cases h
 |n+1,fuel,t,te,cs,x,h,hl,hx=>by
  have bF:=hT _ _ hl;simp only[Wnw,hl]at h;obtain⟨ty,agg,shape⟩:=te;cases shape with
  |basic=>
   have hu:=bF.und.2;cases ty with
   |int k=>
    obtain⟨m,rfl,rfl,hw⟩:=DataW.trod_int hu hx;exact⟨m,rfl,hw,hβ.lit _⟩
   |bool=>
    obtain⟨b,rfl,rfl⟩:=DataW.trod_bool hu hx;exact⟨b,rfl,trivial,hβ.lit _⟩
   |str=>
    obtain⟨s,rfl,rfl,hs⟩:=DataW.trod_string hu hx;refine⟨s.data.toList,by simp[Enc],?_,hβ.str _⟩;show s.data.toList.length<=maxLen;rw[Array.length_toList];exact hs
   |slice e=>cases h
   |own e=>cases h
   |prod a b=>cases h
  |slice e=>
   simp only[Xi]at h;obtain⟨ha,hu,dE,hle,gy⟩:=bF.und;simp only at gy;subst gy;have hp:dE.plain=true:=by have:=h.2;rw[hle]at this;exact this
   have hsz:P.cellsOf e=dE.ty.size:=by rw[Wgo (hT _ _ hle),WU hp]
   rcases DataW.trod_slice hu hx with⟨rfl,rfl⟩|⟨a,len,cap,elems,rest,m,rfl,rfl,rfl,hb,xq,kS,tf,hel,iW,_⟩
   .exact⟨([]:List dE.ty.den),⟨_,rfl,.inl ⟨rfl,rfl⟩⟩,⟨by simp,λx hx=>by cases hx⟩,by simpa [WfF]using hβ.nil⟩
   .have key:=Wof (w:=w) (β:=β) (e:=dE.ty) (a:=a) dE.ty.size (Wbq _) len 0 (λi=>elems[i]?) (λcs=>DataW.trod enc P w 0 (λ_=>true) true m e cs)
     (λcs y hy=>WkK hT hβ n m e dE cs y h.1 hle hy) (λi _ hi=>by
      rw[Xba]at hi;have:=hel i hi;rw[hsz]at this;have hlt:i<elems.length:=by omega
      rw[Xp hlt]at this;obtain⟨cs,h1,h2⟩:=Xcb.1 this;exact⟨elems[i],cs,h1,h2,Xp hlt⟩)
    obtain⟨l,cs,g1,g2,g3,g4,g5,g6⟩:=key;refine⟨l,⟨_,rfl,?_⟩,⟨by rw[g1];omega,g3⟩,?_⟩
    .by_cases h0:len=0
     .subst h0;exact .inr (.inr ⟨a,cap,rfl,Xad g1⟩)
     .have sy:0<cs.length:=by rw[g5];exact Nat.mul_pos (by omega) (Wbq _)
      have pZ:=g4 0 _ (Xp sy);have p0:a.spot=none:=by
       rw[Xey,Xbb]at pZ;have:=World.cell?_spot pZ;simpa [Addr.add]using this
      obtain⟨b,off,spot⟩:=a;subst p0;refine .inr (.inl ⟨b,off,cap,cs,by rw[g1],by rw[g1];exact xq,kS,g2,λj v hj=>?_⟩);have:=g4 j v hj;rw[Xey,Xba,WaO]at this;exact this
    .have h1:=hβ.slice (elems.map (·.1)) (rest.map (·.1));have h2:((Xdl len).map λi=>match elems[0+i]? with|some y=>β y.1|none=>0).sum=(elems.map λy=>β y.1).sum:=by
      rw[←tf];exact WuG elems
     rw[h2]at g6;rw[Xeh]at h1;simp only[WfF];have h3:(List.map (β∘λx=>x.1) elems)=elems.map λy=>β y.1:=rfl;rw[h3]at h1;show(List.map (WfF dE.ty) l).sum+1<=_;omega
  |struct fs=>
   simp only[Xi]at h;obtain⟨ha,fields,hu,dt,uY,_⟩:=bF.und;have h2:=h.2;split at h2
   .rename_i t1 ts xr;have gy:ty=WdR (t1::ts):=of_decide_eq_true h2;subst gy;obtain⟨xs,m,rfl,rfl,hcl,iE,mT⟩:=DataW.trod_struct hu hx;have hsz:P.cellsOf t=(WdR (t1::ts)).size:=by rw[Wgo bF];rfl
    have key:=Wi3 (w:=w) (P:=P) hT hβ (λt cs=>DataW.trod enc P w 0 (λ_=>true) true m t cs) (cs:=cs) fs 0 (t1::ts) xs (by simp) xr
     (λfd fw te cs y pW hy=>WkK hT hβ n m fd.2 te cs y (Xak.1 h.1 fd fw) pW hy) (by rw[iE,←dt];simp)
     (λi fd hi=>by
      rw[←dt]at hi;rw[Xap]at hi;obtain⟨fl,fM,he⟩:=Xab.1 hi;subst he;exact mT i fl (by simpa using fM)) (by rw[hcl,hsz,Xba])
    obtain⟨d,g1,g2,g3⟩:=key;rw[Xcf]at g1;refine⟨d,g1,g2,Xcr g3 ?_⟩;have:=hβ.agg (xs.map (·.1));rw[Xeh]at this;exact this
   .cases h2
  |ptr e=>cases h
  |arr m e=>cases h
theorem Wd6{G:GH}{w:World}:∀(t:Ty) (d:t.den) (vs:List Value),Enc G t d vs->TyRel G w t d vs []
 | .int _,_,_,h=>⟨rfl,h⟩
 | .bool,_,_,h=>⟨rfl,h⟩
 | .str,_,_,h=>⟨rfl,h⟩
 | .slice _,_,_,h=>⟨rfl,h⟩
 | .own _,_,_,h=>h.elim
 | .prod a b,d,vs,⟨c1,c2,he,h1,h2⟩=>⟨c1,c2,[],[],he,rfl,Wd6 a _ _ h1,Wd6 b _ _ h2⟩
def WnT:(ps:List PTy)->WeW ps->Prop
 | [],_=>True
 | .v t _::ps,d=>Wfd t d.1/\WnT ps d.2
 | .box _::_,_=>False
 | .mut _::_,_=>False
 | .clos _ _::_,_=>False
 | .kv _ _::_,_=>False
 | .rp _::_,_=>False
 | .vj _::_,_=>False
 | .boxal _ _::_,_=>False
def Wf2:(ps:List PTy)->WeW ps->Nat
 | [],_=>0
 | .v t _::ps,d=>WfF t d.1+Wf2 ps d.2
 | .box _::_,_=>0
 | .mut _::_,_=>0
 | .clos _ _::_,_=>0
 | .kv _ _::_,_=>0
 | .rp _::_,_=>0
 | .vj _::_,_=>0
 | .boxal _ _::_,_=>0
def Wvg(P:Program)(T:Tab):List TypeId->List PTy->Bool
 | [],[]=>true
 |t::ts,p::ps=>(match p with
  | .v ty agg=>(match look T t with|some te=>decide (te.ty=ty)&&(te.agg==agg)|none=>false)&&Wnw T 20 t&&P.readableRec t&&Nat.blt t P.types.size&&Wvg P T ts ps
  | .box _=>false
  | .mut _=>false
  | .clos _ _=>false
  | .kv _ _=>false
  | .rp _=>false
  | .vj _=>false
  | .boxal _ _=>false)
 |_,_=>false
theorem Wlz(hT:Waf P T)(hβ:Bulk β):∀(ts:List TypeId) (ps:List PTy) (vs:List Value) (ds:List (DataW H)) (pl:List MemPlace),Wvg P T ts ps=true->DataW.TrodAll enc P w 0 (λ_=>true) true ts vs ds pl->
  (∀(j:Nat) (t:TypeId) (v:Value),ts[j]?=some t->vs[j]?=some v->∃base,Value.okWide P w .any base t v)->
  ∃d:WeW ps,Wbf (WhH w) w ps d vs [] []/\WnT ps d/\Wf2 ps d<=(ds.map β).sum
 | [],[],vs,ds,pl,_,h,_=>by
  obtain⟨rfl,rfl,_⟩:=trodAll_nil h;exact⟨(),⟨rfl,rfl,rfl⟩,trivial,by simp[Wf2]⟩
 | [],_::_,_,_,_,h,_,_=>by cases h
 |_::_,[],_,_,_,h,_,_=>by cases h
 |t::ts,.box _::ps,_,_,_,h,_,_=>by cases h
 |t::ts,.mut _::ps,_,_,_,h,_,_=>by cases h
 |t::ts,.clos _ _::ps,_,_,_,h,_,_=>by cases h
 |t::ts,.kv _ _::ps,_,_,_,h,_,_=>by cases h
 |t::ts,.rp _::ps,_,_,_,h,_,_=>by cases h
 |t::ts,.vj _::ps,_,_,_,h,_,_=>by cases h
 |t::ts,.boxal _ _::ps,_,_,_,h,_,_=>by cases h
 |t::ts,.v ty agg::ps,vs,ds,pl,hp,h,fZ=>by
  obtain⟨v,vs',d,p8,p,q,rfl,rfl,rfl,h0,hr⟩:=trodAll_cons h;simp only[Wvg,Xi]at hp;obtain⟨⟨⟨⟨h1,h2⟩,h3⟩,h4⟩,h5⟩:=hp;split at h1
  .rename_i te hl;simp only[Xi]at h1;have e1:te.ty=ty:=of_decide_eq_true h1.1;have e2:te.agg=agg:=eq_of_beq h1.2;subst e1 e2;obtain⟨fuel,hx⟩:=h0;obtain⟨x,ey,uZ,eA⟩:=WkK hT hβ 20 fuel t te _ (d,p) h2 hl hx;obtain⟨base,aX⟩:=fZ 0 t v rfl rfl;obtain⟨dd,g1,g2,g3⟩:=Wlz hT hβ ts ps vs' p8 q h5 hr (λj t v hj hv=>fZ (j+1) t v (by simpa using hj) (by simpa using hv));refine⟨(x,dd),⟨v,vs',[],[],rfl,rfl,?_,g1⟩,⟨uZ,g2⟩,?_⟩
   .have hu:=(hT _ _ hl).und;unfold WiE;obtain⟨ty,ag,shape⟩:=te;simp only at ey uZ eA⊢;have dY:∀u:Value,u.cells= #[u]->u=v->v.cells.toList= [v]:=λu h e=>by rw[←e,h]
    cases shape with
    |basic=>
     obtain⟨ha,hu⟩:=hu;simp only at ha;subst ha;simp only[Xbp,if_false];have:v.cells.toList= [v]:=by
      cases ty with
      |int k=>obtain⟨n,rfl⟩:=okWide_int hu aX;rfl
      |bool=>obtain⟨n,rfl⟩:=okWide_bool hu aX;rfl
      |str=>obtain⟨n,rfl⟩:=okWide_string hu aX;rfl
      |slice e=>cases hu
      |own e=>cases hu
      |prod a b=>cases hu
     rw[this]at ey;exact Wd6 _ _ _ ey
    |slice e=>
     obtain⟨ha,hu,_⟩:=hu;simp only at ha;subst ha;simp only[Xbp,if_false];obtain⟨a,l,c,rfl⟩:=okWide_slice hu aX;exact Wd6 _ _ _ ey
    |struct fs=>
     obtain⟨ha,fields,hu,_⟩:=hu;simp only at ha;subst ha;simp only[if_true];obtain⟨cs,rfl,_⟩:=okWide_struct hu aX;exact⟨cs.toList,by simp,Wd6 _ _ _ ey⟩
    |ptr e=>simp only[Wnw,hl]at h2;cases h2
    |arr m e=>simp only[Wnw,hl]at h2;cases h2
   .have eA:WfF te.ty x<=β d:=eA;simp only[Wf2,Xam,Xdb];omega
  .cases h1
theorem Wlw:∀(ts:List TypeId) (vs:List Value) (ds:List (DataW H)) (pl:List MemPlace),DataW.TrodAll enc P w 0 (λ_=>true) true ts vs ds pl->ds.length=ts.length
 | [],vs,ds,pl,h=>by obtain⟨_,rfl,_⟩:=trodAll_nil h;rfl
 |t::ts,vs,ds,pl,h=>by
  obtain⟨v,vs',d,p8,p,q,rfl,rfl,rfl,h0,hr⟩:=trodAll_cons h;simp[Wlw ts vs' p8 q hr]
theorem Wms(iq:laidOutB P=true){W W':World}(hb:Below W.heap.size W W'){sp:Nat->Bool}:∀(ts:List TypeId) (ps:List PTy) (vs:List Value) (ds:List (DataW H)) (pl:List MemPlace),Wvg P T ts ps=true->
  DataW.TrodAll enc P W 0 (λ_=>true) true ts vs ds pl->(∀p∈pl,p.block<W.heap.size)->(∀p∈pl,sp p.block=true)->DataW.TrodAll enc P W' 0 sp true ts vs ds pl
 | [],ps,vs,ds,pl,_,h,_,_=>by
  obtain⟨rfl,rfl,rfl⟩:=trodAll_nil h;exact trodAll_mk0
 |t::ts,[],_,_,_,h,_,_,_=>by cases h
 |t::ts,.box _::ps,_,_,_,h,_,_,_=>by cases h
 |t::ts,.mut _::ps,_,_,_,h,_,_,_=>by cases h
 |t::ts,.clos _ _::ps,_,_,_,h,_,_,_=>by cases h
 |t::ts,.kv _ _::ps,_,_,_,h,_,_,_=>by cases h
 |t::ts,.rp _::ps,_,_,_,h,_,_,_=>by cases h
 |t::ts,.vj _::ps,_,_,_,h,_,_,_=>by cases h
 |t::ts,.boxal _ _::ps,_,_,_,h,_,_,_=>by cases h
 |t::ts,.v ty agg::ps,vs,ds,pl,hp,h,hlt,iW=>by
  obtain⟨v,vs',d,p8,p,q,rfl,rfl,rfl,h0,hr⟩:=trodAll_cons h;simp only[Wvg,Xi]at hp;obtain⟨⟨⟨⟨h1,h2⟩,h3⟩,h4⟩,h5⟩:=hp;have hrow:t<P.types.size:=by rw[Xgy]at h4;exact h4
  exact⟨p,q,WideElems.Trod_stays iq h3 hrow h0 (λx hx=>hb.same (hlt x (Xk _ hx))) (λx hx=>iW x (Xk _ hx)),
   Wms iq hb ts ps vs' p8 q h5 hr (λx hx=>hlt x (Xg _ hx)) (λx hx=>iW x (Xg _ hx)),rfl⟩
theorem Ws0{f:Func}{s:ChangeSpec}{apart fresh fB again:Bool}{W W':World}{args:Array Value}{v:Value}{ds gs:List (DataW H)}{before pa pv:List MemPlace}
  (hW:DataW.Whole enc P f.params.toList s.vars apart W args.toList ds gs before)
  (gN:∀(b:Nat) (sp:Nat->Bool) (hd:Bool),DataW.TrodAll enc P W' b sp hd f.resultTypes.toList (v.resultList f.resultTypes.size) (s.fn H (ds++gs)).results [])
  (hargs:∀sp:Nat->Bool,(∀p∈before,sp p.block=true)->DataW.TrodAll enc P W' 0 sp true f.params.toList args.toList (s.fn H (ds++gs)).args pa)
  (mg:∀sp:Nat->Bool,(∀p∈before,sp p.block=true)->DataW.TrodVars enc P W' sp s.vars (s.fn H (ds++gs)).vars pv)
  (cb:before=pa++pv) (hk:W.keptBut W' (· ∈before)) (u0:∀a,a.block<W.heap.size->W'.frozen? a=W.frozen? a)
  (aX:∀(j:Nat) (t:TypeId) (r:Value),f.resultTypes[j]?=some t->(v.resultList f.resultTypes.size)[j]?=some r->Value.okWide P W' .any 0 t r):
  s.post enc P f apart fresh fB again W args v W':=by
 have gd:∀p∈before,(λb=>decide (b<W.heap.size)) p.block=true:=λp hp=>by simpa using hW.lt p hp
 refine⟨ds,gs,before,[],pa,pv,hW,gN _ _ _,hargs _ gd,mg _ gd,World.keptBut_mono (λp hp=>⟨hp,?_⟩) hk,λ_=>?_⟩
 .rw[cb,Xl]at hp;exact Or.inr hp
 .have hlt:=hW.lt;obtain⟨_,_,_,_,_,hz,hn⟩:=hW;refine⟨aX,_,_,([]++pa)++pv,⟨[]++pa,pv,trodAll_append (hargs _ (λ_ _=>rfl)) (gN _ _ _),mg _ (λ_ _=>rfl),rfl,?_,?_⟩,?_⟩
  .intro b off hp;have df:MemPlace.cell b off∈before:=by rw[cb];simpa using hp
   rw[u0 ⟨b,off,none⟩ (hlt _ df)];exact hz b off df
  .intro ha;have:=hn ha;rw[cb]at this;simpa using this
  .intro p hp _;rw[cb];simpa using hp
theorem law_row(hT:Waf P T)(iq:laidOutB P=true){f:Func}{k:FuncId}{s:ChangeSpec}(cU:s.vars= [])(hs:∀ds:List (DataW H),ds.length=f.params.toList.length->s.fn H ds={results:=[.lit (.bool true)],args:=ds})
  {ps:List PTy} (cb:Wvg P T f.params.toList ps=true) {tb:TypeId} (gN:f.resultTypes= #[tb]) (u3:P.underlying tb=some .bool) {run:Nat->WeW ps->Option (WfB ps×Wgw [.v .bool false])}
  (jP:∀N,Good P k (Sig.of ps [.v .bool false] (run N))) (hβ:Bulk β) {ok:List (DataW H)->Prop} {M:Nat->Prop} (p9:∀ds m,ok ds->m<=(ds.map β).sum->M m)
  (tg:∀d:WeW ps,WnT ps d->M (Wf2 ps d)->∃N o,run N d=some (o,(true,()))) {apart fresh fB again:Bool}
  (W:World) (base:Nat) (args:Array Value) (ds gs:List (DataW H)) (before:List MemPlace)
  (fZ:∀(j:Nat) t v,f.params[j]?=some t->args[j]?=some v->Value.okWide P W .any base t v)
  (hW:DataW.Whole enc P f.params.toList s.vars apart W args.toList ds gs before) (hk:ok ds):
  Calls P k args W λe W'=>∃v,e= .returned v/\s.post enc P f apart fresh fB again W args v W':=by
 have hW':=hW;have hlt:=hW.lt;obtain⟨p,q,hA,hV,u4,u0,aW⟩:=hW;rw[cU]at hV;obtain⟨xt,hq⟩:=trodVars_none hV;subst xt hq;rw[Xcz]at u4;subst u4;obtain⟨d,h1,h2,h3⟩:=Wlz (w:=W) hT hβ f.params.toList ps args.toList ds before cb hA (λj t v hj hv=>⟨base,fZ j t v (by simpa using hj) (by simpa using hv)⟩);obtain⟨N,o,ho⟩:=tg d h2 (p9 ds _ hk h3);have hc:=jP N d (o,(true,())) ho (WhH W) W args.toList [] [] h1 List.Pairwise.nil (by simp) (λb o v hv=>hv);have hargs:args.toList.toArray=args:=by simp
 rw[hargs]at hc;refine hc.mono λe W' ⟨rv,kf,ms,cF,G',he,ha⟩=>?_;have hb:Below W.heap.size W W':=⟨ha.le.os,ha.le.tape,ha.le.output,ha.le.size,λb hb=>ha.le.whole b hb (λo ⟨q,hq,_⟩=>by simp at hq)⟩;obtain⟨v,vs',n1,n2,e1,e2,e3,e4⟩:=ha.res;obtain⟨e5,_⟩:=e4;subst e5;have hv:v= .bool true:=by
  unfold WiE at e3;simp only[Xbp,if_false]at e3;have:=e3.2;simpa [Enc]using this
 subst hv;have ir:Wij rv= .bool true:=by rw[e1];rfl
 rw[ir]at he;refine⟨.bool true,he,?_⟩;have hlen:=Wlw _ _ _ _ hA;have th:=hs (ds++ []) (by rw[Xcz];exact hlen);refine Ws0 (pa:=before) (pv:=[]) hW' ?_ ?_ ?_ (by simp) (hb.frame _) (λa ha=>hb.frozen ha) (ok_one gN rfl (okWide_bool_mk u3 _))
 .intro b sp hd;rw[th,gN];exact trodAll_cons_mk (shut_bool u3 _) trodAll_mk0
 .intro sp iW;rw[th,Xcz];exact Wms iq hb _ _ _ _ _ cb hA hlt iW
 .intro sp iW;rw[th,cU];rfl
end
end Go.Sx
namespace Go.Sx
set_option linter.unusedVariables false
def sortInts(xs:List Int):List Int:=xs.mergeSort λx y=>decide (x<=y)
def Zq2(N:Nat)(xs:List Int):Option ((List Int×Unit)×Unit):=bif decide (xs.length<4611686018427387904)then some ((sortInts xs,()),())else none
theorem sortInt_some{N:Nat}{xs:List Int}{o:(List Int×Unit)×Unit}(h:Zq2 N xs=some o):xs.length<4611686018427387904/\o=((sortInts xs,()),()):=by
 unfold Zq2 at h;by_cases h':xs.length<4611686018427387904
 .rw[show decide (xs.length<4611686018427387904)=true by simpa using h']at h;simp only[cond_true]at h;injection h with h;exact⟨h',h.symm⟩
 .rw[show decide (xs.length<4611686018427387904)=false by simpa using h']at h;cases h
end Go.Sx
namespace Go.Sx
set_option linter.unusedVariables false
def Wkk{α:Type}(r:α->α->Bool):List α->Bool
 | []=>true
 |x::l=>l.all (r x)&&Wkk r l
def lessBy{α:Type}(cf:α->α->Int)(x y:α):Bool:=decide (cf x y<0)
def apart{α:Type}(cf:α->α->Int)(x y:α):Bool:=lessBy cf x y||lessBy cf y x
def sortBy{α:Type}(cf:α->α->Int)(xs:List α):List α:=xs.mergeSort λx y=>!lessBy cf y x
def Zmi{α:Type}(rng:α->Bool)(cf:α->α->Int)(N:Nat)(xs:List α):Option ((List α×Unit)×Unit):=
 bif xs.all rng&&(Wkk (apart cf) xs&&decide (xs.length<4611686018427387904))then some ((sortBy cf xs,()),())else none
structure SwoOn{α:Type}(rng:α->Bool)(cf:α->α->Int):Prop where
 irr:∀x,rng x=true->¬cf x x<0
 tr:∀x y z,rng x=true->rng y=true->rng z=true->cf x y<0->cf y z<0->cf x z<0
 nt:∀x y z,rng x=true->rng y=true->rng z=true->¬cf x y<0->¬cf y z<0->¬cf x z<0
theorem sortBy_some{α:Type}{rng:α->Bool}{cf:α->α->Int}{N:Nat}{xs:List α}{o:(List α×Unit)×Unit}(h:Zmi rng cf N xs=some o):
  (∀x∈xs,rng x=true)/\Wkk (apart cf) xs=true/\xs.length<4611686018427387904/\o=((sortBy cf xs,()),()):=by
 unfold Zmi at h;cases hb:xs.all rng&&(Wkk (apart cf) xs&&decide (xs.length<4611686018427387904))
 .rw[hb]at h;cases h
 .rw[hb]at h;simp only[cond_true]at h;injection h with h;simp only[Xi,decide_eq_true_eq]at hb;exact⟨Xak.1 hb.1,hb.2.1,hb.2.2,h.symm⟩
theorem pairs_get{α:Type}{r:α->α->Bool}:∀{l:List α},Wkk r l=true->∀(i j:Nat) (hi:i<l.length) (hj:j<l.length),i<j->r l[i] l[j]=true
 | [],_,i,_,hi,_,_=>by simp at hi
 |x::l,h,0,j+1,hi,hj,hij=>by
  simp only[Wkk,Xi]at h;exact Xak.1 h.1 _ (List.getElem_mem _)
 |x::l,h,i+1,j+1,hi,hj,hij=>by
  simp only[Wkk,Xi]at h;simpa using pairs_get h.2 i j (by simpa using hi) (by simpa using hj) (by omega)
def Wse(k:Int):Bool:=decide (-1000000000<=k)&&decide (k<=1000000000)
def Wvw(a:Int×Int×Int):Bool:=Wse a.1
def cfE(a b:Int×Int×Int):Int:=a.1-b.1
def Wv4(a:Int×Int×List (Int×Int)):Bool:=Wse a.1
def cfW(a b:Int×Int×List (Int×Int)):Int:=a.1-b.1
def Wug(a:Int×Int×Int):Bool:=Wse a.1&&Wse a.2.1
def cfH(a b:Int×Int×Int):Int:=bif a.2.1==b.2.1 then a.1-b.1 else a.2.1-b.2.1
theorem Wd4{k:Int}(h:Wse k=true):-1000000000<=k/\k<=1000000000:=by unfold Wse at h;simpa using h
theorem WwC:SwoOn Wvw cfE:=⟨λx _=>by unfold cfE;omega,λx y z _ _ _=>by unfold cfE;omega,λx y z _ _ _=>by unfold cfE;omega⟩
theorem WwH:SwoOn Wv4 cfW:=⟨λx _=>by unfold cfW;omega,λx y z _ _ _=>by unfold cfW;omega,λx y z _ _ _=>by unfold cfW;omega⟩
theorem Wby{a b:Int×Int×Int}:cfH a b<0↔(a.2.1<b.2.1\/(a.2.1=b.2.1/\a.1<b.1)):=by
 unfold cfH;by_cases h:a.2.1=b.2.1
 .have:(a.2.1==b.2.1)=true:=by simpa using h
  rw[this];simp only[cond_true];omega
 .have:(a.2.1==b.2.1)=false:=by simpa using h
  rw[this];simp only[cond_false];omega
theorem WvK{a b:Int×Int×Int}(h:(a.2.1 !=b.2.1)=false):a.1-b.1=cfH a b:=by
 have h:a.2.1=b.2.1:=bne_eq_false_iff_eq.1 h;unfold cfH;rw[beq_iff_eq.2 h];rfl
theorem WvO{a b:Int×Int×Int}(h:(a.2.1 !=b.2.1)=true):a.2.1-b.2.1=cfH a b:=by
 have h:a.2.1≠b.2.1:=bne_iff_ne.1 h;unfold cfH;rw[beq_eq_false_iff_ne.2 h];rfl
theorem WwF:SwoOn Wug cfH:=⟨λx _=>by rw[Wby];omega,λx y z _ _ _=>by rw[Wby,Wby,Wby];omega,λx y z _ _ _=>by rw[Wby,Wby,Wby];omega⟩
end Go.Sx
