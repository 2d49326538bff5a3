/- The abstract machine, part 3: a reflective interpreter of the program's code over data, with its soundness over the model. -/
import Derived.Test.YtnkbflecplbceaaGreatEng2
open Option renaming bind_assoc→Xgt,map→Xfr,bind_some→Xc,getD_some→Xdw,bind_eq_some_iff→Xbz,map_eq_some_iff→Xx
open Bool renaming not_true→Xaa,and_eq_true→Xh,not_eq_true'→Xao,false_eq_true→Xam,or_eq_true→Xcd
open List renaming mem_map→Xu,mem_cons_of_mem→Xf,mem_append_left→Xk,mem_append_right→Xg,mem_cons→Xo,mem_cons_self→Xi,length_append→Xz,getD_eq_getElem?_getD→Xay,getElem?_append→Xbc,getElem?_cons_zero→Xds,getElem?_eq_none→Xbe,all_eq_true→Xae,append_of_mem→Xeg,mem_append→Xn,range→Xdk,mem_filter→Xau,mem_range→Xek,filter_cons→Xbl,eq_nil_of_length_eq_zero→Xy,eq_nil_iff_forall_not_mem→Xey,nodup_nil→Xdm,mem_of_getElem?→Xaw,nodup_cons→Xaj,nil_append→Xcb,cons_append→Xbj,length_filter_le→Xeu,length_range→Xfp,mem_flatMap→Xfy,map_cons→Xai,map_map→Xei,map_congr_left→Xfe,append_nil→Xcn,nodup_append→Xak,filter_append→Xcw,prefix_append→Xgq,map_append→Xq,map_nil→Xcj,mem_erase_of_ne→Xgl,length_erase_of_mem→Xfu,length_pos_of_mem→Xgd,length_cons→Xr,getElem?_cons_succ→Xdt,getElem?_eq_some_iff→Xs,getElem?_append_right→Xax,getElem?_tail→Xci,mapM_cons→Xfi,pairwise_singleton→Xbm,mem_singleton→Xac,take_of_length_le→Xdb,getElem?_eq_getElem→Xp,drop_zero→Xca,tail_cons→Xej,getElem?_map→Xan,length→Xa,sum_cons→Xce
open Nat renaming sub_self→Xde,blt_eq→Xhe,le_refl→Xm,zero_add→Xbb,zero_le→Xbq,sub_zero→Xdc,beq→Xbv,le_trans→Xct,add_zero→Xaz,add_sub_cancel_left→Xbg,le_of_ble_eq_true→Xgg,add_mul→Xcz,zero_mul→Xex
open Array renaming getD_eq_getD_getElem?→Xcr,getElem?_setIfInBounds→Xfg,getElem?_eq_getElem→Xdj,getElem?_eq_some_iff→Xdi,replicate→Xed
namespace Go.Sx
set_option linter.unusedVariables false
set_option linter.unusedSimpArgs false
abbrev Out:=AVal×Wab×Nat
def WcP(x:AVal)(objs:Wab)(nx:Nat):Option Out:=some (x,objs,nx)
section
variable{T:Tab}{Γ:Ctx}{A:List (Nat×An)}
theorem WaR{α β:Type}{c:Prop}[Decidable c]{x:Option α}{f:α->Option β}:(if c then x else none).bind f=if c then x.bind f else none:=by split<;>rfl
theorem Wcg{α β:Type}{c:Bool}{x:Option α}{f:α->Option β}:(bif c then x else none).bind f=bif c then x.bind f else none:=by cases c<;>rfl
theorem WfP{R:Type}(sg:Sig)(st:St)(xs:List AVal)(k:KV R):Wft sg st xs k=(Wft sg st xs WcP).bind λp=>k p.1 p.2.1 p.2.2:=by
 unfold Wft;split
 .split
  .rw[sg.law,sg.law,Xgt];rfl
  .rfl
 .rfl
theorem WqC{R:Type}(sg:Sig)(st:St)(xs:List AVal)(k:KV R):Wmv sg st xs k=(Wmv sg st xs WcP).bind λp=>k p.1 p.2.1 p.2.2:=by
 unfold Wmv;cases sg.fresh with
 |true=>exact WfP _ _ _ _
 |false=>
  simp only[cond_false];split
  .split
   .exact WfP _ _ _ _
   .exact WfP _ _ _ _
  .rfl
theorem WlM{R:Type}(st:St)(te:Ty)(s x:AVal)(k:KV R):Wep st te s x k=(Wep st te s x WcP).bind λp=>k p.1 p.2.1 p.2.2:=by
 unfold Wep;split
 .split
  .split
   .split
    .rw[Wcg];rfl
    .rfl
   .rfl
  .rfl
 .split
  .split
   .split
    .rw[WaR,Wcg];rfl
    .rfl
   .rfl
  .rfl
 .rfl
theorem Wm5{R:Type}(st:St)(e:Ty)(ps:List (Nat×AVal))(k:KV R):Wdh st e ps k=(Wdh st e ps WcP).bind λp=>k p.1 p.2.1 p.2.2:=by
 unfold Wdh;split
 .rw[WaR];split
  .split
   .split
    .rw[WaR];rfl
    .rfl
   .rfl
  .rfl
 .rfl
theorem Wom{R:Type}(st:St)(te:Ty)(id:Nat)(l h:Option Int)(k:KV R):Wfr st te id l h k=(Wfr st te id l h WcP).bind λp=>k p.1 p.2.1 p.2.2:=by
 unfold Wfr;split
 .rw[WaR,Wcg];rfl
 .rfl
theorem Wlm{R:Type}(st:St)(t t2:TypeId)(s x:AVal)(k:KV R):WdG T st t t2 s x k=(WdG T st t t2 s x WcP).bind λp=>k p.1 p.2.1 p.2.2:=by
 unfold WdG;split
 .split
  .split
   .cases Wtz st s x with
    |false=>exact WlM _ _ _ _ _
    |true=>
    simp only[Xaa,cond_false];split
    .rw[Wcg];rfl
    .split
     .split
      .rw[Wcg];rfl
      .rfl
     .rfl
    .split
     .split
      .rw[Wcg];rfl
      .rfl
     .rfl
    .rfl
   .rfl
  .rfl
 .rfl
theorem Wvq{R:Type}(p:Option (Bool×AVal))(objs:Wab)(nx:Nat)(k:KV R):(match p with|some (c,v)=>bif c then k v objs nx else none|none=>none)=(match p with|some (c,v)=>bif c then WcP v objs nx else none|none=>none).bind λp=>k p.1 p.2.1 p.2.2:=by
 rcases p with _|⟨c,v⟩
 .rfl
 .cases c<;>rfl
theorem Wf0{R:Type}(o:Oper)(st:St)(k:KV R):rxe T Γ A o st k=(rxe T Γ A o st WcP).bind λp=>k p.1 p.2.1 p.2.2:=by
 unfold rxe;split
 .split
  .rw[WaR];rfl
  .rw[WaR];rfl
  .rfl
 .split<;>rfl
 .split
  .split
   .split<;>rfl
   .rfl
  .rfl
 .split
  .split
   .split
    .rw[WaR];split
     .exact Wm5 _ _ _ _
     .rfl
    .split
     .rw[WaR];rfl
     .rfl
   .rfl
  .rfl
 .split
  .split
   .split
    .rw[WaR,Wcg];rfl
    .rw[WaR,Wcg];rfl
   .rfl
  .rfl
 .split
  .split
   .split<;>rfl
   .rfl
  .rfl
 .split
  .split
   .split
    .split
     .rw[WaR];split
      .exact Wom _ _ _ _ _ _
      .rfl
     .split
      .rw[WaR,Wcg];rfl
      .rw[WaR,Wcg];rfl
      .rfl
    .rfl
   .rfl
  .exact Wvq _ _ _ _
 .split
  .split
   .exact Wlm _ _ _ _ _ _
   .rfl
  .split
   .split
    .split
     .rw[WaR];rfl
     .rfl
    .rfl
   .rfl
  .exact Wvq _ _ _ _
  .split
   .split
    .exact WqC _ _ _ _
    .rfl
   .rfl
  .rfl
 .exact Wvq _ _ _ _
end
section
variable{T:Tab}{Γ:Ctx}{A:List (Nat×An)}
theorem WnI{st:St}{env:List (Nat×AVal)}{t:TypeId}{x v:AVal}:WcU T {env:=env,objs:=st.objs,nx:=st.nx} t x v=(WcU T st t x v).map λs=>{env:=env,objs:=s.objs,nx:=s.nx}:=by
 unfold WcU;generalize look T t=q;generalize WgU v=z;rcases q with _|te
 .rfl
 rcases z with _|ds
 .rcases x with(c|cs)|xs
  .cases c<;>rfl
  .rfl
  .rfl
 rcases x with(c|cs)|xs
 .cases c with
  |ptr id off=>
   show(match look st.objs id with|some (.box cs)=>_|_=>_)=Xfr _ (match look st.objs id with|some (.box cs)=>_|_=>_);generalize look st.objs id=ob;rcases ob with _|ob
   .rfl
   cases ob with
   |box cs=>
    show(if _ then _ else _)=Xfr _ (if _ then _ else _);split<;>rfl
   |arr e xs=>rfl
   |hole e xs i p=>rfl
   |dead=>rfl
  |eptr id i off=>
   show(match look st.objs id with|some (.arr e xs)=>_|_=>_)=Xfr _ (match look st.objs id with|some (.arr e xs)=>_|_=>_);generalize look st.objs id=ob;rcases ob with _|ob
   .rfl
   cases ob with
   |box cs=>rfl
   |hole e xs i p=>rfl
   |dead=>rfl
   |arr e xs=>
    show(if _ then _ else _)=Xfr _ (if _ then _ else _);by_cases hc:(decide (te.ty.size=ds.length)&&te.plain&&decide (off+ds.length<=e.size)&&e.data)=true
    .rw[if_pos hc,if_pos hc];generalize Wap e (Wd3 (split e (List.getD xs i e.dflt)) off ds) st.objs=r;rcases r with _|⟨d,m,l⟩
     .rfl
     .cases m<;>cases l<;>rfl
    .rw[if_neg hc,if_neg hc];by_cases gH:(decide (te.ty.size=ds.length)&&te.plain&&decide (off=0)&&decide (ds.length=e.size))=true
     .rw[if_pos gH,if_pos gH];generalize Wap e ds st.objs=r;rcases r with _|⟨d,m,l⟩
      .rfl
      .cases l with
       |nil=>
        show(if _ then _ else _)=Xfr _ (if _ then _ else _);split<;>rfl
       |cons _ _=>rfl
     .rw[if_neg gH,if_neg gH];rfl
  |_=>rfl
 .rfl
 .rfl
theorem Wra{R:Type}(o:Oper){st:St}{env:List (Nat×AVal)}(k:KV R)(he:∀x∈Wac o.op,ev {env:=env,objs:=st.objs,nx:=st.nx} x=ev st x):
  rxe T Γ A o {env:=env,objs:=st.objs,nx:=st.nx} k=rxe T Γ A o st k:=by
 have br:(∀t x l h m,o.op≠ .slice t x l h m)->Wad T {env:=env,objs:=st.objs,nx:=st.nx} o.op=Wad T st o.op:=λhm=>WhA o.op hm he (λ_ _ _ _ _ _ _=>rfl);obtain⟨dst,op,type,pos,after,guard⟩:=o;simp only at he br;cases op with
 |alloc t=>rfl
 |box t x=>simp only[rxe,he x (by simp[Wac])]
 |build t parts=>simp only[rxe,WcA (st:=st) parts.toList λp hp=>he p.2 (by simp only[Wac];exact Xu.2 ⟨p,hp,rfl⟩)]
 |buildSlice t n parts=>
  have e1:∀e ps,Wdh {env:=env,objs:=st.objs,nx:=st.nx} e ps k=Wdh st e ps k:=λ_ _=>rfl;simp only[rxe,e1,WcA (st:=st) parts.toList λp hp=>he p.2 (by simp only[Wac];exact Xu.2 ⟨p,hp,rfl⟩)]
 |makeSlice t n c=>simp only[rxe,he n (by simp[Wac]),he c (by simp[Wac])]
 |store t a x=>
  simp only[rxe,he a (by simp[Wac]),he x (by simp[Wac])];split
  .rename_i p v _ _;have e:=WnI (T:=T) (st:={env:=st.env,objs:=WdE st.objs (WfS st.objs p v),nx:=st.nx}) (env:=env) (t:=t) (x:=p) (v:=Whv st.objs (WfS st.objs p v) v);simp only at e;rw[e];cases WcU T {env:=st.env,objs:=WdE st.objs (WfS st.objs p v),nx:=st.nx} t p (Whv st.objs (WfS st.objs p v) v)<;>rfl
  .rfl
 |slice t x lo hi m=>
  have hx:=he x (by simp[Wac]);have aZ:=Wj3 (st:=st) (aj:={env:=env,objs:=st.objs,nx:=st.nx}) lo λy hy=>he y (by simp only[Wac];exact Xf _ (Xk _ hy));have pM:=Wj3 (st:=st) (aj:={env:=env,objs:=st.objs,nx:=st.nx}) hi λy hy=>he y (by simp only[Wac];exact Xf _ (Xg _ (Xk _ hy)));cases m with
  |none=>
   have hp:Wad T {env:=env,objs:=st.objs,nx:=st.nx} (.slice t x lo hi none)=Wad T st (.slice t x lo hi none):=by
    simp only[Wad,hx];refine WbY λv _=>?_;simp only[Wlj,aZ,pM]
   have e1:∀te id l h,Wfr {env:=env,objs:=st.objs,nx:=st.nx} te id l h k=Wfr st te id l h k:=λ_ _ _ _=>rfl;simp only[rxe,hx,aZ,pM,hp,e1]
  |some y=>rfl
 |call c=>
  have hargs:=WmO (st:=st) (aj:={env:=env,objs:=st.objs,nx:=st.nx}) c.args.toList λx hx=>he x (by simp only[Wac];exact Xg _ hx);have hp:=br (λ_ _ _ _ _ h=>by cases h);simp only[rxe];split
  .rename_i s x t t2 hc ha c9;have h1:ev {env:=env,objs:=st.objs,nx:=st.nx} s=ev st s:=he s (by simp only[Wac];rw[ha];exact Xg _ (by simp));have h2:ev {env:=env,objs:=st.objs,nx:=st.nx} x=ev st x:=he x (by simp only[Wac];rw[ha];exact Xg _ (by simp));rw[h1,h2];rfl
  .rename_i x t hc ha c9;have h1:ev {env:=env,objs:=st.objs,nx:=st.nx} x=ev st x:=he x (by simp only[Wac];rw[ha];exact Xg _ (by simp));rw[h1]
  .rw[hp]
  .rename_i f hc;have h1:ev {env:=env,objs:=st.objs,nx:=st.nx} f=ev st f:=he f (by simp only[Wac];rw[hc];exact Xk _ (by simp));rw[h1,hargs];rfl
  .rfl
 |move x=>simp only[rxe,br (λ_ _ _ _ _ h=>by cases h)]
 |assign x=>simp only[rxe,br (λ_ _ _ _ _ h=>by cases h)]
 |pick c a b=>simp only[rxe,br (λ_ _ _ _ _ h=>by cases h)]
 |load t a=>simp only[rxe,br (λ_ _ _ _ _ h=>by cases h)]
 |nilCheck x=>simp only[rxe,br (λ_ _ _ _ _ h=>by cases h)]
 |binOp op t x y z=>simp only[rxe,br (λ_ _ _ _ _ h=>by cases h)]
 |unOp op t x=>simp only[rxe,br (λ_ _ _ _ _ h=>by cases h)]
 |convert s d x=>simp only[rxe,br (λ_ _ _ _ _ h=>by cases h)]
 |fieldAddr s x f=>simp only[rxe,br (λ_ _ _ _ _ h=>by cases h)]
 |field t x f=>simp only[rxe,br (λ_ _ _ _ _ h=>by cases h)]
 |indexAddr t x i=>simp only[rxe,br (λ_ _ _ _ _ h=>by cases h)]
 |index t x i=>simp only[rxe,br (λ_ _ _ _ _ h=>by cases h)]
 |extract t ix=>simp only[rxe,br (λ_ _ _ _ _ h=>by cases h)]
 |makeFunc f first captured=>simp only[rxe,br (λ_ _ _ _ _ h=>by cases h)]
 |_=>rfl
def WuT(T:Tab)(o:Oper)(st:St):Option AVal:=match o.op with
 | .build t parts=>match look T t,Wct st parts.toList with
  |some ⟨ty,true,.struct fs⟩,some ps=>
   if fs.all (λf=>match look T f.2 with|some te=>te.plain|none=>false)then
    match Wl5 T fs ps (WeG ty)with
    |some cs=>some (.s (.agg cs))
    |none=>none
   else none
  |_,_=>none
 |op=>match Wad T st op with
  |some (c,v)=>bif c then some v else none
  |none=>none
theorem WwF(p:Option (Bool×AVal))(objs:Wab)(nx:Nat):(match p with|some (c,v)=>bif c then WcP v objs nx else none|none=>none)=(match p with|some (c,v)=>bif c then some v else none|none=>none).bind λv=>WcP v objs nx:=by
 rcases p with _|⟨c,v⟩
 .rfl
 .cases c<;>rfl
theorem Wl9{o:Oper}(hm:WaM o=false)(st:St):rxe T Γ A o st WcP=(WuT T o st).bind λv=>WcP v st.objs st.nx:=by
 obtain⟨dst,op,type,pos,after,guard⟩:=o;cases op with
 |alloc t=>cases hm
 |box t x=>cases hm
 |buildSlice t n parts=>cases hm
 |makeSlice t n c=>cases hm
 |store t a x=>cases hm
 |slice t x lo hi m=>cases hm
 |build t parts=>
  simp only[rxe,WuT];generalize look T t=q;generalize Wct st parts.toList=z;rcases q with _|⟨ty,agg,shape⟩
  .rfl
  rcases z with _|ps
  .cases agg<;>cases shape<;>rfl
  cases agg with
  |false=>rfl
  |true=>
   cases shape with
   |struct fs=>
    show(if _ then _ else _)=Option.bind (if _ then _ else _) _;rw[WaR];cases Wl5 T fs ps (WeG ty)<;>rfl
   |_=>rfl
 |call c=>
  simp only[rxe,WuT];split
  .rename_i hc _ _;simp only[WaM,hc]at hm;cases hm
  .rename_i hc _ _;simp only[WaM,hc]at hm;cases hm
  .exact WwF _ _ _
  .rename_i hc;simp only[WaM,hc]at hm;cases hm
  .rename_i h0 h1 h2 h3;have:Wad T st (.call c)=none:=by
    simp only[Wad];split
    .rename_i hc _ _;first|exact absurd hc (h0 _)|exact absurd hc (h1 _)|exact absurd hc (h2 _)|exact absurd hc (h3 _)
    .rename_i hc _ _;first|exact absurd hc (h0 _)|exact absurd hc (h1 _)|exact absurd hc (h2 _)|exact absurd hc (h3 _)
    .rename_i hc _ _;first|exact absurd hc (h0 _)|exact absurd hc (h1 _)|exact absurd hc (h2 _)|exact absurd hc (h3 _)
    .rfl
   rw[this];rfl
 |_=>first|rfl|exact WwF (Wad T st _) st.objs st.nx
theorem WpI{o:Oper}(hm:WaM o=false){st aj:St}(he:∀x∈Wac o.op,ev aj x=ev st x)(hl:WvU o.op=true->∀x∈Wac o.op,∀v,ev st x=some v->Wek st aj v):WuT T o aj=WuT T o st:=by
 have br:(∀t x l h m,o.op≠ .slice t x l h m)->Wad T aj o.op=Wad T st o.op:=λhm=>WhA o.op hm he hl;obtain⟨dst,op,type,pos,after,guard⟩:=o;simp only at he br;cases op with
 |slice t x lo hi m=>cases hm
 |build t parts=>simp only[WuT,WcA (st:=st) parts.toList λp hp=>he p.2 (by simp only[Wac];exact Xu.2 ⟨p,hp,rfl⟩)]
 |_=>simp only[WuT,br (λ_ _ _ _ _ h=>by cases h)]
theorem WcM(objs:Wab):∀l,∃pre,kill objs l=pre++objs
 | []=>⟨[],rfl⟩
 |i::l=>by
  obtain⟨pre,h⟩:=WcM objs l;exact⟨(i,.dead)::pre,by simp only[kill,h];rfl⟩
theorem W9:∀(ps:List PTy) (o:WfW ps) (ids:List Kp) (objs:Wab) (nx:Nat),∃pre,(Wae ps o ids objs nx).1=pre++objs
 | [],_,_,objs,_=>⟨[],rfl⟩
 | .v _ _::ps,o,ids,objs,nx=>W9 ps o ids objs nx
 | .rp _::ps,o,ids,objs,nx=>W9 ps o ids objs nx
 | .box t::ps,o,ids,objs,nx=>by
  cases ids with
  |nil=>exact⟨[],rfl⟩
  |cons k ids=>
   obtain⟨pre,h⟩:=W9 ps o.2 ids ((k.id,Whr (look objs k.id) k.off (unfold t o.1 nx).1)::((unfold t o.1 nx).2.1++objs)) (unfold t o.1 nx).2.2;exact⟨pre++(k.id,Whr (look objs k.id) k.off (unfold t o.1 nx).1)::(unfold t o.1 nx).2.1,by simp only[Wae,h];simp⟩
 | .vj _::ps,o,ids,objs,nx=>W9 ps o ids objs nx
 | .boxal t _::ps,o,ids,objs,nx=>by
  cases ids with
  |nil=>exact⟨[],rfl⟩
  |cons k ids=>
   obtain⟨pre,h⟩:=W9 ps o.2 ids ((k.id,Whr (look objs k.id) k.off (unfold t o.1 nx).1)::((unfold t o.1 nx).2.1++objs)) (unfold t o.1 nx).2.2;exact⟨pre++(k.id,Whr (look objs k.id) k.off (unfold t o.1 nx).1)::(unfold t o.1 nx).2.1,by simp only[Wae,h];simp⟩
 | .mut e::ps,o,ids,objs,nx=>by
  cases ids with
  |nil=>exact⟨[],rfl⟩
  |cons k ids=>
   obtain⟨pre,h⟩:=W9 ps o.2 ids ((k.id,.arr e o.1)::objs) nx;exact⟨pre++ [(k.id,.arr e o.1)],by simp only[Wae,h];simp⟩
 | .clos _ _::ps,o,ids,objs,nx=>W9 ps o ids objs nx
 | .kv t _::ps,o,ids,objs,nx=>by
  obtain⟨pre,h⟩:=W9 ps o.2 (ids.drop t.owns) (Wcr t o.1 ((ids.take t.owns).map Kp.id)++objs) nx;exact⟨pre++Wcr t o.1 ((ids.take t.owns).map Kp.id),by simp only[Wae,h];simp⟩
theorem Wak:∀(rs:List PTy) (d:WgM rs) (objs:Wab) (nx:Nat),∃pre,(Wbi rs d objs nx).2.1=pre++objs
 | [],_,objs,_=>⟨[],rfl⟩
 | .v t agg::rs,d,objs,nx=>by
  obtain⟨pre,h⟩:=Wak rs d.2 ((unfold t d.1 nx).2.1++objs) (unfold t d.1 nx).2.2;exact⟨pre++(unfold t d.1 nx).2.1,by simp only[Wbi,h];simp⟩
 | .box t::rs,d,objs,nx=>by
  obtain⟨pre,h⟩:=Wak rs d.2 ((nx,.box (unfold t d.1 (nx+1)).1)::((unfold t d.1 (nx+1)).2.1++objs)) (unfold t d.1 (nx+1)).2.2;exact⟨pre++(nx,.box (unfold t d.1 (nx+1)).1)::(unfold t d.1 (nx+1)).2.1,by simp only[Wbi,h];simp⟩
 | .mut _::rs,d,objs,nx=>Wak rs d objs nx
 | .clos _ _::rs,d,objs,nx=>Wak rs d objs nx
 | .kv _ _::rs,d,objs,nx=>Wak rs d objs nx
 | .rp _::rs,d,objs,nx=>Wak rs d objs nx
 | .vj t::rs,d,objs,nx=>by
  obtain⟨pre,h⟩:=Wak rs d.2 ((unfold t d.1 nx).2.1++objs) (unfold t d.1 nx).2.2;exact⟨pre++(unfold t d.1 nx).2.1,by simp only[Wbi,h];simp⟩
 | .boxal _ _::rs,d,objs,nx=>Wak rs d objs nx
def Suf(objs:Wab)(r:Option Out):Prop:=∀x objs' nx,r=some (x,objs',nx)->∃pre,objs'=pre++objs
theorem Suf.none{objs:Wab}:Suf objs none:=λ_ _ _ h=>by cases h
theorem Suf.out{objs pre:Wab}{x:AVal}{nx:Nat}:Suf objs (WcP x (pre++objs) nx):=λ_ _ _ h=>by
 injection h with h;have:=congrArg (λp:Out=>p.2.1) h;exact⟨pre,this.symm⟩
theorem Suf.ite{objs:Wab}{c:Prop}[Decidable c]{r:Option Out}(h:Suf objs r):Suf objs (if c then r else Option.none):=by split;exact h;exact .none
theorem Suf.bif{objs:Wab}{c:Bool}{r:Option Out}(h:Suf objs r):Suf objs (bif c then r else Option.none):=by cases c;exact .none;exact h
theorem Wjn{st af:St}{t:TypeId}{x v:AVal}(h:WcU T st t x v=some af):∃pre,af.objs=pre++st.objs:=by
 unfold WcU at h;split at h
 .split at h
  .split at h
   .injection h with h;subst h;exact⟨[_],rfl⟩
   .cases h
  .cases h
 .split at h
  .split at h
   .split at h
    .injection h with h;subst h;exact⟨[_],rfl⟩
    .cases h
   .split at h
    .split at h
     .rename_i m _;split at h
      .injection h with h;subst h;obtain⟨pre,hp⟩:=WcM st.objs m;exact⟨_::pre,by simp only[hp];rfl⟩
      .cases h
     .cases h
    .cases h
  .cases h
 .cases h
theorem WnW(p:Option (Bool×AVal))(objs:Wab)(nx:Nat):Suf objs (match p with|some (c,v)=>bif c then WcP v objs nx else none|none=>none):=by
 rcases p with _|⟨c,v⟩
 .exact .none
 .exact Suf.bif (Suf.out (pre:=[]))
theorem WdQ(sg:Sig)(st:St)(xs:List AVal):Suf st.objs (Wft sg st xs WcP):=by
 unfold Wft;split
 .rename_i A _;split
  .intro x objs' nx h;rw[sg.law]at h;cases hr:sg.run A.d with
   |none=>rw[hr]at h;cases h
   |some out=>
    rw[hr]at h;simp only[Xc]at h;injection h with h;have h2:=congrArg (λp:Out=>p.2.1) h;simp only at h2;obtain⟨p1,e1⟩:=WcM st.objs A.moved;obtain⟨p2,e2⟩:=W9 sg.ps out.1 A.kept (kill st.objs A.moved) st.nx;obtain⟨p3,e3⟩:=Wak sg.rs out.2 (Wae sg.ps out.1 A.kept (kill st.objs A.moved) st.nx).1 (Wae sg.ps out.1 A.kept (kill st.objs A.moved) st.nx).2;refine⟨p3++(p2++p1),?_⟩;rw[←h2,e3,e2,e1];simp
  .exact .none
 .exact .none
theorem Suf.over{objs:Wab}{l:List Nat}{r:Option Out}(h:Suf (kill objs l) r):Suf objs r:=λx objs' nx hr=>by
 obtain⟨p1,e1⟩:=h x objs' nx hr;obtain⟨p2,e2⟩:=WcM objs l;exact⟨p1++p2,by rw[e1,e2];simp⟩
theorem Wnk(sg:Sig)(st:St)(xs:List AVal):Suf st.objs (Wmv sg st xs WcP):=by
 unfold Wmv;cases sg.fresh with
 |true=>exact WdQ _ _ _
 |false=>
  simp only[cond_false];split
  .split
   .exact WdQ _ _ _
   .exact Suf.over (WdQ sg {env:=st.env,objs:=kill st.objs _,nx:=st.nx} _)
  .exact .none
theorem WnN{objs:Wab}{x:AVal}{p:Nat×Ob}{l:List Nat}{nx:Nat}:Suf objs (WcP x (p::kill objs l) nx):=by
 obtain⟨pre,h⟩:=WcM objs l;rw[h];exact Suf.out (pre:=p::pre)
theorem Wjo(st:St)(te:Ty)(s x:AVal):Suf st.objs (Wep st te s x WcP):=by
 unfold Wep;split
 .split
  .split
   .split
    .exact Suf.bif WnN
    .exact .none
   .exact .none
  .exact .none
 .split
  .split
   .split
    .exact Suf.ite (Suf.bif WnN)
    .exact .none
   .exact .none
  .exact .none
 .exact .none
theorem Wjd(st:St)(e:Ty)(ps:List (Nat×AVal)):Suf st.objs (Wdh st e ps WcP):=by
 unfold Wdh;split
 .refine Suf.ite ?_;split
  .split
   .exact Suf.ite (Suf.over WnN)
   .exact .none
  .exact .none
 .exact .none
theorem Wku(st:St)(te:Ty)(id:Nat)(l h:Option Int):Suf st.objs (Wfr st te id l h WcP):=by
 unfold Wfr;split
 .exact Suf.ite (Suf.bif (Suf.out (pre:=[])))
 .exact .none
theorem WpO(o:Oper)(st:St):Suf st.objs (rxe T Γ A o st WcP):=by
 unfold rxe;split
 .split
  .exact Suf.ite (Suf.out (pre:=[_]))
  .exact Suf.ite (Suf.out (pre:=[_]))
  .exact .none
 .split
  .exact Suf.out (pre:=[_])
  .exact .none
 .split
  .split
   .split
    .exact Suf.out (pre:=[])
    .exact .none
   .exact .none
  .exact .none
 .split
  .split
   .split
    .exact Suf.ite (Wjd _ _ _)
    .split
     .exact Suf.ite (Suf.over (Suf.out (pre:=[_])))
     .exact .none
   .exact .none
  .exact .none
 .split
  .split
   .split
    .exact Suf.ite (Suf.bif (Suf.out (pre:=[_])))
    .exact Suf.ite (Suf.bif (Suf.out (pre:=[_])))
   .exact .none
  .exact .none
 .split
  .split
   .rename_i af hs;split
    .obtain⟨pre,h⟩:=Wjn hs;rw[h];exact Suf.over Suf.out
    .exact .none
   .exact .none
  .exact .none
 .split
  .split
   .split
    .split
     .exact Suf.ite (Wku _ _ _ _ _)
     .split
      .exact Suf.ite (Suf.bif (Suf.out (pre:=[_,_])))
      .exact Suf.ite (Suf.bif (Suf.out (pre:=[_,_,_])))
      .exact .none
    .exact .none
   .exact .none
  .exact WnW _ _ _
 .split
  .split
   .unfold WdG;split
    .split
     .split
      .cases Wtz st _ _ with
       |false=>exact Wjo _ _ _ _
       |true=>
       simp only[Xaa,cond_false];split
       .exact Suf.bif (Suf.out (pre:=[_]))
       .split
        .split
         .exact Suf.bif (Suf.out (pre:=[_,_]))
         .exact .none
        .exact .none
       .split
        .split
         .exact Suf.bif (Suf.out (pre:=[_,_]))
         .exact .none
        .exact .none
       .exact .none
      .exact .none
     .exact .none
    .exact .none
   .exact .none
  .split
   .split
    .split
     .exact Suf.ite (Suf.out (pre:=[_]))
     .exact .none
    .exact .none
   .exact .none
  .exact WnW _ _ _
  .split
   .split
    .exact Wnk _ _ _
    .exact .none
   .exact .none
  .exact .none
 .exact WnW _ _ _
end
end Go.Sx
namespace Go.Sx
set_option linter.unusedVariables false
set_option linter.unusedSimpArgs false
theorem WoS{x y:Nat}{l:List Nat}:y∈WwM x l↔y=x\/y∈l:=by
 unfold WwM;cases h:WbS x l with
 |true=>
  have:=(WaL x l).1 h;simp only[cond_true];exact⟨.inr,λh=>h.elim (λe=>e▸this) id⟩
 |false=>simp
theorem Wjp{y:Nat}:∀(m l:List Nat),y∈Wmn m l↔y∈m\/y∈l
 | [],l=>by simp[Wmn]
 |x::m,l=>by
  rw[Wmn,Wjp m,WoS,Xo];constructor
  .rintro(h|h|h)
   .exact .inl (.inr h)
   .exact .inl (.inl h)
   .exact .inr h
  .rintro((h|h)|h)
   .exact .inr (.inl h)
   .exact .inl h
   .exact .inr (.inr h)
theorem Wiu{acc:List (List Nat)}{y:Nat}:∀(ds l:List Nat),y∈Wkx acc ds l↔(∃j∈ds,y=j\/y∈acc.getD j [])\/y∈l
 | [],l=>by simp[Wkx]
 |j::ds,l=>by
  rw[Wkx,Wiu ds,Wjp,WoS];constructor
  .rintro(⟨k,hk,h⟩|h|h|h)
   .exact .inl ⟨k,Xf _ hk,h⟩
   .exact .inl ⟨j,Xi ..,.inr h⟩
   .exact .inl ⟨j,Xi ..,.inl h⟩
   .exact .inr h
  .rintro(⟨k,hk,h⟩|h)
   .rcases Xo.1 hk with rfl|hk
    .exact .inr (h.elim (λh=>.inr (.inl h)) .inl)
    .exact .inl ⟨k,hk,h⟩
   .exact .inr (.inr (.inr h))
def Wmd(ops:Array Oper)(S:Nat->Prop):Prop:=∀i o,ops[i]?=some o->S i->∀d∈Wmg o,S d
theorem WjC{ops:Array Oper}{S:Nat->Prop}(hS:Wmd ops S):∀(l:List Oper) (acc:List (List Nat)),(∀(k:Nat) (o:Oper),l[k]?=some o->ops[acc.length+k]?=some o)->
  (∀i,S i->∀j∈acc.getD i [],S j)->∀i,S i->∀j∈(Wes l acc).getD i [],S j
 | [],acc,_,h=>h
 |o::l,acc,hl,h=>by
  refine WjC hS l _ (λk o' hk=>?_) (λi hi j hj=>?_)
  .have:=hl (k+1) o' (by simpa using hk);rw[Xz];have e:acc.length+(k+1)=acc.length+ [Wkx acc (Wmg o) []].length+k:=by simp;omega
   rw[←e];exact this
  .rw[Xay,Xbc]at hj;split at hj
   .exact h i hi j (by rw[Xay];exact hj)
   .rename_i hlt;by_cases he:i=acc.length
    .subst he;simp only[Xde,Xds,Xdw]at hj;rcases(Wiu _ _).1 hj with⟨k,hk,dg⟩|hj
     .have hSk:=hS _ o (hl 0 o (by simp)) hi k hk;rcases dg with rfl|dg
      .exact hSk
      .exact h k hSk j dg
     .cases hj
    .have:[Wkx acc (Wmg o) []][i-acc.length]?=none:=Xbe (by simp;omega);rw[this]at hj;cases hj
theorem WqE{ops:Array Oper}{S:Nat->Prop}(hS:Wmd ops S){i j:Nat}(h:Wc1 (Wes ops.toList []) j i=true)(hi:S i):S j:=
 WjC hS ops.toList [] (λk o hk=>by simpa using hk) (λi _ j hj=>by simp at hj) i hi j ((WaL _ _).1 h)
theorem Wj9{ops:Array Oper}:∀(l:List Oper) (n:Nat),Wte l n=true->∀(k:Nat) (o:Oper),l[k]?=some o->∀d∈Wmg o,d<n+k
 | [],_,_,k,o,hk=>by simp at hk
 |o'::l,n,h,k,o,hk=>by
  simp only[Wte,Xh,Xae]at h;cases k with
  |zero=>
   simp at hk;subst hk;intro e he;have:=h.1 e he;rw[Xhe]at this;omega
  |succ k=>
   have:=Wj9 (ops:=ops) l (n+1) h.2 k o (by simpa using hk);intro e he;have:=this e he;omega
structure Order(ops:Array Oper)(l:List Nat):Prop where
 nodup:l.Nodup
 all:∀i,i<ops.size↔i∈l
 dep:∀p i s,l=p++i::s->∀o,ops[i]?=some o->∀d∈Wmg o,d∈p
theorem Order.closed{ops:Array Oper}{l:List Nat}(h:Order ops l){p s:List Nat}(e:l=p++s):Wmd ops (· ∈p):=λi o ho hi d hd=>by
 obtain⟨a,b,rfl⟩:=Xeg hi;have:=h.dep a i (b++s) (by rw[e];simp) o ho d hd;simp[this]
theorem Order.bef{ops:Array Oper}{l:List Nat}(h:Order ops l){p s:List Nat}{i j:Nat}(e:l=p++s)(hb:Wc1 (Wes ops.toList []) j i=true)(hi:i∈p):j∈p:=
 WqE (h.closed e) hb hi
theorem Order.bef'{ops:Array Oper}{l:List Nat}(h:Order ops l){p s:List Nat}{i j:Nat}(e:l=p++i::s)(hb:Wc1 (Wes ops.toList []) j i=true)(hne:j≠i):j∈p:=by
 have:=h.bef (p:=p++ [i]) (s:=s) (by rw[e];simp) hb (by simp);rcases Xn.1 this with h|h
 .exact h
 .simp at h;exact absurd h hne
def unl(ops:Array Oper)(listed:Array Bool):List Nat:=(Xdk ops.size).filter λi=>!listed.getD i true
theorem WfC{ops:Array Oper}{listed:Array Bool}{i:Nat}:i∈unl ops listed↔i<ops.size/\listed.getD i true=false:=by
 unfold unl;rw[Xau,Xek];simp
theorem Wf1{α:Type}{p q:α->Bool}:∀(l:List α),(∀x∈l,q x=true->p x=true)->(∃x∈l,p x=true/\q x=false)->(l.filter q).length<(l.filter p).length
 | [],_,⟨x,hx,_⟩=>by cases hx
 |x::l,h,⟨y,hy,hp,hq⟩=>by
  have hle:∀(l:List α),(∀x∈l,q x=true->p x=true)->(l.filter q).length<=(l.filter p).length:=by
   intro l
   induction l with
   |nil=>intro _;simp
   |cons x l ih=>
    intro h;have:=ih λx hx=>h x (Xf _ hx);have hx:=h x (Xi ..);rw[Xbl,Xbl];cases hqx:q x with
    |true=>rw[hx hqx];simpa using this
    |false=>cases p x<;>simp<;>omega
  rw[Xbl,Xbl];rcases Xo.1 hy with rfl|hy
  .rw[hp,hq];have:=hle l λx hx=>h x (Xf _ hx);simp;omega
  .have:=Wf1 l (λx hx=>h x (Xf _ hx)) ⟨y,hy,hp,hq⟩;have hx:=h x (Xi ..);cases hqx:q x with
   |true=>rw[hx hqx];simpa using this
   |false=>cases p x<;>simp<;>omega
theorem Wk3{listed:Array Bool}{i j:Nat}:(listed.setIfInBounds i true).getD j true=(if i=j then true else listed.getD j true):=by
 simp only[Xcr,Xfg];split
 .split<;>rfl
 .rfl
theorem WrH{listed:Array Bool}{i j:Nat}(hi:i<listed.size):(listed.setIfInBounds i true).getD j false=(if i=j then true else listed.getD j false):=by
 simp only[Xcr,Xfg];split
 .simp[hi]
 .rfl
theorem WvZ{listed:Array Bool}{i:Nat}(hi:i<listed.size):listed.getD i true=listed.getD i false:=by
 simp[hi]
theorem Wpr{o:Oper}{e:Edge}(he:e∈o.after)(hb:Region.binds .any e=true):e.on∈Wmg o:=
 Xu.2 ⟨e,Xau.2 ⟨by simpa using he,hb⟩,rfl⟩
theorem WoQ{ops:Array Oper}(hb:∀(k:Nat) (o:Oper),ops[k]?=some o->∀d∈Wmg o,d<k):∀(fuel t:Nat) (listed:Array Bool),listed.size=ops.size->(unl ops listed).length<=fuel->
  (Region.linearise.go .any ops fuel t listed []).Nodup/\
  (∀i,i∈Region.linearise.go .any ops fuel t listed []↔i∈unl ops listed)/\
  (∀p i s,Region.linearise.go .any ops fuel t listed []=p++i::s->∀o,ops[i]?=some o->∀e∈o.after,Region.binds .any e=true->listed.getD e.on false=true\/e.on∈p)
 |0,t,listed,hs,hlen=>by
  have:unl ops listed= []:=Xy (by omega);simp only[Region.linearise.go,List.reverse_nil,this];exact⟨by simp,by simp,λp i s h=>by simp at h⟩
 |fuel+1,t,listed,hs,hlen=>by
  have ny:Region.linearise.go .any ops (fuel+1) t listed []=match(Region.ready .any ops listed)[t%(Region.ready .any ops listed).length]? with
   |some i=>Region.linearise.go .any ops fuel (t/(Region.ready .any ops listed).length) (listed.setIfInBounds i true) [i]
   |none=>[]:=rfl
  rw[ny];cases hi:(Region.ready .any ops listed)[t%(Region.ready .any ops listed).length]? with
  |none=>
   have bz:Region.ready .any ops listed= []:=by
    cases hr:Region.ready .any ops listed with
    |nil=>rfl
    |cons x xs=>
     rw[hr]at hi;have hlt:t%(x::xs).length<(x::xs).length:=Nat.mod_lt _ (by simp);simp at hi;simp at hlt;omega
   have hu:unl ops listed= []:=by
    have key:∀n i,i<=n->i∉unl ops listed:=by
     intro n
     induction n with
     |zero=>
      intro i gN hm;obtain⟨h1,h2⟩:=WfC.1 hm;have:i∈Region.ready .any ops listed:=by
       rw[mem_ready];refine⟨h2,ops[i],Xdj h1,λe he lB=>?_⟩;have:=hb i _ (Xdj h1) e.on (Wpr he lB);omega
      rw[bz]at this;cases this
     |succ n ih=>
      intro i gN hm;obtain⟨h1,h2⟩:=WfC.1 hm;have:i∈Region.ready .any ops listed:=by
       rw[mem_ready];refine⟨h2,ops[i],Xdj h1,λe he lB=>?_⟩;have hlt:=hb i _ (Xdj h1) e.on (Wpr he lB);have eU:=ih e.on (by omega);have h3:e.on<ops.size:=by omega
       cases h4:listed.getD e.on true with
       |false=>exact absurd (WfC.2 ⟨h3,h4⟩) eU
       |true=>rw[←WvZ (by omega)];exact h4
      rw[bz]at this;cases this
    exact Xey.2 λi=>key i i (Xm _)
   rw[hu];exact⟨Xdm,λ_=>Iff.rfl,λp i s h=>by simp at h⟩
  |some i=>
   have yn:=Xaw hi;obtain⟨h1,o,ho,h3⟩:=mem_ready.1 yn;have q8:i<ops.size:=(Xdi.1 ho).1;have yo:i∈unl ops listed:=WfC.2 ⟨q8,h1⟩;simp only[];rw[linearise_go_acc,List.reverse_singleton,List.singleton_append];have iz:(unl ops (listed.setIfInBounds i true)).length<=fuel:=by
    have:(unl ops (listed.setIfInBounds i true)).length<(unl ops listed).length:=by
     refine Wf1 _ (λx _ hx=>?_) ⟨i,Xek.2 q8,by simpa using h1,by rw[Wk3];simp⟩;rw[Wk3]at hx;split at hx
     .simp at hx
     .exact hx
    omega
   obtain⟨g1,g2,g3⟩:=WoQ hb fuel (t/(Region.ready .any ops listed).length) (listed.setIfInBounds i true) (by simp[hs]) iz;have hmem:∀j,j∈unl ops (listed.setIfInBounds i true)↔j∈unl ops listed/\j≠i:=λj=>by
    rw[WfC,WfC,Wk3];constructor
    .rintro⟨q1,q2⟩;split at q2
     .cases q2
     .rename_i hne;exact⟨⟨q1,q2⟩,λe=>hne e.symm⟩
    .rintro⟨⟨q1,q2⟩,hne⟩;exact⟨q1,by rw[if_neg (λe=>hne e.symm)];exact q2⟩
   refine⟨Xaj.2 ⟨λhm=>?_,g1⟩,λj=>?_,λp j s e o' gl ed pO lB=>?_⟩
   .exact((hmem i).1 ((g2 i).1 hm)).2 rfl
   .rw[Xo,g2,hmem];constructor
    .rintro(rfl|h)
     .exact yo
     .exact h.1
    .intro h;by_cases he:j=i
     .exact .inl he
     .exact .inr ⟨h,he⟩
   .cases p with
    |nil=>
     simp only[Xcb,List.cons.injEq]at e;obtain⟨rfl,_⟩:=e;rw[ho]at gl;injection gl with gl;subst gl;exact .inl (h3 ed pO lB)
    |cons x p=>
     simp only[Xbj,List.cons.injEq]at e;obtain⟨rfl,e⟩:=e;rcases g3 p j s e o' gl ed pO lB with h|h
     .rw[WrH (by omega)]at h;split at h
      .rename_i he;exact .inr (by rw[he];simp)
      .exact .inl h
     .exact .inr (Xf _ h)
theorem Wh4{ops:Array Oper}{t:Nat}(hb:∀(k:Nat) (o:Oper),ops[k]?=some o->∀d∈Wmg o,d<k):Order ops (Region.linearise .any ops t):=by
 have hu:∀i,i∈unl ops (Xed ops.size false)↔i<ops.size:=λi=>by
  rw[WfC];constructor
  .exactλh=>h.1
  .exactλh=>⟨h,by simp[h]⟩
 obtain⟨h1,h2,h3⟩:=WoQ hb ops.size t (Xed ops.size false) (by simp) (by
  have:=Xeu (λi=>!(Xed ops.size false).getD i true) (Xdk ops.size);rw[Xfp]at this;exact this)
 refine⟨h1,λi=>by unfold Region.linearise;rw[h2,hu],λp i s e o ho d hd=>?_⟩;unfold Wmg at hd;obtain⟨ed,pO,rfl⟩:=Xu.1 hd;obtain⟨pO,lB⟩:=Xau.1 pO;rcases h3 p i s e o ho ed (by simpa using pO) lB with h|h
 .exfalso;rw[Xcr,Array.getElem?_replicate]at h;split at h<;>simp at h
 .exact h
theorem Wjf{ops:Array Oper}{t:Nat}(hb:∀(k:Nat) (o:Oper),ops[k]?=some o->∀d∈Wmg o,d<k):Order ops (Region.schedule true ops t):=by
 unfold Region.schedule;rw[if_pos (by simp)];exact Wh4 hb
end Go.Sx
namespace Go.Sx
set_option linter.unusedVariables false
set_option linter.unusedSimpArgs false
def WrT(n:Nat)(kept:List Nat)(o:Oper):Bool:=match o.dst with
 |some d=>Nat.blt d n&& !WbS d kept
 |none=>true
def Wdn(n:Nat)(kept:List Nat):Code->Bool
 | .region _ ops _=>ops.toList.all (WrT n kept)
 | .seq a b=>Wdn n kept a&&Wdn n kept b
 | .cond _ x y=>Wdn n kept x&&Wdn n kept y
 | .block _ c=>Wdn n kept c
 | .loop c=>Wdn n kept c
 |_=>true
theorem Wnn{nt:Slots}{n:Nat}{kept:List Nat}(hn:nt.n=n)(hk:∀p∈nt.kept,p.1∈kept){o:Oper}(h:WrT n kept o=true):∀d,o.dst=some d->nt.Ok d:=λd hd=>by
 unfold WrT at h;rw[hd]at h;simp only[Xh,Xao]at h;refine⟨by have h1:=h.1;rw[Xhe]at h1;rw[hn];exact h1,λp hp e=>?_⟩;have:=hk p hp;rw[e]at this;rw[(WaL d kept).2 this]at h;exact absurd h.2 (by simp)
def Ex.to:Ex->Exit
 | .normal=>.normal
 | .exit id=>.exit id
 | .ret=>.ret
section
variable{w0:World}{F:CS}{nt:Slots}{G0:GH}{P:Program}{T:Tab}{Γ:Ctx}{A:List (Nat×An)}{R:Type}{r:R}
def WqV(w0:World)(F:CS)(nt:Slots)(G0:GH)(k:St->Option R)(r:R)(K:Act->World->Prop):Prop:=
 ∀st a w G ν,Rel w0 F nt G0 G ν st a w->k st=some r->K a w
theorem WnS{G:GH}{ν:Nat->Nu}{st:St}{a:Act}{w:World}(hr:Rel w0 F nt G0 G ν st a w){ops:Array Oper}{j:Nat}{t:Tmp}(ht:(ops[j]?).bind (·.dst)=some t){b:Bool}(hb:(look st.env t).bind asB=some b):
  a.tmps[t]?=some (.bool b)/\yielded ops a.tmps j=some b:=by
 cases hl:look st.env t with
 |none=>simp[hl]at hb
 |some x=>
  simp only[hl,Xc]at hb;obtain⟨v,hv,hx⟩:=hr.env t x hl;have:=WnK x v b hx hb;subst this;refine⟨hv,?_⟩;unfold yielded;rw[ht];simp[hv]
theorem WuR(hT:Wai P T)(hΓ:Wfe P Γ){ops:Array Oper}{o:Oper}(hd:∀d,o.dst=some d->nt.Ok d){k:St->Option R}{K:Act->World->Prop}{Q:Exit->Act->World->Prop}(hK:WqV w0 F nt G0 k r K)
  {st:St} {a:Act} {w:World} {G:GH} {ν:Nat->Nu} (hr:Rel w0 F nt G0 G ν st a w) (h:rxg T Γ A ops o st k=some r):
  if Region.wanted o (yielded ops a.tmps)then o.wp P a w K Q else K (a.put o.dst undef) w:=by
 unfold rxg at h;have gO:∀af,Rel w0 F nt G0 G ν af a w->Rel w0 F nt G0 G ν (af.put o.dst (.tup [])) (a.put o.dst undef) w:=λaf bL=>
  bL.put hd ⟨[],rfl,rfl,λj x v hj=>by simp at hj⟩
 have dX:∀b:Bool,AValRel G ν st.nx (one .bool b) (.bool b):=λb=>WJ (t:=.bool) (d:=b) (v:=.bool b) rfl;split at h
 .rename_i hg;simp only[Region.wanted,hg,if_true];exact WqP hT hΓ hr hd h (λaf a' w' G' ν' bL hk=>hK _ _ _ _ _ bL hk)
 .rename_i j want hg;split at h
  .rename_i t ht;split at h
   .rename_i hl;obtain⟨v,hv,hx⟩:=hr.env t _ hl;have gr:v=undef:=by
     obtain⟨vs,h1,h2,_⟩:=hx;rw[h1,Xy h2];rfl
    subst gr;have hy:yielded ops a.tmps j=none:=by
     unfold yielded;rw[ht];simp only[Xc,hv];rfl
    simp only[Region.wanted,hg,hy];rw[if_neg (by simp)];exact hK _ _ _ _ _ (gO _ hr) h
   .rename_i x _ hl;split at h
    .rename_i b hb;obtain⟨hv,hy⟩:=WnS hr ht (b:=b) (by rw[hl];exact hb);simp only[Region.wanted,hg,hy];have mx:=hr.rebind hv (dX b);cases b with
     |true=>
      simp only[cond_true]at h;cases want with
      |true=>
       simp only[if_true]at h;simp only[beq_self_eq_true,if_true];exact WqP hT hΓ mx hd h (λaf a' w' G' ν' bL hk=>hK _ _ _ _ _ bL hk)
      |false=>
       simp only[Xam,if_false]at h;rw[if_neg (by simp)];exact hK _ _ _ _ _ (gO _ mx) h
     |false=>
      simp only[cond_false]at h;cases want with
      |true=>
       simp only[if_true]at h;rw[if_neg (by simp)];exact hK _ _ _ _ _ (gO _ mx) h
      |false=>
       simp only[Xam,if_false]at h;simp only[beq_self_eq_true,if_true];exact WqP hT hΓ mx hd h (λaf a' w' G' ν' bL hk=>hK _ _ _ _ _ bL hk)
    .cases h
   .cases h
  .cases h
theorem WuA(hT:Wai P T)(hΓ:Wfe P Γ){ops:Array Oper}:∀(l:List Oper),(∀o∈l,∀d,o.dst=some d->nt.Ok d)->∀{k:St->Option R} {Q:Exit->Act->World->Prop},WqV w0 F nt G0 k r (Q .normal)->
  WqV w0 F nt G0 (λst=>rxs T Γ A ops l st k) r (wpList P ops Q l)
 | [],_,k,Q,hK=>λst a w G ν hr h=>hK st a w G ν hr h
 |o::l,hd,k,Q,hK=>λst a w G ν hr h=>by
  have ih:=WuA (ops:=ops) hT hΓ l (λo ho=>hd o (Xf _ ho)) hK;have h:rxg T Γ A ops o st (λaf=>match opG A o af with
   |some (c,bZ)=>bif c then rxs T Γ A ops l bZ k else none
   |none=>none)=some r:=h
  have yp:WqV w0 F nt G0 (λaf=>match opG A o af with
   |some (c,bZ)=>bif c then rxs T Γ A ops l bZ k else none
   |none=>none) r (wpList P ops Q l):=λdt a1 w1 G1 ν1 lC h1=>by
   have h1:(match opG A o dt with
    |some (c,bZ)=>bif c then rxs T Γ A ops l bZ k else none
    |none=>none)=some r:=h1
   split at h1
   .rename_i c aj hg;obtain⟨rfl,h1⟩:=WaJ h1;have:∃G' ν',Rel w0 F nt G0 G' ν' aj a1 w1:=by
     unfold opG at hg;split at hg
     .split at hg
      .injection hg with hg;injection hg with _ hg;subst hg;exact⟨G1,ν1,lC⟩
      .exact WmT lC hg
     .injection hg with hg;injection hg with _ hg;subst hg;exact⟨G1,ν1,lC⟩
     .injection hg with hg;injection hg with _ hg;subst hg;exact⟨G1,ν1,lC⟩
     .injection hg with hg;injection hg with _ hg;subst hg;exact⟨G1,ν1,lC⟩
     .injection hg with hg;injection hg with _ hg;subst hg;exact⟨G1,ν1,lC⟩
    obtain⟨G2,ν2,gP⟩:=this;exact ih aj a1 w1 G2 ν2 gP h1
   .cases h1
  have:=WuR hT hΓ (hd o (Xi ..)) (Q:=Q) yp hr h;unfold wpList;split
  .rename_i hw;rw[if_pos hw]at this;exact .inl this
  .rename_i hw;rw[if_neg hw]at this;exact this
end
end Go.Sx
namespace Go.Sx
set_option linter.unusedVariables false
set_option linter.unusedSimpArgs false
section
variable{T:Tab}{Γ:Ctx}{A:List (Nat×An)}{ops:Array Oper}
theorem WkJ{R:Type}(o:Oper)(st:St)(k:St->Option R):rx1 T Γ A o st k=(rx1 T Γ A o st some).bind k:=by
 unfold rx1;rw[Wf0,Wf0 o st (λx objs nx=>some _),Xgt];rfl
theorem Wt2{R:Type}(o:Oper)(st:St)(k:St->Option R):rxg T Γ A ops o st k=(rxg T Γ A ops o st some).bind k:=by
 unfold rxg;cases o.guard with
 |none=>exact WkJ o st k
 |some g=>
  obtain⟨j,want⟩:=g;simp only;cases(ops[j]?).bind (·.dst)with
  |none=>rfl
  |some t=>
   simp only;cases look st.env t with
   |none=>rfl
   |some x=>
    have main:(match asB x with
      |some b=>bif b
       then(if want then rx1 T Γ A o (st.put (some t) (one .bool true)) k else k ((st.put (some t) (one .bool true)).put o.dst (.tup [])))
       else(if want then k ((st.put (some t) (one .bool false)).put o.dst (.tup []))else rx1 T Γ A o (st.put (some t) (one .bool false)) k)
      |none=>none)=(match asB x with
      |some b=>bif b
       then(if want then rx1 T Γ A o (st.put (some t) (one .bool true)) some else some ((st.put (some t) (one .bool true)).put o.dst (.tup [])))
       else(if want then some ((st.put (some t) (one .bool false)).put o.dst (.tup []))else rx1 T Γ A o (st.put (some t) (one .bool false)) some)
      |none=>none).bind k:=by
     cases asB x with
     |none=>rfl
     |some b=>
      cases b<;>cases want
      .exact WkJ _ _ _
      .rfl
      .rfl
      .exact WkJ _ _ _
    cases x with
    |s y=>exact main
    |tup l=>
     cases l with
     |nil=>rfl
     |cons y l=>exact main
theorem WoM{R:Type}{o:Oper}{st:St}{k:St->Option R}{r:R}(h:rxg T Γ A ops o st k=some r):∃af,rxg T Γ A ops o st some=some af/\k af=some r:=by
 rw[Wt2]at h;exact Xbz.1 h
structure Eff(o:Oper)(v:AVal)(pre:Wab)(ah:Nat)(st af:St):Prop where
 env:∀t,look af.env t=if o.dst=some t then some v else look st.env t
 objs:af.objs=pre++st.objs
 nx:af.nx=ah
theorem Wc6(st:St)(dst:Option Tmp)(x:AVal)(t:Nat):look (st.put dst x).env t=if dst=some t then some x else look st.env t:=by
 cases dst with
 |none=>simp[St.put]
 |some d=>
  simp only[St.put];rw[Wx];by_cases h:d=t
  .subst h;simp
  .rw[if_neg h,if_neg (by simpa using h)]
theorem We9{st aj:St}{x:Operand}(h:∀t∈Wsf x,look aj.env t=look st.env t):ev aj x=ev st x:=by
 cases x with
 |tmp t=>exact h t (by simp[Wsf])
 |_=>rfl
theorem Wg8{st:St}{x:Operand}{v:AVal}:∀(l:List Operand),x∈l->ev st x=some v->∀id∈WaX v,id∈Wen st l
 | [],h,_,_,_=>by cases h
 |y::l,h,hv,id,bv=>by
  simp only[Wen];rcases Xo.1 h with rfl|h
  .rw[hv];exact Xk _ bv
  .split
   .exact Xg _ (Wg8 l h hv id bv)
   .exact Wg8 l h hv id bv
theorem Wgn{st aj:St}:∀(l:List Operand),(∀x∈l,ev aj x=ev st x)->Wen aj l=Wen st l
 | [],_=>rfl
 |x::l,h=>by simp only[Wen,h x (Xi ..),Wgn l λy hy=>h y (Xf _ hy)]
theorem WrL{o:Oper}{st af aj:St}(h:rx1 T Γ A o st some=some af)(he:∀x∈Wac o.op,ev aj x=ev st x)
  (hm:WaM o=true->aj.objs=st.objs/\aj.nx=st.nx) (hf:WaM o=false->∀id∈WcI o st,look aj.objs id=look st.objs id):
  ∃v pre ah,Eff o v pre ah st af/\(WaM o=false->pre= []/\ah=st.nx)/\
   ∃bH,rx1 T Γ A o aj some=some bH/\(WaM o=true->Eff o v pre ah aj bH)/\(WaM o=false->Eff o v [] aj.nx aj bH):=by
 unfold rx1 at*;rw[Wf0]at h;obtain⟨⟨v,objs',ah⟩,h1,h2⟩:=Xbz.1 h;injection h2 with h2;subst h2;cases dN:WaM o with
 |true=>
  obtain⟨e1,e2⟩:=hm dN;obtain⟨pre,rfl⟩:=WpO o st v objs' ah h1;refine⟨v,pre,ah,⟨λt=>Wc6 _ _ _ _,by cases o.dst<;>rfl,by cases o.dst<;>rfl⟩,by simp,?_⟩;have h3:rxe T Γ A o aj WcP=some (v,pre++st.objs,ah):=by
   obtain⟨uk,wn,nx2⟩:=aj;simp only at e1 e2;subst e1 e2;rw[Wra o (env:=uk) (st:=st) WcP he];exact h1
  refine⟨_,?_,λ_=>⟨λt=>Wc6 (⟨aj.env,pre++st.objs,ah⟩) o.dst v t,?_,?_⟩,by simp⟩
  .rw[Wf0,h3];rfl
  .rw[e1];cases o.dst<;>rfl
  .cases o.dst<;>rfl
 |false=>
  rw[Wl9 dN]at h1;obtain⟨u,h3,h4⟩:=Xbz.1 h1;injection h4 with h4;have e1:u=v:=congrArg (λp:Out=>p.1) h4;have e2:st.objs=objs':=congrArg (λp:Out=>p.2.1) h4;have e3:st.nx=ah:=congrArg (λp:Out=>p.2.2) h4;subst e1 e2 e3;refine⟨u,[],st.nx,⟨λt=>Wc6 _ _ _ _,by cases o.dst<;>rfl,by cases o.dst<;>rfl⟩,by simp,?_⟩;have h5:WuT T o aj=some u:=by
   rw[←h3];refine WpI dN he λyq x hx v hv id bv=>hf dN id ?_;unfold WcI;rw[yq];exact Wg8 _ hx hv id bv
  refine⟨_,?_,by simp,λ_=>⟨λt=>Wc6 (⟨aj.env,aj.objs,aj.nx⟩) o.dst u t,?_,?_⟩⟩
  .rw[Wf0,Wl9 dN,h5];rfl
  .cases o.dst<;>rfl
  .cases o.dst<;>rfl
theorem WvM{x:AVal}{b:Bool}(h:asB x=some b):x=one .bool b:=by
 unfold asB at h;split at h
 .injection h with h;subst h;rfl
 .cases h
theorem WdB{st:St}{t:Nat}{x:AVal}(h:look st.env t=some x)(t':Nat):look (st.put (some t) x).env t'=look st.env t':=by
 rw[Wc6];split
 .rename_i e;injection e with e;subst e;exact h.symm
 .rfl
theorem WdY(st:St)(d:Option Tmp)(x:AVal):(st.put d x).objs=st.objs:=by cases d<;>rfl
theorem Wh9(st:St)(d:Option Tmp)(x:AVal):(st.put d x).nx=st.nx:=by cases d<;>rfl
theorem Wgr{o:Oper}{st aj:St}(h:∀x∈Wac o.op,ev aj x=ev st x):WcI o aj=WcI o st:=by
 unfold WcI;rw[Wgn _ h]
theorem WrR{o:Oper}{st af aj:St}(h:rxg T Γ A ops o st some=some af)(he:∀t∈Wdg ops o,look aj.env t=look st.env t)
  (hm:WaM o=true->aj.objs=st.objs/\aj.nx=st.nx) (hf:WaM o=false->∀id∈WcI o st,look aj.objs id=look st.objs id):
  ∃v pre ah,Eff o v pre ah st af/\(WaM o=false->pre= []/\ah=st.nx)/\
   ∃bH,rxg T Γ A ops o aj some=some bH/\(WaM o=true->Eff o v pre ah aj bH)/\(WaM o=false->Eff o v [] aj.nx aj bH):=by
 have wo:∀x∈Wac o.op,ev aj x=ev st x:=λx hx=>We9 λt ht=>he t (by
  unfold Wdg;exact Xk _ (Xfy.2 ⟨x,hx,ht⟩))
 unfold rxg at h⊢;cases hg:o.guard with
 |none=>
  rw[hg]at h;exact WrL h wo hm hf
 |some g=>
  obtain⟨j,want⟩:=g;rw[hg]at h;simp only at h⊢;cases ht:(ops[j]?).bind (·.dst)with
  |none=>rw[ht]at h;cases h
  |some t=>
   rw[ht]at h;simp only at h⊢;have iB:look aj.env t=look st.env t:=he t (by
    unfold Wdg;refine Xg _ ?_;rw[hg];simp only;rw[ht];simp)
   rw[iB];cases hx:look st.env t with
   |none=>rw[hx]at h;cases h
   |some x=>
    rw[hx]at h;have skip:∀(s s2:St) (s':St),some (s.put o.dst (.tup []))=some s'->(∀t,look s.env t=look st.env t)->s.objs=st.objs->s.nx=st.nx->(∀t,look s2.env t=look aj.env t)->s2.objs=aj.objs->s2.nx=aj.nx->
      ∃v pre ah,Eff o v pre ah st s'/\(WaM o=false->pre= []/\ah=st.nx)/\
       ∃bH,some (s2.put o.dst (.tup []))=some bH/\(WaM o=true->Eff o v pre ah aj bH)/\(WaM o=false->Eff o v [] aj.nx aj bH):=by
     intro s s2 s' hs a1 a2 a3 b1 b2 b3;injection hs with hs;subst hs;refine⟨.tup [],[],st.nx,⟨λt=>?_,by rw[WdY,a2];rfl,by rw[Wh9,a3]⟩,λ_=>⟨rfl,rfl⟩,_,rfl,λdN=>⟨λt=>?_,by rw[WdY,b2];rfl,by rw[Wh9,b3];exact(hm dN).2⟩,λ_=>⟨λt=>?_,by rw[WdY,b2];rfl,by rw[Wh9,b3]⟩⟩
     .rw[Wc6,a1]
     .rw[Wc6,b1]
     .rw[Wc6,b1]
    have doit:∀b:Bool,x=one .bool b->rx1 T Γ A o (st.put (some t) (one .bool b)) some=some af->
      ∃v pre ah,Eff o v pre ah st af/\(WaM o=false->pre= []/\ah=st.nx)/\
       ∃bH,rx1 T Γ A o (aj.put (some t) (one .bool b)) some=some bH/\(WaM o=true->Eff o v pre ah aj bH)/\(WaM o=false->Eff o v [] aj.nx aj bH):=by
     intro b hb h1;subst hb;have l1:=WdB hx;have l2:=WdB (st:=aj) (t:=t) (x:=one .bool b) (by rw[iB];exact hx);have q9:∀x∈Wac o.op,ev (st.put (some t) (one .bool b)) x=ev st x:=λx hx=>We9 λt' _=>l1 t';have um:∀x∈Wac o.op,ev (aj.put (some t) (one .bool b)) x=ev aj x:=λx hx=>We9 λt' _=>l2 t';obtain⟨v,pre,ah,e1,e2,bH,e3,e4,e5⟩:=WrL (aj:=aj.put (some t) (one .bool b)) h1 (λx hx=>by rw[um x hx,q9 x hx,wo x hx])
      (λdN=>hm dN) (λfO id bv=>hf fO id (by rw[←Wgr q9];exact bv))
     refine⟨v,pre,ah,⟨λt'=>by rw[e1.env,l1],e1.objs,e1.nx⟩,e2,bH,e3,λdN=>⟨λt'=>by rw[(e4 dN).env,l2],(e4 dN).objs,(e4 dN).nx⟩,λdN=>⟨λt'=>by rw[(e5 dN).env,l2],(e5 dN).objs,(e5 dN).nx⟩⟩
    have main:(match asB x with
      |some b=>bif b
       then(if want then rx1 T Γ A o (st.put (some t) (one .bool true)) some else some ((st.put (some t) (one .bool true)).put o.dst (.tup [])))
       else(if want then some ((st.put (some t) (one .bool false)).put o.dst (.tup []))else rx1 T Γ A o (st.put (some t) (one .bool false)) some)
      |none=>none)=some af->∃v pre ah,Eff o v pre ah st af/\(WaM o=false->pre= []/\ah=st.nx)/\
       ∃bH,(match asB x with
      |some b=>bif b
       then(if want then rx1 T Γ A o (aj.put (some t) (one .bool true)) some else some ((aj.put (some t) (one .bool true)).put o.dst (.tup [])))
       else(if want then some ((aj.put (some t) (one .bool false)).put o.dst (.tup []))else rx1 T Γ A o (aj.put (some t) (one .bool false)) some)
      |none=>none)=some bH/\(WaM o=true->Eff o v pre ah aj bH)/\(WaM o=false->Eff o v [] aj.nx aj bH):=by
     intro h;cases hb:asB x with
     |none=>rw[hb]at h;cases h
     |some b=>
      rw[hb]at h;have dX:=WvM hb;have r1:∀b',b'=b->∀t',look (st.put (some t) (one .bool b')).env t'=look st.env t':=λb' e=>by subst e;exact WdB (by rw[hx,dX])
      have r2:∀b',b'=b->∀t',look (aj.put (some t) (one .bool b')).env t'=look aj.env t':=λb' e=>by subst e;exact WdB (by rw[iB,hx,dX])
      cases b<;>cases want
      .exact doit false dX h
      .exact skip _ _ _ h (r1 _ rfl) (WdY _ _ _) (Wh9 _ _ _) (r2 _ rfl) (WdY _ _ _) (Wh9 _ _ _)
      .exact skip _ _ _ h (r1 _ rfl) (WdY _ _ _) (Wh9 _ _ _) (r2 _ rfl) (WdY _ _ _) (Wh9 _ _ _)
      .exact doit true dX h
    cases x with
    |s y=>exact main h
    |tup l=>
     cases l with
     |nil=>exact skip st aj af h (λ_=>rfl) rfl rfl (λ_=>rfl) rfl rfl
     |cons y l=>exact main h
end
end Go.Sx
namespace Go.Sx
set_option linter.unusedVariables false
set_option linter.unusedSimpArgs false
structure Rc where
 i:Nat
 v:AVal
 pre:Wab
 nx:Nat
 ids:List Nat
 mv:Bool
section
variable{T:Tab}{Γ:Ctx}{A:List (Nat×An)}{ops:Array Oper}
structure StepTo(T:Tab)(Γ:Ctx)(A:List (Nat×An))(ops:Array Oper)(ρ:Rc)(o:Oper)(st af:St):Prop where
 at_:ops[ρ.i]?=some o
 isM:ρ.mv=WaM o
 lk:ρ.mv=false->ρ.ids=WcI o st
 run:rxg T Γ A ops o st some=some af
 env:∀t,look af.env t=if o.dst=some t then some ρ.v else look st.env t
 objs:af.objs=if ρ.mv then ρ.pre++st.objs else st.objs
 nx:af.nx=if ρ.mv then ρ.nx else st.nx
def WvE(T:Tab)(Γ:Ctx)(A:List (Nat×An))(ops:Array Oper):List Rc->St->St->Prop
 | [],st,af=>st=af
 |ρ::l,st,af=>∃o dt,StepTo T Γ A ops ρ o st dt/\WvE T Γ A ops l dt af
theorem Wsi{i:Nat}{o:Oper}{st af:St}(hi:ops[i]?=some o)(h:rxg T Γ A ops o st some=some af):
  ∃ρ:Rc,ρ.i=i/\StepTo T Γ A ops ρ o st af:=by
 obtain⟨v,pre,ah,e1,e2,_⟩:=WrR (aj:=st) h (λ_ _=>rfl) (λ_=>⟨rfl,rfl⟩) (λ_ _ _=>rfl);refine⟨⟨i,v,pre,ah,WcI o st,WaM o⟩,rfl,hi,rfl,λ_=>rfl,h,e1.env,?_,?_⟩
 .simp only;cases hm:WaM o with
  |true=>simpa using e1.objs
  |false=>rw[e1.objs,(e2 hm).1];rfl
 .simp only;cases hm:WaM o with
  |true=>simpa using e1.nx
  |false=>rw[e1.nx,(e2 hm).2];rfl
theorem StepTo.move{ρ:Rc}{o:Oper}{st af aj:St}(h:StepTo T Γ A ops ρ o st af)(he:∀t∈Wdg ops o,look aj.env t=look st.env t)
  (hm:ρ.mv=true->aj.objs=st.objs/\aj.nx=st.nx) (hf:ρ.mv=false->∀id∈ρ.ids,look aj.objs id=look st.objs id):
  ∃bH,StepTo T Γ A ops ρ o aj bH:=by
 obtain⟨v,pre,ah,e1,e2,bH,e3,e4,e5⟩:=WrR (aj:=aj) h.run he (λdN=>hm (by rw[h.isM];exact dN)) (λfO id bv=>hf (by rw[h.isM];exact fO) id (by rw[h.lk (by rw[h.isM];exact fO)];exact bv));have hv:∀t,o.dst=some t->v=ρ.v:=λt ht=>by
  have a:=e1.env t;have b:=h.env t;rw[if_pos ht]at a b;rw[a]at b;injection b
 have tJ:ρ.mv=false->WcI o aj=WcI o st:=λ_=>Wgr λx hx=>We9 λt ht=>he t (by
  unfold Wdg;exact Xk _ (Xfy.2 ⟨x,hx,ht⟩))
 cases dN:WaM o with
 |true=>
  have hρ:ρ.mv=true:=by rw[h.isM];exact dN
  have e4:=e4 dN;obtain⟨q1,q2⟩:=hm hρ;refine⟨bH,h.at_,h.isM,λhf=>(by rw[hρ]at hf;cases hf),e3,λt=>?_,?_,?_⟩
  .rw[e4.env];split
   .rename_i ht;rw[hv t ht]
   .rfl
  .rw[e4.objs,hρ];simp only[if_true];have a:=e1.objs;have b:=h.objs;rw[hρ]at b;simp only[if_true]at b;rw[a]at b;rw[List.append_cancel_right b]
  .rw[e4.nx,hρ];simp only[if_true];have a:=e1.nx;have b:=h.nx;rw[hρ]at b;simp only[if_true]at b;rw[←a,b]
 |false=>
  have hρ:ρ.mv=false:=by rw[h.isM];exact dN
  have e5:=e5 dN;refine⟨bH,h.at_,h.isM,λhf=>by rw[tJ hρ];exact h.lk hρ,e3,λt=>?_,?_,?_⟩
  .rw[e5.env];split
   .rename_i ht;rw[hv t ht]
   .rfl
  .rw[e5.objs,hρ];rfl
  .rw[e5.nx,hρ];rfl
def Wty(ids:List Nat)(pre:Wab):Prop:=∀id∈ids,id∉Whz pre
def WwV(B:List (List Nat))(x y:Rc):Prop:=
 (x.mv=false->y.mv=true->Wc1 B x.i y.i=true\/Wty x.ids y.pre)/\
 (x.mv=true->y.mv=false->Wc1 B x.i y.i=true\/Wty y.ids x.pre)
theorem Wee{α:Type}:∀(l:List Nat) (k:List Nat->α),Wf5 l k=k l
 | [],_=>rfl
 |x::l,k=>by rw[Wf5,Wee l]
theorem WmS{α:Type}:∀(l:List (List Nat)) (k:List (List Nat)->α),WoY l k=k l
 | [],_=>rfl
 |x::l,k=>by rw[WoY,Wee,WmS l]
theorem Wj7{ids:List Nat}{pre:Wab}(h:WgP ids (Whz pre)=true):Wty ids pre:=λid bv hk=>by
 unfold WgP at h;have:=Xae.1 h id bv;rw[(WaL id _).2 hk]at this;cases this
theorem Wp5(pre objs:Wab):WrP objs (pre++objs)=Whz pre:=by
 unfold WrP;simp
theorem WkM{B:List (List Nat)}{R:Type}{k:St->Option R}{r:R}:∀(l:List Nat) (fl mu:List (Nat×List Nat)) (st:St),rdx T Γ A ops B l fl mu st k=some r->
  ∃(rs:List Rc) (af:St),rs.map (·.i)=l/\WvE T Γ A ops rs st af/\k af=some r/\rs.Pairwise (WwV B)/\
   (∀p∈fl,∀ρ∈rs,ρ.mv=true->Wc1 B p.1 ρ.i=true\/Wty p.2 ρ.pre)/\
   (∀p∈mu,∀ρ∈rs,ρ.mv=false->Wc1 B p.1 ρ.i=true\/WgP ρ.ids p.2=true)
 | [],fl,mu,st,h=>⟨[],st,rfl,rfl,h,List.Pairwise.nil,by simp,by simp⟩
 |i::l,fl,mu,st,h=>by
  simp only[rdx]at h;cases ho:ops[i]? with
  |none=>rw[ho]at h;cases h
  |some o=>
   rw[ho]at h;simp only at h;cases hm:WaM o with
   |true=>
    simp only[hm,cond_true]at h;obtain⟨dt,h1,h2⟩:=WoM h;rw[Wee]at h2;obtain⟨kc,h2⟩:=WaJ h2;obtain⟨ρ,hi,hs⟩:=Wsi ho h1;have hρ:ρ.mv=true:=by rw[hs.isM];exact hm
    have aq:=hs.objs;rw[hρ]at aq;simp only[if_true]at aq;rw[aq,Wp5]at kc h2;obtain⟨rs,af,q1,q2,q3,q4,q5,q6⟩:=WkM l _ _ _ h2;refine⟨ρ::rs,af,by simp[hi,q1],⟨o,dt,hs,q2⟩,q3,List.Pairwise.cons (λy hy=>⟨λhf=>(by rw[hρ]at hf;cases hf),λ_ nz=>?_⟩) q4,λp hp y hy nA=>?_,λp hp y hy nz=>?_⟩
    .rcases q6 (i,Whz ρ.pre) (Xi ..) y hy nz with h|h
     .rw[hi];exact .inl h
     .exact .inr (Wj7 h)
    .rcases Xo.1 hy with rfl|hy
     .have:=Xae.1 kc p hp;rw[Xcd]at this;rw[hi];exact this.imp id Wj7
     .exact q5 p hp y hy nA
    .rcases Xo.1 hy with rfl|hy
     .rw[hρ]at nz;cases nz
     .exact q6 p (Xf _ hp) y hy nz
   |false=>
    simp only[hm,cond_false]at h;rw[Wee]at h;obtain⟨kc,h⟩:=WaJ h;obtain⟨dt,h1,h2⟩:=WoM h;obtain⟨ρ,hi,hs⟩:=Wsi ho h1;have hρ:ρ.mv=false:=by rw[hs.isM];exact hm
    have uq:=hs.lk hρ;rw[←uq]at kc h2;obtain⟨rs,af,q1,q2,q3,q4,q5,q6⟩:=WkM l _ _ _ h2;refine⟨ρ::rs,af,by simp[hi,q1],⟨o,dt,hs,q2⟩,q3,List.Pairwise.cons (λy hy=>⟨λ_ nA=>?_,λhf=>(by rw[hρ]at hf;cases hf)⟩) q4,λp hp y hy nA=>?_,λp hp y hy nz=>?_⟩
    .rw[hi];exact q5 (i,ρ.ids) (Xi ..) y hy nA
    .rcases Xo.1 hy with rfl|hy
     .rw[hρ]at nA;cases nA
     .exact q5 p (Xf _ hp) y hy nA
    .rcases Xo.1 hy with rfl|hy
     .have:=Xae.1 kc p hp;rw[Xcd]at this;rw[hi];exact this
     .exact q6 p hp y hy nz
def Wec(ops:Array Oper)(i:Nat):Option Tmp:=(ops[i]?).bind (·.dst)
def WoV(ops:Array Oper):List Rc->(Nat->Option AVal)->Nat->Option AVal
 | [],e,t=>e t
 |ρ::a,e,t=>WoV ops a (λt'=>if Wec ops ρ.i=some t' then some ρ.v else e t') t
def WhF:List Rc->Wab×Nat->Wab×Nat
 | [],m=>m
 |ρ::a,m=>WhF a (if ρ.mv then(ρ.pre++m.1,ρ.nx)else m)
theorem WgI:∀(rs:List Rc) (st af:St),WvE T Γ A ops rs st af->(∀t,look af.env t=WoV ops rs (look st.env) t)/\(af.objs,af.nx)=WhF rs (st.objs,st.nx)
 | [],st,af,h=>by cases h;exact⟨λ_=>rfl,rfl⟩
 |ρ::rs,st,af,⟨o,dt,hs,h⟩=>by
  obtain⟨h1,h2⟩:=WgI rs dt af h;have e:(look dt.env)= λt'=>if Wec ops ρ.i=some t' then some ρ.v else look st.env t':=funext λt=>by
   rw[hs.env];unfold Wec;rw[hs.at_];rfl
  refine⟨λt=>by rw[h1,e];rfl,?_⟩;rw[h2,WhF];congr 1;rw[hs.objs,hs.nx];split<;>rfl
theorem Wj1:∀(a:List Rc) (ρ:Rc) (b:List Rc) (st af:St),WvE T Γ A ops (a++ρ::b) st af->∃o dt aj,WvE T Γ A ops a st dt/\StepTo T Γ A ops ρ o dt aj
 | [],ρ,b,st,af,⟨o,dt,hs,h⟩=>⟨o,st,dt,rfl,hs⟩
 |x::a,ρ,b,st,af,⟨o,dt,hs,h⟩=>by
  obtain⟨o',s1,s2,h1,h2⟩:=Wj1 a ρ b dt af h;exact⟨o',s1,s2,⟨o,dt,hs,h1⟩,h2⟩
theorem WbC:∀(a:List Rc) (m:Wab×Nat),WhF a m=WhF (a.filter (·.mv)) m
 | [],_=>rfl
 |ρ::a,m=>by
  rw[WhF,WbC a,Xbl];cases h:ρ.mv with
  |true=>simp only[if_true,WhF,h]
  |false=>simp only[Xam,if_false]
theorem WdS:∀(a b:List Rc) (m:Wab×Nat),WhF (a++b) m=WhF b (WhF a m)
 | [],_,_=>rfl
 |ρ::a,b,m=>by rw[Xbj,WhF,WdS a b];rfl
theorem Wi1{pre objs:Wab}{id:Nat}(h:id∉Whz pre):look (pre++objs) id=look objs id:=by
 induction pre with
 |nil=>rfl
 |cons p pre ih=>
  obtain⟨j,ob⟩:=p;simp only[Whz,Xai,Xo,not_or]at h;rw[Xbj,Wx,if_neg (λe=>h.1 e.symm)];exact ih h.2
theorem WiH{id:Nat}:∀(a:List Rc) (m:Wab×Nat),(∀ρ∈a,ρ.mv=true->id∉Whz ρ.pre)->look (WhF a m).1 id=look m.1 id
 | [],_,_=>rfl
 |ρ::a,m,h=>by
  rw[WhF,WiH a _ λx hx=>h x (Xf _ hx)];split
  .rename_i hm;exact Wi1 (h ρ (Xi ..) hm)
  .rfl
def Wlc(ops:Array Oper):Prop:=∀i j t,Wec ops i=some t->Wec ops j=some t->i=j
theorem WfX{t:Nat}:∀(a:List Rc) (e:Nat->Option AVal),(∀ρ∈a,Wec ops ρ.i≠some t)->WoV ops a e t=e t
 | [],_,_=>rfl
 |ρ::a,e,h=>by
  rw[WoV,WfX a _ λx hx=>h x (Xf _ hx),if_neg (h ρ (Xi ..))]
theorem Wii{t:Nat}(h1:Wlc ops):∀(a:List Rc) (e:Nat->Option AVal),(a.map (·.i)).Nodup->∀ρ∈a,Wec ops ρ.i=some t->WoV ops a e t=some ρ.v
 | [],_,_,_,h,_=>by cases h
 |x::a,e,hn,ρ,hρ,ht=>by
  rw[Xai,Xaj]at hn;rw[WoV];rcases Xo.1 hρ with rfl|hρ
  .rw[WfX a _ λy hy yr=>hn.1 (by rw[h1 _ _ _ ht yr];exact Xu.2 ⟨y,hy,rfl⟩),if_pos ht]
  .exact Wii h1 a _ hn.2 ρ hρ ht
theorem Wjz{t:Nat}(h1:Wlc ops){a b:List Rc}{e:Nat->Option AVal}(ha:(a.map (·.i)).Nodup)(hb:(b.map (·.i)).Nodup)
  (h:∀ρ,Wec ops ρ.i=some t->(ρ∈a↔ρ∈b)):WoV ops a e t=WoV ops b e t:=by
 by_cases hx:∃ρ∈a,Wec ops ρ.i=some t
 .obtain⟨ρ,hρ,ht⟩:=hx;rw[Wii h1 a e ha ρ hρ ht,Wii h1 b e hb ρ ((h ρ ht).1 hρ) ht]
 .rw[WfX a e λρ hρ ht=>hx ⟨ρ,hρ,ht⟩,WfX b e λρ hρ ht=>hx ⟨ρ,(h ρ ht).2 hρ,ht⟩]
end
end Go.Sx
namespace Go.Sx
set_option linter.unusedVariables false
set_option linter.unusedSimpArgs false
theorem WfQ{α:Type}{x:α}:∀{a c b d:List α},(a++x::b).Nodup->a++x::b=c++x::d->a=c
 | [],[],_,_,_,_=>rfl
 | [],y::c,b,d,hn,h=>by
  simp only[Xcb,Xbj,List.cons.injEq]at h;obtain⟨rfl,h⟩:=h;rw[Xcb,Xaj]at hn;exact absurd (by rw[h];simp) hn.1
 |y::a,[],b,d,hn,h=>by
  simp only[Xcb,Xbj,List.cons.injEq]at h;obtain⟨rfl,h⟩:=h;rw[Xbj,Xaj]at hn;exact absurd (by simp) hn.1
 |y::a,z::c,b,d,hn,h=>by
  simp only[Xbj,List.cons.injEq]at h;obtain⟨rfl,h⟩:=h;rw[Xbj,Xaj]at hn;rw[WfQ hn.2 h]
def WaI(ops:Array Oper)(i:Nat):Bool:=match ops[i]? with
 |some o=>WaM o
 |none=>false
theorem Rel.same{w0:World}{F:CS}{nt:Slots}{G0 G:GH}{ν:Nat->Nu}{st aj:St}{a:Act}{w:World}(h:Rel w0 F nt G0 G ν st a w)
  (he:∀t,look aj.env t=look st.env t) (ho:aj.objs=st.objs) (hn:aj.nx=st.nx):Rel w0 F nt G0 G ν aj a w:=
 ⟨h.defers,h.ntm,h.par,λi x hx=>by rw[he]at hx;rw[hn];exact h.env i x hx,by rw[ho,hn];exact h.h,h.gx⟩
theorem WuP:∀(rs:List Rc),(rs.map (·.i)).Nodup->∃rec:Nat->Rc,∀ρ∈rs,rec ρ.i=ρ
 | [],_=>⟨λi=>⟨i,.tup [],[],0,[],false⟩,by simp⟩
 |ρ::rs,h=>by
  rw[Xai,Xaj]at h;obtain⟨rec,hr⟩:=WuP rs h.2;refine⟨λi=>if i=ρ.i then ρ else rec i,λx hx=>?_⟩;rcases Xo.1 hx with rfl|hx
  .simp
  .simp only;rw[if_neg (λe=>h.1 (by rw[←e];exact Xu.2 ⟨x,hx,rfl⟩))];exact hr x hx
section
variable{w0:World}{F:CS}{nt:Slots}{G0:GH}{P:Program}{T:Tab}{Γ:Ctx}{A:List (Nat×An)}{ops:Array Oper}{Q:Exit->Act->World->Prop}
theorem Wr0(hT:Wai P T)(hΓ:Wfe P Γ)(hd:∀o∈ops,∀d,o.dst=some d->nt.Ok d){l L:List Nat}(hl:Order ops l)(hL:Order ops L)(dX:Wlc ops)
  (hsl:∀(i:Nat) (o:Oper) (t:Nat),ops[i]?=some o->t∈Wdg ops o->∀j,Wec ops j=some t->j=i\/Wc1 (Wes ops.toList []) j i=true\/Wc1 (Wes ops.toList []) i j=true)
  (hσ:l.filter (WaI ops)=L.filter (WaI ops)) {rs:List Rc} {st af:St} (iX:rs.map (·.i)=L) (kd:WvE T Γ A ops rs st af) (bO:rs.Pairwise (WwV (Wes ops.toList [])))
  (hK:∀a w G ν,Rel w0 F nt G0 G ν af a w->Q .normal a w) {a:Act} {w:World} {G:GH} {ν:Nat->Nu} (hr:Rel w0 F nt G0 G ν st a w):wpOps P ops Q l a w:=by
 have aR:(rs.map (·.i)).Nodup:=by rw[iX];exact hL.nodup
 obtain⟨rec,bd⟩:=WuP rs aR;have hLr:L.map rec=rs:=by
  rw[←iX,Xei]
  conv=>rhs;rw[←List.map_id rs]
  exact Xfe λρ hρ=>bd ρ hρ
 have iC:∀i,i∈l↔i∈L:=λi=>by rw[←hl.all,hL.all]
 have iY:∀i∈L,(rec i).i=i/\rec i∈rs:=λi hi=>by
  rw[←iX]at hi;obtain⟨ρ,hρ,rfl⟩:=Xu.1 hi;rw[bd ρ hρ];exact⟨rfl,hρ⟩
 have iD:∀i∈L,∃pre post o dt aj,L=pre++i::post/\WvE T Γ A ops (pre.map rec) st dt/\StepTo T Γ A ops (rec i) o dt aj:=λi hi=>by
  obtain⟨pre,post,e⟩:=Xeg hi;have:rs=pre.map rec++rec i::post.map rec:=by rw[←hLr,e];simp
  rw[this]at kd;obtain⟨o,dt,aj,h1,h2⟩:=Wj1 _ _ _ _ _ kd;exact⟨pre,post,o,dt,aj,e,h1,h2⟩
 have fZ:∀i∈L,(rec i).mv=WaI ops i:=λi hi=>by
  obtain⟨pre,post,o,dt,aj,e,h1,h2⟩:=iD i hi;rw[h2.isM];have:=h2.at_;rw[(iY i hi).1]at this;unfold WaI;rw[this]
 have fu:∀(p:List Nat),(∀i∈p,i∈L)->(p.map rec).filter (·.mv)=(p.filter (WaI ops)).map rec:=by
  intro p
  induction p with
  |nil=>intro _;rfl
  |cons i p ih=>
   intro h;have:=ih λj hj=>h j (Xf _ hj);rw[Xai,Xbl,Xbl,fZ i (h i (Xi ..))];split
   .rw[Xai,this]
   .exact this
 have nB:∀(p:List Nat),(∀i∈p,i∈L)->(p.map rec).map (·.i)=p:=by
  intro p h;rw[Xei]
  conv=>rhs;rw[←List.map_id p]
  exact Xfe λi hi=>(iY i (h i hi)).1
 have gN:∀(p:List Nat),(∀i∈p,i∈L)->∀i∈L,(rec i∈p.map rec↔i∈p):=λp hp i hi=>by
  constructor
  .intro h;obtain⟨j,hj,e⟩:=Xu.1 h;have:j=i:=by rw[←(iY j (hp j hj)).1,←(iY i hi).1,e]
   rw[←this];exact hj
  .exactλh=>Xu.2 ⟨i,h,rfl⟩
 have my:∀i j pre post,L=pre++i::post->j∈post->WwV (Wes ops.toList []) (rec i) (rec j):=λi j pre post e hj=>by
  have:rs=pre.map rec++rec i::post.map rec:=by rw[←hLr,e];simp
  rw[this,List.pairwise_append]at bO;exact(List.pairwise_cons.1 bO.2.1).1 _ (Xu.2 ⟨j,hj,rfl⟩)
 suffices main:∀(s p:List Nat),l=p++s->∀(aj:St) (a:Act) (w:World) (G:GH) (ν:Nat->Nu),Rel w0 F nt G0 G ν aj a w->
   (∀t,look aj.env t=WoV ops (p.map rec) (look st.env) t)->(aj.objs,aj.nx)=WhF (p.map rec) (st.objs,st.nx)->wpOps P ops Q s a w from
  main l [] rfl st a w G ν hr (λ_=>rfl) rfl
 intro s
 induction s with
 |nil=>
  intro p e aj a w G ν gP he hm;rw[Xcn]at e;subst e;obtain⟨f1,f2⟩:=WgI _ _ _ kd;have ra:∀i∈l,i∈L:=λi hi=>(iC i).1 hi;refine hK a w G ν (gP.same (λt=>?_) ?_ ?_)
  .rw[f1,he];refine Wjz dX aR (by rw[nB l ra];exact hl.nodup) λρ _=>?_;constructor
   .intro hρ;have hi:ρ.i∈L:=by rw[←iX];exact Xu.2 ⟨ρ,hρ,rfl⟩
    rw[←bd ρ hρ];exact(gN l ra ρ.i hi).2 ((iC _).2 hi)
   .intro hρ;obtain⟨i,hi,rfl⟩:=Xu.1 hρ;exact(iY i (ra i hi)).2
  .have:WhF (l.map rec) (st.objs,st.nx)=WhF rs (st.objs,st.nx):=by
    rw[WbC,fu l ra,hσ,←fu L (λi hi=>hi),←WbC,hLr]
   rw[this,←f2]at hm;exact(congrArg (·.1) hm).symm
  .have:WhF (l.map rec) (st.objs,st.nx)=WhF rs (st.objs,st.nx):=by
    rw[WbC,fu l ra,hσ,←fu L (λi hi=>hi),←WbC,hLr]
   rw[this,←f2]at hm;exact(congrArg (·.2) hm).symm
 |cons i s ih=>
  intro p e aj a w G ν gP he hm;have pP:i∈L:=(iC i).1 (by rw[e];simp);have rb:∀j∈p,j∈L:=λj hj=>(iC j).1 (by rw[e];exact Xk _ hj);obtain⟨pre,post,o,dt,yt,eL,h1,h2⟩:=iD i pP;have iE:∀j∈pre,j∈L:=λj hj=>by rw[eL];exact Xk _ hj
  have nC:ops[i]?=some o:=by have:=h2.at_;rw[(iY i pP).1]at this;exact this
  obtain⟨g1,g2⟩:=WgI _ _ _ h1;have lD:=hl.nodup;have lE:=hL.nodup;rw[e]at lD;rw[eL]at lE;have rc:i∉p:=λh=>(Xak.1 lD).2.2 i h i (Xi ..) rfl;have iF:i∉pre:=λh=>(Xak.1 lE).2.2 i h i (Xi ..) rfl;have nD:∀t∈Wdg ops o,look aj.env t=look dt.env t:=λt ht=>by
   rw[he,g1];refine Wjz dX (by rw[nB p rb];exact(Xak.1 lD).1) (by rw[nB pre iE];exact(Xak.1 lE).1) λρ hρt=>?_;have key:∀j∈L,Wec ops j=some t->(j∈p↔j∈pre):=λj hj tX=>by
    rcases hsl i o t nC ht j tX with rfl|hb|hb
    .exact⟨λh=>absurd h rc,λh=>absurd h iF⟩
    .by_cases lF:j=i
     .subst lF;exact⟨λh=>absurd h rc,λh=>absurd h iF⟩
     .exact⟨λ_=>hL.bef' eL hb lF,λ_=>hl.bef' e hb lF⟩
    .exact⟨λh=>absurd (hl.bef e hb h) rc,λh=>absurd (hL.bef eL hb h) iF⟩
   constructor
   .intro hρ;obtain⟨j,hj,rfl⟩:=Xu.1 hρ;have re:=rb j hj;rw[(iY j re).1]at hρt;exact Xu.2 ⟨j,(key j re hρt).1 hj,rfl⟩
   .intro hρ;obtain⟨j,hj,rfl⟩:=Xu.1 hρ;have re:=iE j hj;rw[(iY j re).1]at hρt;exact Xu.2 ⟨j,(key j re hρt).2 hj,rfl⟩
  have wq:WhF (p.map rec) (st.objs,st.nx)=WhF ((p.filter (WaI ops)).map rec) (st.objs,st.nx):=by rw[WbC,fu p rb]
  have mz:WhF (pre.map rec) (st.objs,st.nx)=WhF ((pre.filter (WaI ops)).map rec) (st.objs,st.nx):=by rw[WbC,fu pre iE]
  obtain⟨yu,h3⟩:=h2.move (aj:=aj) nD (λdN=>by
   have ur:WaI ops i=true:=by rw[←fZ i pP];exact dN
   have:p.filter (WaI ops)=pre.filter (WaI ops):=by
    have q:=hσ;rw[e,eL,Xcw,Xcw,Xbl,Xbl,if_pos ur,if_pos ur]at q;refine WfQ ?_ q;have:=hl.nodup.filter (WaI ops);rw[e,Xcw,Xbl,if_pos ur]at this;exact this
   rw[wq,this,←mz,←g2]at hm;exact⟨congrArg (·.1) hm,congrArg (·.2) hm⟩) (λfO id bv=>by
   have q:(p.filter (WaI ops))<+:l.filter (WaI ops):=by rw[e,Xcw];exact Xgq _ _
   have q2:(pre.filter (WaI ops))<+:l.filter (WaI ops):=by rw[hσ,eL,Xcw];exact Xgq _ _
   have tT:aj.objs=(WhF ((p.filter (WaI ops)).map rec) (st.objs,st.nx)).1:=by rw[←wq,←hm]
   have pK:dt.objs=(WhF ((pre.filter (WaI ops)).map rec) (st.objs,st.nx)).1:=by rw[←mz,←g2]
   rw[tT,pK];rcases List.prefix_or_prefix_of_prefix q q2 with⟨X,hX⟩|⟨X,hX⟩
   .
    rw[←hX,Xq,WdS];refine(WiH _ _ λρ hρ hρm=>?_).symm;obtain⟨m,pQ,rfl⟩:=Xu.1 hρ;have gQ:m∈pre:=(Xau.1 (by rw[←hX];exact Xg _ pQ:m∈pre.filter (WaI ops))).1;have nE:m∉p:=λhmem=>by
     have ut:WaI ops m=true:=(Xau.1 (by rw[←hX];exact Xg _ pQ:m∈pre.filter (WaI ops))).2;have ke:(pre.filter (WaI ops)).Nodup:=(Xak.1 lE).1.filter _;rw[←hX]at ke;exact(Xak.1 ke).2.2 m (Xau.2 ⟨hmem,ut⟩) m pQ rfl
    obtain⟨u,v,eu⟩:=Xeg gQ;have hf:=my m i u (v++i::post) (by rw[eL,eu];simp) (by simp);rcases hf.2 hρm fO with hb|hb
    .rw[(iY m (iE m gQ)).1,(iY i pP).1]at hb;exact absurd (hl.bef' e hb (λhc=>iF (hc▸gQ))) nE
    .exact hb id bv
   .rw[←hX,Xq,WdS];refine WiH _ _ λρ hρ hρm=>?_;obtain⟨m,pQ,rfl⟩:=Xu.1 hρ;have ws:m∈p.filter (WaI ops):=by rw[←hX];exact Xg _ pQ
    have lG:m∈p:=(Xau.1 ws).1;have nE:m∉pre:=λhmem=>by
     have ut:WaI ops m=true:=(Xau.1 ws).2;have ke:(p.filter (WaI ops)).Nodup:=(Xak.1 lD).1.filter _;rw[←hX]at ke;exact(Xak.1 ke).2.2 m (Xau.2 ⟨hmem,ut⟩) m pQ rfl
    have wu:=rb m lG;have nF:m∈post:=by
     rw[eL]at wu;rcases Xn.1 wu with h|h
     .exact absurd h nE
     .rcases Xo.1 h with h|h
      .exact absurd (h▸lG) rc
      .exact h
    have hf:=my i m pre post eL nF;rcases hf.1 fO hρm with hb|hb
    .rw[(iY m (rb m lG)).1,(iY i pP).1]at hb;exact absurd (hl.bef e hb lG) rc
    .exact hb id bv)
  have yv:∀d,o.dst=some d->nt.Ok d:=hd o (Array.mem_of_getElem? nC);have s9:=WuR (F:=F) (G0:=G0) (w0:=w0) hT hΓ yv (Q:=Q) (k:=some) (r:=yu) (K:=wpOps P ops Q s) (λyw a' w' G' ν' hr4 h4=>by
   injection h4 with h4;subst h4;refine ih (p++ [i]) (by rw[e];simp) yw a' w' G' ν' hr4 (λt=>?_) ?_
   .rw[h3.env];have hv:WoV ops ((p++ [i]).map rec) (look st.env) t=if Wec ops i=some t then some (rec i).v else WoV ops (p.map rec) (look st.env) t:=by
     rw[Xq];have gen:∀(x:List Rc) (y:Rc) (e:Nat->Option AVal),WoV ops (x++ [y]) e t=if Wec ops y.i=some t then some y.v else WoV ops x e t:=by
      intro x
      induction x with
      |nil=>intro y e;rfl
      |cons z x ih=>intro y e;rw[Xbj,WoV,ih];rfl
     rw[List.map_singleton,gen,(iY i pP).1]
    rw[hv,he];have:Wec ops i=o.dst:=by unfold Wec;rw[nC];rfl
    rw[this]
   .rw[Xq,WdS,←hm];simp only[Xai,Xcj,WhF];rw[h3.objs,h3.nx];split<;>rfl) gP h3.run
  rw[wpOps_cons];unfold wpOp;rw[nC];simp only;split
  .rename_i hw;rw[if_pos hw]at s9;exact .inl s9
  .rename_i hw;rw[if_neg hw]at s9;exact s9
end
end Go.Sx
namespace Go.Sx
set_option linter.unusedVariables false
set_option linter.unusedSimpArgs false
theorem Wj6:∀{l:List (Nat×Nat)},Wbm (l.map (·.1))=true->∀p∈l,∀q∈l,p.1=q.1->p=q
 | [],_,p,hp,_,_,_=>by cases hp
 |x::l,h,p,hp,q,hq,e=>by
  have hn:=(WeT _).1 h;simp only[Xai,Wbm,Xh]at h;rw[Xai,Xaj]at hn;rcases Xo.1 hp with h1|h1
  .rcases Xo.1 hq with h2|h2
   .rw[h1,h2]
   .exact absurd (Xu.2 ⟨q,h2,by rw[←e,h1]⟩) hn.1
  .rcases Xo.1 hq with h2|h2
   .exact absurd (Xu.2 ⟨p,h1,by rw[e,h2]⟩) hn.1
   .exact Wj6 h.2 p h1 q h2 e
theorem WjE:∀(l:List Oper) (n k:Nat) (o:Oper) (d:Nat),l[k]?=some o->o.dst=some d->(d,n+k)∈Whx l n
 | [],_,k,o,d,h,_=>by simp at h
 |x::l,n,k,o,d,h,hd=>by
  cases k with
  |zero=>
   simp at h;subst h;simp only[Whx,hd];exact Xi ..
  |succ k=>
   have:=WjE l (n+1) k o d (by simpa using h) hd;have e:n+(k+1)=n+1+k:=by omega
   rw[e];simp only[Whx];split
   .exact Xf _ this
   .exact this
theorem Whd{ops:Array Oper}{B:List (List Nat)}{D:List (Nat×Nat)}:∀(l:List Oper) (n:Nat),Wkz ops B D l n=true->∀(k:Nat) (o:Oper),l[k]?=some o->∀t∈Wdg ops o,∀p∈D,p.1=t->
  p.2=n+k\/Wc1 B p.2 (n+k)=true\/Wc1 B (n+k) p.2=true
 | [],_,_,k,o,h=>by simp at h
 |x::l,n,h,k,o,hk=>by
  simp only[Wkz,Xh]at h;cases k with
  |zero=>
   simp at hk;subst hk;intro t ht p hp e;have:=Xae.1 (Xae.1 h.1 t ht) p hp;simp only[Xcd,Xao]at this;rcases this with((h1|h1)|h1)|h1
   .rw[e]at h1;simp at h1
   .exact .inl (by simpa using h1)
   .exact .inr (.inl h1)
   .exact .inr (.inr h1)
  |succ k=>
   have:=Whd l (n+1) h.2 k o (by simpa using hk);have e:n+(k+1)=n+1+k:=by omega
   rw[e];exact this
structure RegOk(ops:Array Oper):Prop where
 back:∀(k:Nat) (o:Oper),ops[k]?=some o->∀d∈Wmg o,d<k
 one:Wlc ops
 slots:∀(i:Nat) (o:Oper) (t:Nat),ops[i]?=some o->t∈Wdg ops o->∀j,Wec ops j=some t->j=i\/Wc1 (Wes ops.toList []) j i=true\/Wc1 (Wes ops.toList []) i j=true
theorem Wh7{ops:Array Oper}{j t:Nat}(h:Wec ops j=some t):(t,j)∈Whx ops.toList 0:=by
 unfold Wec at h;obtain⟨o,ho,hd⟩:=Xbz.1 h;have:=WjE ops.toList 0 j o t (by simpa using ho) hd;rw[Xbb]at this;exact this
theorem Wqe{ops:Array Oper}(h:Wu8 ops (Wes ops.toList [])=true):RegOk ops:=by
 simp only[Wu8,Xh]at h;obtain⟨⟨h1,h2⟩,h3⟩:=h;refine⟨λk o ho e he=>?_,λi j t hi hj=>?_,λi o t ho ht j hj=>?_⟩
 .have:=Wj9 (ops:=ops) ops.toList 0 h1 k o (by simpa using ho) e he;omega
 .have:=Wj6 h2 _ (Wh7 hi) _ (Wh7 hj) rfl;exact congrArg (·.2) this
 .have:=Whd ops.toList 0 h3 i o (by simpa using ho) t ht _ (Wh7 hj) rfl;simpa using this
theorem Wj5{ops:Array Oper}:∀(l done:List Nat),Wjc ops l done=true->done.Nodup->(∀i∈done,i<ops.size)->
  (done++l).Nodup/\(∀i∈done++l,i<ops.size)/\(done++l).length=ops.size/\(∀p i s,l=p++i::s->∀o,ops[i]?=some o->∀d∈Wmg o,d∈done++p)
 | [],done,h,hn,hlt=>by
  simp only[Wjc]at h;exact⟨by simpa using hn,by simpa using hlt,by simpa using h,λp i s e=>by simp at e⟩
 |x::l,done,h,hn,hlt=>by
  simp only[Wjc,Xh,Xao]at h;obtain⟨⟨h1,h2⟩,h3⟩:=h;have hx:x∉done:=λhm=>by rw[(WaL x done).2 hm]at h1;cases h1
  cases ho:ops[x]? with
  |none=>rw[ho]at h2;cases h2
  |some o=>
   rw[ho]at h2;have nq:x<ops.size:=(Xdi.1 ho).1;obtain⟨g1,g2,g3,g4⟩:=Wj5 l (x::done) h3 (Xaj.2 ⟨hx,hn⟩) (λi hi=>by
    rcases Xo.1 hi with rfl|hi
    .exact nq
    .exact hlt i hi)
   have kg:List.Perm (x::done++l) (done++x::l):=by simpa using(List.perm_middle (a:=x) (l₁:=done) (l₂:=l)).symm
   refine⟨kg.nodup_iff.1 g1,λi hi=>g2 i (kg.mem_iff.2 hi),by rw[←kg.length_eq];exact g3,λp i s e o' gl d hd=>?_⟩;cases p with
   |nil=>
    simp only[Xcb,List.cons.injEq]at e;obtain⟨rfl,_⟩:=e;rw[ho]at gl;injection gl with gl;subst gl;have:=Xae.1 h2 d hd;simpa using(WaL d done).1 this
   |cons y p=>
    simp only[Xbj,List.cons.injEq]at e;obtain⟨rfl,e⟩:=e;have:=g4 p i s e o' gl d hd;simp only[Xbj,Xo,Xn]at this⊢;rcases this with h|h|h
    .exact .inr (.inl h)
    .exact .inl h
    .exact .inr (.inr h)
theorem Wn3{l:List Nat}{n:Nat}(hn:l.Nodup)(hlt:∀i∈l,i<n)(hlen:l.length=n):∀i,i<n->i∈l:=by
 intro i hi;refine Classical.byContradiction λh=>?_;have h1:(i::l).Nodup:=Xaj.2 ⟨h,hn⟩;have h2:∀j∈i::l,j∈Xdk n:=λj hj=>by
  rw[Xek];rcases Xo.1 hj with rfl|hj
  .exact hi
  .exact hlt j hj
 have key:∀(a b:List Nat),a.Nodup->(∀x∈a,x∈b)->a.length<=b.length:=by
  intro a
  induction a with
  |nil=>intro b _ _;simp
  |cons x a ih=>
   intro b nG ee;rw[Xaj]at nG;have rf:x∈b:=ee x (Xi ..);have:=ih (b.erase x) nG.2 λy hy=>(Xgl (λe=>nG.1 (by rw[←e];exact hy))).2 (ee y (Xf _ hy));rw[Xfu rf]at this;have hpos:=Xgd rf;simp;omega
 have:=key _ _ h1 h2;rw[Xfp,Xr]at this;omega
theorem Wow{ops:Array Oper}{l:List Nat}(h:Wjc ops l []=true):Order ops l:=by
 obtain⟨h1,h2,h3,h4⟩:=Wj5 l [] h Xdm (by simp);rw[Xcb]at h1 h2 h3;exact⟨h1,λi=>⟨Wn3 h1 h2 h3 i,h2 i⟩,λp i s e o ho d hd=>by simpa using h4 p i s e o ho d hd⟩
theorem WjA:∀(l:List Oper) (n i:Nat),i∈Why l n↔n<=i/\∃o,l[i-n]?=some o/\WaM o=true
 | [],n,i=>by simp[Why]
 |o::l,n,i=>by
  have ih:=WjA l (n+1) i;have rh:(n<=i/\∃o',(o::l)[i-n]?=some o'/\WaM o'=true)↔(i=n/\WaM o=true)\/(n+1<=i/\∃o',l[i-(n+1)]?=some o'/\WaM o'=true):=by
   by_cases hi:i=n
   .subst hi;constructor
    .rintro⟨_,o',h1,h2⟩;rw[Xde]at h1;injection h1 with h1;subst h1;exact .inl ⟨rfl,h2⟩
    .rintro(⟨_,h⟩|⟨h,_⟩)
     .exact⟨Xm _,o,by rw[Xde];rfl,h⟩
     .omega
   .constructor
    .rintro⟨h0,o',h1,h2⟩;have e:i-n=(i-(n+1))+1:=by omega
     rw[e,Xdt]at h1;exact .inr ⟨by omega,o',h1,h2⟩
    .rintro(⟨h,_⟩|⟨h0,o',h1,h2⟩)
     .exact absurd h hi
     .have e:i-n=(i-(n+1))+1:=by omega
      exact⟨by omega,o',by rw[e,Xdt];exact h1,h2⟩
  rw[rh,←ih];simp only[Why];cases hm:WaM o with
  |true=>simp
  |false=>simp
theorem WmV{ops:Array Oper}{i:Nat}:i∈Why ops.toList 0↔WaI ops i=true:=by
 rw[WjA];unfold WaI;simp only[Xbq,true_and,Xdc,Array.getElem?_toList];cases ops[i]? with
 |none=>simp
 |some o=>simp
theorem Wpw{B:List (List Nat)}:∀(σ rem:List Nat) (n:Nat),σ.length<=n->σ.Nodup->(∀i,i∈rem↔i∈σ)->(∀p m s,σ=p++m::s->∀m'∈m::s,Wc1 B m' m=false)->σ∈WvA B n rem
 | [],rem,n,hn,aR,hmem,hb=>by
  have:rem= []:=Xey.2 λi hi=>by have:=(hmem i).1 hi;cases this
  subst this;cases n<;>simp[WvA]
 |m::s,rem,0,hn,_,_,_=>by simp at hn
 |m::s,rem,n+1,hn,aR,hmem,hb=>by
  have hm:m∈rem:=(hmem m).2 (Xi ..);rw[Xaj]at aR;cases iZ:rem with
  |nil=>rw[iZ]at hm;cases hm
  |cons x xs=>
   rw[←iZ];have uu:WvA B (n+1) rem=(rem.filter λm=>rem.all λm'=>!Wc1 B m' m).flatMap λm=>(WvA B n (rem.filter λx=>!Xbv x m)).map (m:: ·):=by rw[iZ];rfl
   rw[uu];refine Xfy.2 ⟨m,Xau.2 ⟨hm,Xae.2 λm' gK=>?_⟩,Xu.2 ⟨s,?_,rfl⟩⟩
   .rw[hb [] m s rfl m' ((hmem m').1 gK)];rfl
   .refine Wpw s _ n (by simpa using hn) aR.2 (λi=>?_) (λp q s' e=>hb (m::p) q s' (by rw[e];rfl));rw[Xau,hmem,Xo];constructor
    .rintro⟨h1,h2⟩;rcases h1 with rfl|h1
     .simp at h2
     .exact h1
    .intro h;refine⟨.inr h,?_⟩;have hne:i≠m:=λe=>aR.1 (e▸h);cases hb':Xbv i m with
     |false=>rfl
     |true=>exact absurd (Nat.eq_of_beq_eq_true hb') hne
theorem WuM:∀(l m:List Nat),eqN l m=true->l=m
 | [],[],_=>rfl
 | [],_::_,h=>by cases h
 |_::_,[],h=>by cases h
 |i::l,j::m,h=>by
  simp only[eqN,Xh]at h;have:i=j:=by simpa using h.1
  rw[this,WuM l m h.2]
theorem Wss{α:Type}{a b:Option α}{r:α}(h:Wfc a b=some r):a=some r/\b=some r:=by
 unfold Wfc at h;split at h
 .rename_i e;exact⟨h,e▸h⟩
 .cases h
section
variable{w0:World}{F:CS}{nt:Slots}{G0:GH}{P:Program}{T:Tab}{Γ:Ctx}{A:List (Nat×An)}{R:Type}{r:R}
theorem Wpg{ops:Array Oper}{B:List (List Nat)}{st:St}{k:St->Option R}:∀(l:List (List Nat)),Wwk T Γ A ops B st k l=some r->∀σ∈l,∃L,Wjc ops L []=true/\L.filter (λi=>WbS i σ)=σ/\rdx T Γ A ops B L [] [] st k=some r
 | [],_,σ,hσ=>by cases hσ
 |τ::l,h,σ,hσ=>by
  have one:Wf5 (Wlb ops.toList B ops.size [] τ) (λL=>bif Wjc ops L []&&eqN (L.filter λi=>WbS i τ) τ then rdx T Γ A ops B L [] [] st k else none)=some r->∃L,Wjc ops L []=true/\L.filter (λi=>WbS i τ)=τ/\rdx T Γ A ops B L [] [] st k=some r:=λh=>by
   rw[Wee]at h;obtain⟨hc,h⟩:=WaJ h;simp only[Xh]at hc;exact⟨_,hc.1,WuM _ _ hc.2,h⟩
  cases l with
  |nil=>
   simp only[Wwk]at h;rcases Xo.1 hσ with rfl|hσ
   .exact one h
   .cases hσ
  |cons x l=>
   have h:Wfc (Wf5 (Wlb ops.toList B ops.size [] τ) (λL=>bif Wjc ops L []&&eqN (L.filter λi=>WbS i τ) τ then rdx T Γ A ops B L [] [] st k else none)) (Wwk T Γ A ops B st k (x::l))=some r:=h;obtain⟨h1,h2⟩:=Wss h;rcases Xo.1 hσ with rfl|hσ
   .exact one h1
   .exact Wpg (x::l) h2 σ hσ
theorem WtJ(hM:P.follows .mixedOrders=true)(hT:Wai P T)(hΓ:Wfe P Γ){id:Nat}{ops:Array Oper}(hd:∀o∈ops,∀d,o.dst=some d->nt.Ok d){k:St->Option R}{Q:Exit->Act->World->Prop}(hK:WqV w0 F nt G0 k r (Q .normal)):
  WqV w0 F nt G0 (λst=>Wvg T Γ A ops st k) r ((Code.region id ops true).wp P Q):=λst a w G ν hr h=>by
 simp only[Wvg,WmS]at h;obtain⟨uv,h⟩:=WaJ h;have hR:=Wqe uv;refine wp_region_draw λt=>?_;rw[hM];have hl:Order ops (Region.schedule true ops t):=Wjf hR.back;generalize Region.schedule true ops t=l at hl;have hσ:l.filter (WaI ops)∈WvA (Wes ops.toList []) ops.size (Why ops.toList 0):=by
  refine Wpw _ _ _ ?_ (hl.nodup.filter _) (λi=>?_) (λp m s e m' gK=>?_)
  .refine Xct (Xeu _ _) ?_;have dU:l.length<=(Xdk ops.size).length:=by
    have key:∀(a b:List Nat),a.Nodup->(∀x∈a,x∈b)->a.length<=b.length:=by
     intro a
     induction a with
     |nil=>intro b _ _;simp
     |cons x a ih=>
      intro b nG ee;rw[Xaj]at nG;have rf:x∈b:=ee x (Xi ..);have:=ih (b.erase x) nG.2 λy hy=>(Xgl (λe=>nG.1 (by rw[←e];exact hy))).2 (ee y (Xf _ hy));rw[Xfu rf]at this;have hpos:=Xgd rf;simp;omega
    exact key _ _ hl.nodup λx hx=>Xek.2 ((hl.all x).2 hx)
   rw[Xfp]at dU;exact dU
  .rw[WmV,Xau];constructor
   .intro h;refine⟨(hl.all i).1 ?_,h⟩;unfold WaI at h;split at h
    .rename_i o ho;exact(Xdi.1 ho).1
    .cases h
   .exactλh=>h.2
  .cases hb:Wc1 (Wes ops.toList []) m' m with
   |false=>rfl
   |true=>
    exfalso;have pR:m∈l:=(Xau.1 (by rw[e];simp:m∈l.filter (WaI ops))).1;obtain⟨u,v,eu⟩:=Xeg pR;have hm'u:m'∈u++ [m]:=hl.bef (p:=u++ [m]) (s:=v) (by rw[eu];simp) hb (by simp);have uw:WaI ops m=true:=(Xau.1 (by rw[e];simp:m∈l.filter (WaI ops))).2;have ri:=hl.nodup.filter (WaI ops);have e2:l.filter (WaI ops)=u.filter (WaI ops)++m::v.filter (WaI ops):=by rw[eu,Xcw,Xbl,if_pos uw]
    have yx:p=u.filter (WaI ops):=by
     refine WfQ (b:=s) (d:=v.filter (WaI ops)) (x:=m) ?_ ?_
     .rw[←e];exact ri
     .rw[←e,e2]
    rcases Xo.1 gK with rfl|hm's
    .
     have:=hl.bef (p:=u++ [m']) (s:=v) (by rw[eu];simp) hb (by simp);have hcl:Wmd ops (λj=>j∈u\/(j=m'/\False)):=λi o ho hi d hd=>by
      rcases hi with hi|⟨_,hf⟩
      .exact .inl (hl.closed (p:=u) (s:=m'::v) eu i o ho hi d hd)
      .exact hf.elim
     have back:∀(j i:Nat),Wc1 (Wes ops.toList []) j i=true->j<i:=λj i lF=>by
      have hcl2:Wmd ops (λx=>x<i\/(x=i)):=λx o ho hx d hd=>by
       have:d<x:=hR.back x o ho d hd;omega
      refine Classical.byContradiction λhn=>?_;have hlt:∀(l:List Oper) (acc:List (List Nat)),(∀(k:Nat) (o:Oper),l[k]?=some o->ops[acc.length+k]?=some o)->(∀i,∀j∈acc.getD i [],j<i)->∀i,∀j∈(Wes l acc).getD i [],j<i:=by
       intro l
       induction l with
       |nil=>intro acc _ h;exact h
       |cons o l ih=>
        intro acc hl h;refine ih _ (λk o' hk=>?_) (λi j hj=>?_)
        .have:=hl (k+1) o' (by simpa using hk);rw[Xz];have e:acc.length+(k+1)=acc.length+ [Wkx acc (Wmg o) []].length+k:=by simp;omega
         rw[←e];exact this
        .rw[Xay,Xbc]at hj;split at hj
         .exact h i j (by rw[Xay];exact hj)
         .by_cases he:i=acc.length
          .subst he;simp only[Xde,Xds,Xdw]at hj;rcases(Wiu _ _).1 hj with⟨k,hk,dg⟩|hj
           .have jo:k<acc.length:=hR.back acc.length o (hl 0 o (by simp)) k hk;rcases dg with rfl|dg
            .exact jo
            .have:=h k j dg;omega
           .cases hj
          .have:[Wkx acc (Wmg o) []][i-acc.length]?=none:=Xbe (by simp;omega);rw[this]at hj;cases hj
      exact hn (hlt ops.toList [] (λk o hk=>by simpa using hk) (λi j hj=>by simp at hj) i j ((WaL _ _).1 lF))
     have:=back m' m' hb;omega
    .
     have hm'l:m'∈p:=by
      rw[yx];rcases Xn.1 hm'u with h|h
      .refine Xau.2 ⟨h,?_⟩;exact(Xau.1 (by rw[e];simp[hm's]:m'∈l.filter (WaI ops))).2
      .simp at h;subst h;rw[e]at ri;have:=(Xaj.1 (Xak.1 ri).2.1).1;exact absurd hm's this
     rw[e]at ri;exact(Xak.1 ri).2.2 m' hm'l m' (Xf _ hm's) rfl
 obtain⟨L,g1,g2,g3⟩:=Wpg _ h _ hσ;have hL:=Wow g1;obtain⟨rs,af,q1,q2,q3,q4,_,_⟩:=WkM _ _ _ _ g3;have hf:l.filter (WaI ops)=L.filter (WaI ops):=by
  rw[←g2];refine List.filter_congr λi hi=>?_;cases hm:WaI ops i with
  |true=>exact(WaL _ _).2 (Xau.2 ⟨(hl.all i).1 ((hL.all i).2 hi),hm⟩)
  |false=>
   cases he:WbS i (l.filter (WaI ops))with
   |false=>rfl
   |true=>
    have:=(Xau.1 ((WaL _ _).1 he)).2;rw[hm]at this;cases this
 have bL:Rel w0 F nt G0 G ν st a {w with drawn:=w.drawn+1}:=⟨hr.defers,hr.ntm,hr.par,hr.env,?_,hr.gx⟩
 .exact Wr0 hT hΓ hd hl hL hR.one hR.slots hf q1 q2 q4 (λa w G ν hr=>hK af a w G ν hr q3) bL
 .exact hr.h.drew
end
end Go.Sx
namespace Go.Sx
set_option linter.unusedVariables false
set_option linter.unusedSimpArgs false
section
variable{w0:World}{F:CS}{nt:Slots}{G0:GH}{P:Program}{T:Tab}{Γ:Ctx}{A:List (Nat×An)}{R:Type}{r:R}
theorem Wog(hM:P.follows .mixedOrders=true)(hT:Wai P T)(hΓ:Wfe P Γ){n:Nat}{kept:List Nat}(hn:nt.n=n)(jp:∀p∈nt.kept,p.1∈kept){ann:Nat->List Ghost}{N:Nat}:∀(c:Code),Wdn n kept c=true->∀{k:Ex->St->Option R} {Q:Exit->Act->World->Prop},
  (∀e,WqV w0 F nt G0 (k e) r (Q e.to))->WqV w0 F nt G0 (λst=>sx T Γ ann N c st k) r (c.wp P Q)
 | .skip,_,k,Q,hK=>λst a w G ν hr h=>wp_skip (hK .normal st a w G ν hr h)
 | .exit id,_,k,Q,hK=>λst a w G ν hr h=>wp_exit (hK (.exit id) st a w G ν hr h)
 | .ret,_,k,Q,hK=>λst a w G ν hr h=>wp_ret (hK .ret st a w G ν hr h)
 | .region id ops draw,aM,k,Q,hK=>λst a w G ν hr h=>by
  have fR:WqV w0 F nt G0 (λaf=>match Wd2 (ann id) af with|some (c,bZ)=>bif c then k .normal bZ else none|none=>none) r (Q .normal):=λaf a' w' G' ν' bL h'=>by
   simp only at h';split at h'
   .rename_i c bZ hg;obtain⟨rfl,h'⟩:=WaJ h';obtain⟨G2,ν2,gP⟩:=Wdq _ _ _ _ _ bL hg;exact hK .normal _ _ _ _ _ gP h'
   .cases h'
  have rj:∀o∈ops,∀d,o.dst=some d->nt.Ok d:=λo ho=>Wnn hn jp (Xae.1 aM o (by simpa using ho));cases draw with
  |true=>exact WtJ hM hT hΓ rj fR st a w G ν hr h
  |false=>exact wp_region_list (WuA hT hΓ ops.toList (λo ho=>rj o (by simpa using ho)) fR st a w G ν hr h)
 | .seq x y,aM,k,Q,hK=>λst a w G ν hr h=>by
  simp only[Wdn,Xh]at aM;refine wp_seq (Wog hM hT hΓ hn jp x aM.1 (Q:=Exit.then (y.wp P Q) Q) (λe=>?_) st a w G ν hr h);cases e with
  |normal=>exact Wog hM hT hΓ hn jp y aM.2 hK
  |exit id=>exact hK (.exit id)
  |ret=>exact hK .ret
 | .cond c x y,aM,k,Q,hK=>λst a w G ν hr h=>by
  simp only[Wdn,Xh]at aM;simp only[sx]at h;split at h
  .rename_i b hb;cases hv:ev st c with
   |none=>simp[hv]at hb
   |some v=>
    simp only[hv,Xc]at hb;have hc:=WnK v _ b (WF hr c v hv) hb;refine wp_cond hc ?_;cases b with
    |true=>exact Wog hM hT hΓ hn jp x aM.1 hK st a w G ν hr h
    |false=>exact Wog hM hT hΓ hn jp y aM.2 hK st a w G ν hr h
  .cases h
 | .block id c,aM,k,Q,hK=>λst a w G ν hr h=>by
  simp only[Wdn]at aM;refine wp_block (Wog hM hT hΓ hn jp c aM (Q:=Exit.inBlock id Q) (λe=>?_) st a w G ν hr h);cases e with
  |normal=>exact hK .normal
  |exit bG=>
   intro af a' w' G' ν' bL h';simp only[Ex.to,Exit.inBlock];split
   .rename_i he;simp only[he,if_true]at h';exact hK .normal _ _ _ _ _ bL h'
   .rename_i he;simp only[he,if_false]at h';exact hK (.exit bG) _ _ _ _ _ bL h'
  |ret=>exact hK .ret
 | .loop c,aM,k,Q,hK=>λst a w G ν hr h=>by
  simp only[Wdn]at aM;refine wp_loop_rounds N ?_;have key:∀(m:Nat),WqV w0 F nt G0 (λst=>Wn5 (Wke (ann (WfR c)) λst k=>sx T Γ ann N c st k) m st k) r (Code.rounds P c Q m):=by
   intro m
   induction m with
   |zero=>intro st a w G ν hr h;cases h
   |succ m ih=>
    intro st a w G ν hr h;rw[rounds_succ];have h:sx T Γ ann N c st (λe af=>match e with
     | .normal=>match Wd2 (ann (WfR c)) af with
      |some (b,bZ)=>bif b then Wn5 (Wke (ann (WfR c)) λst k=>sx T Γ ann N c st k) m bZ k else none
      |none=>none
     | .exit id=>k (.exit id) af
     | .ret=>k .ret af)=some r:=by
     rw[←h];simp only[Wn5,Wke];congr 1
    refine Wog hM hT hΓ hn jp c aM (Q:=Exit.then (Code.rounds P c Q m) Q) (λe=>?_) st a w G ν hr h;cases e with
    |normal=>
     intro af a' w' G' ν' bL h';simp only at h';split at h'
     .rename_i b bZ hg;obtain⟨rfl,h'⟩:=WaJ h';obtain⟨G2,ν2,gP⟩:=Wdq _ _ _ _ _ bL hg;exact ih _ _ _ _ _ gP h'
     .cases h'
    |exit id=>exact hK (.exit id)
    |ret=>exact hK .ret
  have h:(match Wd2 (ann (WfR c)) st with
   |some (b,af)=>bif b then Wn5 (Wke (ann (WfR c)) λst k=>sx T Γ ann N c st k) N af k else none
   |none=>none)=some r:=h
  split at h
  .rename_i b af hg;obtain⟨rfl,h⟩:=WaJ h;obtain⟨G2,ν2,gP⟩:=Wdq _ _ _ _ _ hr hg;exact key N _ _ _ _ _ gP h
  .cases h
 | .scope ..,_,k,Q,hK=>λst a w G ν hr h=>by cases h
 | .label ..,_,k,Q,hK=>λst a w G ν hr h=>by cases h
 | .goto ..,_,k,Q,hK=>λst a w G ν hr h=>by cases h
 | .rangeFunc ..,_,k,Q,hK=>λst a w G ν hr h=>by cases h
 | .refuse ..,_,k,Q,hK=>λst a w G ν hr h=>by cases h
end
end Go.Sx
namespace Go.Sx
set_option linter.unusedVariables false
set_option linter.unusedSimpArgs false
section
variable{w0:World}{F:CS}{nt:Slots}{G0 G G':GH}{ν:Nat->Nu}{φ:Nat->CS}{objs:Wab}{nx ah:Nat}{st af:St}{a:Act}{w w':World}{P:Program}{T:Tab}{Γ:Ctx}
theorem Whk:∀(xs:List AVal) (j i:Nat),look (WgY j xs) i=if j<=i then xs[i-j]? else none
 | [],j,i=>by simp[WgY,look]
 |x::xs,j,i=>by
  simp only[WgY];rw[Wx,Whk xs (j+1) i];by_cases h:j=i
  .subst h;simp
  .by_cases h2:j<=i
   .have h3:j+1<=i:=by omega
    rw[if_neg h,if_pos h3,if_pos h2,show i-j=(i-(j+1))+1 by omega];rfl
   .rw[if_neg h,if_neg h2,if_neg (by omega)]
theorem Wjx:∀(l:List Nat),Wrx (WjP l)=l
 | []=>rfl
 |i::l=>by
  show i::Wrx (WjP l)=i::l;rw[Wjx l]
theorem WjY:∀(ps:List PTy) (d:Wfp ps) (objs:Wab) (nx n:Nat),Wju ps n=true->∃ids,ids.length=n/\(WH ps d objs nx).1.take n=WjP ids
 |_,_,_,_,0,_=>⟨[],rfl,rfl⟩
 | [],_,_,_,_+1,h=>by cases h
 | .v _ _::_,_,_,_,_+1,h=>by cases h
 | .mut _::_,_,_,_,_+1,h=>by cases h
 | .clos _ _::_,_,_,_,_+1,h=>by cases h
 | .kv _ _::_,_,_,_,_+1,h=>by cases h
 | .rp _::_,_,_,_,_+1,h=>by cases h
 | .vj _::_,_,_,_,_+1,h=>by cases h
 | .boxal _ _::_,_,_,_,_+1,h=>by cases h
 | .box t::ps,d,objs,nx,n+1,h=>by
  obtain⟨ids,h1,h2⟩:=WjY ps d.2 ((nx,.box (unfold t d.1 (nx+1)).1)::((unfold t d.1 (nx+1)).2.1++objs)) (unfold t d.1 (nx+1)).2.2 n h;refine⟨nx::ids,by simp[h1],?_⟩;simp only[WH,List.take_succ_cons,h2];rfl
theorem Wch:∀(ps:List PTy) (d:Wfp ps) (vs:List Value) (ns:List Pc) (ks:List Nu) (objs:Wab) (nx ah:Nat),Wcj ps=true->Wbg G w ps d vs ns ks->At ν φ nx ns->nx+ns.length<=ah->
  (WH ps d objs nx).2.2=nx+ns.length/\
  (∀id ob,look (WH ps d objs nx).2.1 id=some ob->(nx<=id/\id<nx+ns.length/\Wcv G ν ah w id (φ id) ob)\/look objs id=some ob)/\
  (WH ps d objs nx).1.length=vs.length/\∀(j:Nat) (x:AVal) (v:Value),(WH ps d objs nx).1[j]?=some x->vs[j]?=some v->AValRel G ν ah x v
 | [],d,vs,ns,ks,objs,nx,ah,_,⟨h1,h2,h3⟩,_,_=>by
  subst h1 h2;exact⟨rfl,λid ob h=>.inr h,rfl,λj x v h=>by simp[WH]at h⟩
 | .v t agg::ps,d,vs,ns,ks,objs,nx,ah,eV,⟨v,vs',n1,n2,h1,h2,h3,h4⟩,hν,hx=>by
  subst h2;obtain⟨us,jm⟩:=Wn6 h3;have aU:=W2 _ _ _ _ jm;have hlen:(n1++n2).length=t.owns+n2.length:=by rw[Xz,aU]
  obtain⟨_,o1⟩:=Wan t d.1 nx us n1 jm hν.left;obtain⟨e1,e2,e3,e4⟩:=Wch ps d.2 vs' n2 ks ((unfold t d.1 nx).2.1++objs) (nx+t.owns) ah eV h4 (hν.right aU) (by omega);simp only[WH,WaK];refine⟨by rw[e1,hlen];omega,λid ob hl=>?_,by rw[h1];simp[e3],λj x u hj hu=>?_⟩
  .rcases e2 id ob hl with⟨g1,g2,g3⟩|g
   .exact .inl ⟨by omega,by omega,g3⟩
   .rcases WA g with g|g
    .obtain⟨g1,g2,e,xs,rfl,g3⟩:=o1 id ob g;exact .inl ⟨g1,by omega,g3⟩
    .exact .inr g
  .rw[h1]at hu;cases j with
   |zero=>simp at hj hu;subst hj hu;exact Wlr h3 hν.left (by omega)
   |succ j=>exact e4 j x u (by simpa using hj) (by simpa using hu)
 | .kv t agg::ps,d,vs,ns,ks,objs,nx,ah,eV,⟨v,vs',n1,n2,ks',h1,h2,_,h3,h4⟩,hν,hx=>by
  subst h2;obtain⟨us,jm⟩:=Wn6 h3;have aU:=W2 _ _ _ _ jm;have hlen:(n1++n2).length=t.owns+n2.length:=by rw[Xz,aU]
  obtain⟨_,o1⟩:=Wan t d.1 nx us n1 jm hν.left;obtain⟨e1,e2,e3,e4⟩:=Wch ps d.2 vs' n2 ks' ((unfold t d.1 nx).2.1++objs) (nx+t.owns) ah eV h4 (hν.right aU) (by omega);simp only[WH,WaK];refine⟨by rw[e1,hlen];omega,λid ob hl=>?_,by rw[h1];simp[e3],λj x u hj hu=>?_⟩
  .rcases e2 id ob hl with⟨g1,g2,g3⟩|g
   .exact .inl ⟨by omega,by omega,g3⟩
   .rcases WA g with g|g
    .obtain⟨g1,g2,e,xs,rfl,g3⟩:=o1 id ob g;exact .inl ⟨g1,by omega,g3⟩
    .exact .inr g
  .rw[h1]at hu;cases j with
   |zero=>simp at hj hu;subst hj hu;exact Wlr h3 hν.left (by omega)
   |succ j=>exact e4 j x u (by simpa using hj) (by simpa using hu)
 | .box t::ps,d,vs,ns,ks,objs,nx,ah,eV,⟨b,o,vs',n1,n2,ks',h1,h2,h3,⟨us,hrow,hmem,gm⟩,h6⟩,hν,hx=>by
  subst h2;have aU:=W2 _ _ _ _ gm;have hlen:((⟨Wb9 b o,rng b o t.size⟩:Pc)::(n1++n2)).length=1+t.owns+n2.length:=by rw[Xr,Xz,aU];omega
  obtain⟨hν0,hφ0⟩:ν nx=Wb9 b o/\φ nx=rng b o t.size:=by have:=hν 0 _ rfl;simpa using this
  have hν1:At ν φ (nx+1) (n1++n2):=hν.right (n1:=[⟨Wb9 b o,rng b o t.size⟩]) rfl;obtain⟨c1,o1⟩:=Wan t d.1 (nx+1) us n1 gm hν1.left;have cG:=WbX t d.1 (nx+1);obtain⟨e1,e2,e3,e4⟩:=Wch ps d.2 vs' n2 ks' ((nx,.box (unfold t d.1 (nx+1)).1)::((unfold t d.1 (nx+1)).2.1++objs)) (nx+1+t.owns) ah eV h6 (hν1.right aU) (by omega);simp only[WH,WaK];refine⟨by rw[e1,hlen];omega,λid ob hl=>?_,by rw[h1];simp[e3],λj x u hj hu=>?_⟩
  .rcases e2 id ob hl with⟨g1,g2,g3⟩|g
   .exact .inl ⟨by omega,by omega,g3⟩
   .rw[Wx]at g;split at g
    .rename_i e;subst e;injection g with g;subst g;exact .inl ⟨Xm _,by omega,b,us,by rw[hν0];rfl,by rw[hν0,cG];exact hrow,by rw[hν0];exact hmem,c1 ah (by omega),by rw[hν0,cG,hφ0];exactλ_ _ hh=>hh⟩
    .rcases WA g with g|g
     .obtain⟨g1,g2,e,xs,rfl,g3⟩:=o1 id ob g;exact .inl ⟨by omega,by omega,g3⟩
     .exact .inr g
  .rw[h1]at hu;cases j with
   |zero=>
    simp at hj hu;subst hj hu;exact⟨⟨by omega,b,by rw[hν0];rfl,by rw[hν0];rfl⟩,rfl⟩
   |succ j=>exact e4 j x u (by simpa using hj) (by simpa using hu)
 | .vj _::_,_,_,_,_,_,_,_,_,h,_,_=>h.elim
 | .boxal t lf::ps,d,vs,ns,ks,objs,nx,ah,eV,⟨b,o,b',pc,vs',n1,n2,ks',h1,h2,h3,⟨us,hrow,hmem,gm⟩,h4,h5,h7,h6⟩,hν,hx=>by
  subst h2;have aU:=W2 _ _ _ _ gm;have hlen:((⟨Wb9 b o,rng b o t.size⟩:Pc)::(n1++n2)).length=1+t.owns+n2.length:=by rw[Xr,Xz,aU];omega
  obtain⟨hν0,hφ0⟩:ν nx=Wb9 b o/\φ nx=rng b o t.size:=by have:=hν 0 _ rfl;simpa using this
  have hν1:At ν φ (nx+1) (n1++n2):=hν.right (n1:=[⟨Wb9 b o,rng b o t.size⟩]) rfl;obtain⟨c1,o1⟩:=Wan t d.1 (nx+1) us n1 gm hν1.left;have cG:=WbX t d.1 (nx+1);have ww:lf<n1.length:=(Xs.1 h4).1;have hνl:ν (nx+1+lf)=pc.nu:=(hν1.left lf pc h4).1;obtain⟨e1,e2,e3,e4⟩:=Wch ps d.2.2 vs' n2 ks' ((nx,.box (unfold t d.1 (nx+1)).1)::((unfold t d.1 (nx+1)).2.1++objs)) (nx+1+t.owns) ah eV h6 (hν1.right aU) (by omega);simp only[WH,WaK];refine⟨by rw[e1,hlen];omega,λid ob hl=>?_,by rw[h1];simp[e3],λj x u hj hu=>?_⟩
  .rcases e2 id ob hl with⟨g1,g2,g3⟩|g
   .exact .inl ⟨by omega,by omega,g3⟩
   .rw[Wx]at g;split at g
    .rename_i e;subst e;injection g with g;subst g;exact .inl ⟨Xm _,by omega,b,us,by rw[hν0];rfl,by rw[hν0,cG];exact hrow,by rw[hν0];exact hmem,c1 ah (by omega),by rw[hν0,cG,hφ0];exactλ_ _ hh=>hh⟩
    .rcases WA g with g|g
     .obtain⟨g1,g2,e,xs,rfl,g3⟩:=o1 id ob g;exact .inl ⟨by omega,by omega,g3⟩
     .exact .inr g
  .rw[h1]at hu
   match j with
   |0=>
    simp at hj hu;subst hj hu;exact⟨⟨by omega,b,by rw[hν0];rfl,by rw[hν0];rfl⟩,rfl⟩
   |1=>
    simp at hj hu;subst hj hu;exact⟨⟨by omega,by rw[hνl];exact h7,b',by rw[hνl];exact h5,by rw[hνl];rfl⟩,rfl⟩
   |j+2=>exact e4 j x u (by simpa using hj) (by simpa using hu)
 | .rp t::ps,d,vs,ns,ks,objs,nx,ah,eV,⟨b,o,us,vs',h1,h2,h3,h4⟩,hν,hx=>by
  obtain⟨e1,e2,e3,e4⟩:=Wch ps d.2 vs' ns ks objs nx ah eV h4 hν hx;simp only[WH];refine⟨e1,e2,by rw[h1];simp[e3],λj x u hj hu=>?_⟩;rw[h1]at hu;cases j with
  |zero=>
   simp at hj hu;subst hj hu;exact⟨⟨b,o,us,by rw[Xaz],h2,h3⟩,rfl⟩
  |succ j=>exact e4 j x u (by simpa using hj) (by simpa using hu)
 | .mut e::ps,d,vs,ns,ks,objs,nx,ah,eV,⟨pc,vs',n2,ks',h1,h2,h3,h4,h5⟩,hν,hx=>by
  subst h2;have hlen:(pc::n2).length=1+n2.length:=by rw[Xr];omega
  obtain⟨hν0,hφ0⟩:ν nx=pc.nu/\φ nx=pc.fp:=by have:=hν 0 _ rfl;simpa using this
  obtain⟨e1,e2,e3,e4⟩:=Wch ps d.2 vs' n2 ks' ((nx,.arr e d.1)::objs) (nx+1) ah eV h5 (hν.right (n1:=[pc]) rfl) (by omega);simp only[WH];refine⟨by rw[e1,hlen];omega,λid ob hl=>?_,by rw[h1];simp[e3],λj x u hj hu=>?_⟩
  .rcases e2 id ob hl with⟨g1,g2,g3⟩|g
   .exact .inl ⟨by omega,by omega,g3⟩
   .rw[Wx]at g;split at g
    .rename_i e;subst e;injection g with g;subst g;refine .inl ⟨Xm _,by omega,?_⟩;show OwnL w (TyRel G w _) _ (ν nx) d.1 (φ nx);rw[hν0,hφ0];exact h4
    .exact .inr g
  .rw[h1]at hu;cases j with
   |zero=>
    simp at hj hu;subst hj hu;exact⟨⟨by omega,by rw[hν0]⟩,WiZ _⟩
   |succ j=>exact e4 j x u (by simpa using hj) (by simpa using hu)
 | .clos g n::ps,d,vs,ns,ks,objs,nx,ah,eV,⟨cvs,vs',h1,h2,h3,h4⟩,hν,hx=>by
  simp only[Wcj,Xh]at eV;obtain⟨e1,e2,e3,e4⟩:=Wch ps d (cvs++vs') ns ks objs nx ah eV.2 h4 hν hx;obtain⟨ids,g1,g2⟩:=WjY ps d objs nx n eV.1;simp only[WH];rw[g2,Wjx];have hlen:(WH ps d objs nx).1.length=n+vs'.length:=by rw[e3,Xz,h2]
  have gR:∀(j id:Nat),ids[j]?=some id->(WH ps d objs nx).1[j]?=some (AVal.s (.one (.ptr id 0))):=λj id hj=>by
   have hlt:j<n:=by rw[←g1];exact(Xs.1 hj).1
   have:((WH ps d objs nx).1.take n)[j]?=some (.s (.one (.ptr id 0))):=by rw[g2];simp[WjP,hj]
   rw[List.getElem?_take,if_pos hlt]at this;exact this
  refine⟨e1,e2,by rw[h1];simp[hlen],λj x u hj hu=>?_⟩;rw[h1]at hu;cases j with
  |zero=>
   simp at hj hu;subst hj hu;refine⟨⟨cvs,rfl,by rw[h2,g1],λj id u hj hu=>?_⟩,rfl⟩;have hlt:j<cvs.length:=(Xs.1 hu).1;obtain⟨⟨q1,q2⟩,q3⟩:=e4 j _ u (gR j id hj) (by rw[List.getElem?_append_left hlt];exact hu);exact⟨q1,q3,q2⟩
  |succ j=>
   have hj':(WH ps d objs nx).1[n+j]?=some x:=by
    rw[←List.getElem?_drop];simpa using hj
   exact e4 (n+j) x u hj' (by rw[Xax (by omega),h2,Xbg];simpa using hu)
theorem Wc5:∀(ps:List PTy) (d:Wfp ps) (vs:List Value) (ns:List Pc) (ks:List Nu),Wbg G w ps d vs ns ks->vs.length<=WbH ps
 | [],d,vs,ns,ks,⟨h1,_,_⟩=>by rw[h1];exact Xm _
 | .v t agg::ps,d,vs,ns,ks,⟨v,vs',n1,n2,h1,h2,h3,h4⟩=>by rw[h1,Xr];have:=Wc5 ps _ _ _ _ h4;simp only[WbH];omega
 | .box t::ps,d,vs,ns,ks,⟨b,o,vs',n1,n2,ks',h1,h2,h3,h4,h6⟩=>by rw[h1,Xr];have:=Wc5 ps _ _ _ _ h6;simp only[WbH];omega
 | .mut e::ps,d,vs,ns,ks,⟨pc,vs',n2,ks',h1,h2,h3,h4,h5⟩=>by rw[h1,Xr];have:=Wc5 ps _ _ _ _ h5;simp only[WbH];omega
 | .clos g n::ps,d,vs,ns,ks,⟨cvs,vs',h1,h2,h3,h4⟩=>by rw[h1,Xr];have:=Wc5 ps _ _ _ _ h4;simp at this;simp only[WbH];omega
 | .kv t agg::ps,d,vs,ns,ks,⟨v,vs',n1,n2,ks',h1,h2,iS,h3,h4⟩=>by rw[h1,Xr];have:=Wc5 ps _ _ _ _ h4;simp only[WbH];omega
 | .rp t::ps,d,vs,ns,ks,⟨b,o,us,vs',h1,h2,h3,h4⟩=>by rw[h1,Xr];have:=Wc5 ps _ _ _ _ h4;simp only[WbH];omega
 | .vj _::_,_,_,_,_,h=>h.elim
 | .boxal t lf::ps,d,vs,ns,ks,⟨b,o,b',pc,vs',n1,n2,ks',h1,h2,h3,h4,h5,h6,h7,h8⟩=>by rw[h1,Xr,Xr];have:=Wc5 ps _ _ _ _ h8;simp only[WbH];omega
def Wos(i:Nat)(vs:List Value):List (Nat×Value):=match vs with
 |v::_=>[(i,v)]
 | []=>[]
def Wy:List PTy->Nat->Nat->List Value->List (Nat×Value)
 | [],_,_,_=>[]
 |_::ps,i,k+1,vs=>Wy ps i k vs
 | .v _ _::ps,i,0,vs=>Wy ps (i+1) 0 vs.tail
 | .box _::ps,i,0,vs=>Wos i vs++Wy ps (i+1) 0 vs.tail
 | .mut _::ps,i,0,vs=>Wos i vs++Wy ps (i+1) 0 vs.tail
 | .clos _ n::ps,i,0,vs=>Wos i vs++Wy ps (i+1) n vs.tail
 | .kv _ _::ps,i,0,vs=>Wos i vs++Wy ps (i+1) 0 vs.tail
 | .rp _::ps,i,0,vs=>Wy ps (i+1) 0 vs.tail
 | .vj _::ps,i,0,vs=>Wy ps (i+1) 0 vs.tail
 | .boxal _ _::ps,i,0,vs=>Wos i vs++Wy ps (i+2) 0 vs.tail.tail
theorem Wbo{i:Nat}{vs:List Value}{p:Nat×Value}(h:p∈Wos i vs):p.1=i/\vs[0]?=some p.2:=by
 unfold Wos at h;split at h
 .simp at h;subst h;exact⟨rfl,rfl⟩
 .cases h
theorem WN:∀(ps:List PTy) (i k:Nat) (vs:List Value),∀p∈Wy ps i k vs,p.1∈Wd4 ps i k
 | [],_,_,_,p,h=>by simp[Wy]at h
 | .v _ _::ps,i,k+1,vs,p,h=>WN ps i k vs p h
 | .box _::ps,i,k+1,vs,p,h=>WN ps i k vs p h
 | .mut _::ps,i,k+1,vs,p,h=>WN ps i k vs p h
 | .clos _ _::ps,i,k+1,vs,p,h=>WN ps i k vs p h
 | .v _ _::ps,i,0,vs,p,h=>WN ps (i+1) 0 vs.tail p h
 | .box _::ps,i,0,vs,p,h=>by
  simp only[Wy]at h;rcases Xn.1 h with h|h
  .rw[(Wbo h).1];exact Xi ..
  .exact Xf _ (WN ps (i+1) 0 vs.tail p h)
 | .mut _::ps,i,0,vs,p,h=>by
  simp only[Wy]at h;rcases Xn.1 h with h|h
  .rw[(Wbo h).1];exact Xi ..
  .exact Xf _ (WN ps (i+1) 0 vs.tail p h)
 | .clos _ n::ps,i,0,vs,p,h=>by
  simp only[Wy]at h;rcases Xn.1 h with h|h
  .rw[(Wbo h).1];exact Xi ..
  .exact Xf _ (WN ps (i+1) n vs.tail p h)
 | .kv _ _::ps,i,k+1,vs,p,h=>WN ps i k vs p h
 | .kv _ _::ps,i,0,vs,p,h=>by
  simp only[Wy]at h;rcases Xn.1 h with h|h
  .rw[(Wbo h).1];exact Xi ..
  .exact Xf _ (WN ps (i+1) 0 vs.tail p h)
 | .rp _::ps,i,k+1,vs,p,h=>WN ps i k vs p h
 | .rp _::ps,i,0,vs,p,h=>WN ps (i+1) 0 vs.tail p h
 | .vj _::ps,i,k+1,vs,p,h=>WN ps i k vs p h
 | .vj _::ps,i,0,vs,p,h=>WN ps (i+1) 0 vs.tail p h
 | .boxal _ _::ps,i,k+1,vs,p,h=>WN ps i k vs p h
 | .boxal _ _::ps,i,0,vs,p,h=>by
  simp only[Wy]at h;rcases Xn.1 h with h|h
  .rw[(Wbo h).1];exact Xi ..
  .exact Xf _ (WN ps (i+2) 0 vs.tail.tail p h)
theorem WG:∀(ps:List PTy) (i k:Nat) (vs:List Value),∀p∈Wy ps i k vs,i<=p.1/\vs[p.1-i]?=some p.2
 | [],_,_,_,p,h=>by simp[Wy]at h
 | .v _ _::ps,i,k+1,vs,p,h=>WG ps i k vs p h
 | .box _::ps,i,k+1,vs,p,h=>WG ps i k vs p h
 | .mut _::ps,i,k+1,vs,p,h=>WG ps i k vs p h
 | .clos _ _::ps,i,k+1,vs,p,h=>WG ps i k vs p h
 | .v _ _::ps,i,0,vs,p,h=>by
  obtain⟨h1,h2⟩:=WG ps (i+1) 0 vs.tail p h;refine⟨by omega,?_⟩;rw[show p.1-i=(p.1-(i+1))+1 by omega,←Xci];exact h2
 | .box _::ps,i,0,vs,p,h=>by
  simp only[Wy]at h;rcases Xn.1 h with h|h
  .obtain⟨h1,h2⟩:=Wbo h;rw[h1];exact⟨Xm _,by rw[Xde];exact h2⟩
  .obtain⟨h1,h2⟩:=WG ps (i+1) 0 vs.tail p h;refine⟨by omega,?_⟩;rw[show p.1-i=(p.1-(i+1))+1 by omega,←Xci];exact h2
 | .mut _::ps,i,0,vs,p,h=>by
  simp only[Wy]at h;rcases Xn.1 h with h|h
  .obtain⟨h1,h2⟩:=Wbo h;rw[h1];exact⟨Xm _,by rw[Xde];exact h2⟩
  .obtain⟨h1,h2⟩:=WG ps (i+1) 0 vs.tail p h;refine⟨by omega,?_⟩;rw[show p.1-i=(p.1-(i+1))+1 by omega,←Xci];exact h2
 | .clos _ n::ps,i,0,vs,p,h=>by
  simp only[Wy]at h;rcases Xn.1 h with h|h
  .obtain⟨h1,h2⟩:=Wbo h;rw[h1];exact⟨Xm _,by rw[Xde];exact h2⟩
  .obtain⟨h1,h2⟩:=WG ps (i+1) n vs.tail p h;refine⟨by omega,?_⟩;rw[show p.1-i=(p.1-(i+1))+1 by omega,←Xci];exact h2
 | .kv _ _::ps,i,k+1,vs,p,h=>WG ps i k vs p h
 | .kv _ _::ps,i,0,vs,p,h=>by
  simp only[Wy]at h;rcases Xn.1 h with h|h
  .obtain⟨h1,h2⟩:=Wbo h;rw[h1];exact⟨Xm _,by rw[Xde];exact h2⟩
  .obtain⟨h1,h2⟩:=WG ps (i+1) 0 vs.tail p h;refine⟨by omega,?_⟩;rw[show p.1-i=(p.1-(i+1))+1 by omega,←Xci];exact h2
 | .rp _::ps,i,k+1,vs,p,h=>WG ps i k vs p h
 | .rp _::ps,i,0,vs,p,h=>by
  obtain⟨h1,h2⟩:=WG ps (i+1) 0 vs.tail p h;refine⟨by omega,?_⟩;rw[show p.1-i=(p.1-(i+1))+1 by omega,←Xci];exact h2
 | .vj _::ps,i,k+1,vs,p,h=>WG ps i k vs p h
 | .vj _::ps,i,0,vs,p,h=>by
  obtain⟨h1,h2⟩:=WG ps (i+1) 0 vs.tail p h;refine⟨by omega,?_⟩;rw[show p.1-i=(p.1-(i+1))+1 by omega,←Xci];exact h2
 | .boxal _ _::ps,i,k+1,vs,p,h=>WG ps i k vs p h
 | .boxal _ _::ps,i,0,vs,p,h=>by
  simp only[Wy]at h;rcases Xn.1 h with h|h
  .obtain⟨h1,h2⟩:=Wbo h;rw[h1];exact⟨Xm _,by rw[Xde];exact h2⟩
  .obtain⟨h1,h2⟩:=WG ps (i+2) 0 vs.tail.tail p h;refine⟨by omega,?_⟩;rw[show p.1-i=(p.1-(i+2))+1+1 by omega,←Xci,←Xci];exact h2
def Wl4(tmps:Array Value):ResultVar->Sem Value
 | .tmp t=>pure (tmps.getD t undef)
 | .cell b t=>do loadVar t (←asAddr (tmps.getD b undef))
theorem WkK(hT:Wai P T)(hr:Rel w0 F nt G0 G ν st a w):∀(l:List ResultVar) (xs:List AVal),Weo T st l=some xs->
  ∃vs:List Value,(l.mapM (Wl4 a.tmps)).run P w= .ok vs w/\vs.length=xs.length/\
   ∀(j:Nat) (x:AVal) (v:Value),xs[j]?=some x->vs[j]?=some v->AValRel G ν st.nx x v
 | [],xs,h=>by
  simp only[Weo]at h;injection h with h;subst h;exact⟨[],by simp,rfl,λj x v hj=>by simp at hj⟩
 | .tmp t::l,xs,h=>by
  simp only[Weo]at h;split at h
  .rename_i x sZ h1 h2;injection h with h;subst h;obtain⟨vs,h3,h4,h5⟩:=WkK hT hr l sZ h2;obtain⟨v,hv,hx⟩:=hr.env t x h1;refine⟨v::vs,?_,by simp[h4],λj y u hj hu=>?_⟩
   .have cJ:a.tmps.getD t undef=v:=by simp[Xcr,hv]
    simp only[Xfi,Sem.run_bind,Wl4,Sem.run_pure,Result.andThen_ok,h3,cJ]
   .cases j with
    |zero=>simp at hj hu;subst hj hu;exact hx
    |succ j=>exact h5 j y u (by simpa using hj) (by simpa using hu)
  .cases h
 | .cell b t::l,xs,h=>by
  simp only[Weo]at h;split at h
  .rename_i x sZ h1 h2;injection h with h;subst h;obtain⟨vs,h3,h4,h5⟩:=WkK hT hr l sZ h2;cases hb:look st.env b with
   |none=>simp[hb]at h1
   |some y=>
    simp only[hb,Xc]at h1;obtain⟨v,hv,hx⟩:=hr.env b y hb;obtain⟨u,hu,th⟩:=Whf hT hr.h hx h1;refine⟨u::vs,?_,by simp[h4],λj z q hj hq=>?_⟩
    .have cJ:a.tmps.getD b undef=v:=by simp[Xcr,hv]
     unfold Instr.loadAt at hu;rw[Sem.run_bind]at hu;obtain⟨p,rfl⟩:∃p,v= .pointer (some p):=by
      unfold Instr.sureAddr at hu;split at hu
      .exact⟨_,rfl⟩
      .simp[stuck]at hu
     simp only[Instr.sureAddr,Sem.run_pure,Result.andThen_ok]at hu;have ha:(asAddr (.pointer (some p))).run P w= .ok p w:=rfl;simp only[Xfi,Sem.run_bind,Wl4,Sem.run_pure,Result.andThen_ok,cJ,ha,hu,h3]
    .cases j with
     |zero=>simp at hj hq;subst hj hq;exact th
     |succ j=>exact h5 j z q (by simpa using hj) (by simpa using hq)
  .cases h
theorem WdO(h:HR w0 F G ν φ objs nx w)(hg:GLe G G'):∀(rs:List PTy) (xs:List AVal) (vs:List Value) (A:Outs (WgM rs)),vs.length=xs.length->
  (∀(j:Nat) (x:AVal) (v:Value),xs[j]?=some x->vs[j]?=some v->AValRel G ν nx x v)->Lent G' w φ objs A.lent->A.moved.Nodup->WaY rs xs objs=some A->
  ∃ns,Wf6 G' w rs A.d vs ns/\Sep (fps ns)/\(∀q∈ns,CS.le q.fp (FromL φ objs A.moved))/\(∀i∈A.moved,Live objs i)
 | [],xs,vs,A,hlen,hx,hl,aR,hf=>by
  simp only[WaY]at hf;split at hf
  .injection hf with hf;subst hf;have eS:vs= []:=Xy (by simpa using hlen);exact⟨[],⟨eS,rfl⟩,List.Pairwise.nil,by simp,by simp⟩
  .cases hf
 | .v t agg::rs,xs,vs,A,hlen,hx,hl,aR,hf=>by
  simp only[WaY]at hf;split at hf
  .rename_i x xs;split at hf
   .rename_i d m l A' h1 h2;injection hf with hf;subst hf
    match vs,hlen with
    |v::vs,hlen=>
     cases hc:cellsOf agg x with
     |none=>simp[hc]at h1
     |some cs=>
      simp[hc]at h1;obtain⟨k1,k2,k3⟩:=Xak.1 aR;obtain⟨n1,g1,g2,g3,g4,_⟩:=Wlx h hg (hx 0 x v rfl rfl) (hl.mono (λi hi=>Xk _ hi)) k1 hc h1;obtain⟨n2,g5,g6,g7,g8⟩:=WdO h hg rs xs vs A' (by simpa using hlen) (λj y u hj hu=>hx (j+1) y u (by simpa using hj) (by simpa using hu)) (hl.mono (λi hi=>Xg _ hi)) k2 h2;refine⟨n1++n2,⟨v,vs,n1,n2,rfl,rfl,g1,g5⟩,Wcd h g2 g6 g3 g7 (λi hi hj=>k3 i hi i hj rfl),λq hq=>?_,λi hi=>?_⟩
      .rcases Xn.1 hq with hq|hq
       .exactλb o hh=>FromL.mono (λi hi=>Xk _ hi) b o (g3 q hq b o hh)
       .exactλb o hh=>FromL.mono (λi hi=>Xg _ hi) b o (g7 q hq b o hh)
      .rcases Xn.1 hi with hi|hi
       .exact g4 i hi
       .exact g8 i hi
   .cases hf
  .cases hf
 | .box t::rs,xs,vs,A,hlen,hx,hl,aR,hf=>by
  simp only[WaY]at hf;split at hf
  .rename_i id xs;split at hf
   .rename_i cs aZ;split at hf
    .rename_i d m l A' h1 h2;injection hf with hf;subst hf
     match vs,hlen with
     |v::vs,hlen=>
      obtain⟨k0,k1⟩:=Xaj.1 aR;obtain⟨k2,k3,k4⟩:=Xak.1 k1;obtain⟨⟨_,b,hνb,rfl⟩,_⟩:=hx 0 _ v rfl rfl;have ar:Live objs id:=⟨_,aZ,by simp⟩;obtain⟨b'',us,lH,hrow,hmem,bm,eT⟩:Wcv G ν nx w id (φ id) (.box cs):=h.ob _ _ aZ;rw[hνb]at lH;injection lH with lH;subst lH;obtain⟨n1,g1,g2,g3,g4,_⟩:=Waf h hg t cs us d m l bm (hl.mono (λi hi=>Xk _ hi)) k2 h1;have cG:cs.length=t.size:=by rw[←bm.1];exact Wu _ _ _ _ g1
      obtain⟨n2,g5,g6,g7,g8⟩:=WdO h hg rs xs vs A' (by simpa using hlen) (λj y u hj hu=>hx (j+1) y u (by simpa using hj) (by simpa using hu)) (hl.mono (λi hi=>Xg _ hi)) k3 h2;rw[cG]at hrow eT;refine⟨⟨Wb9 b ((ν id).off+0),rng b ((ν id).off+0) t.size⟩::(n1++n2),⟨b,(ν id).off+0,vs,n1,n2,rfl,rfl,⟨us,hrow,hmem,g1⟩,g5⟩,?_,λq hq=>?_,λi hi=>?_⟩
      .refine Wcd h (n1:=[⟨Wb9 b ((ν id).off+0),rng b ((ν id).off+0) t.size⟩]) (m:=[id]) (l:=m++A'.moved) (Xbm _ _) (Wcd h g2 g6 g3 g7 (λi hi hj=>k4 i hi i hj rfl)) (λq hq=>?_) (λq hq=>?_) (λi hi hj=>k0 (by rw[←Xac.1 hi];exact hj))
       .rw[Xac.1 hq];exactλb o hh=>⟨id,by simp,ar,eT b o hh⟩
       .rcases Xn.1 hq with hq|hq
        .exactλb o hh=>FromL.mono (λi hi=>Xk _ hi) b o (g3 q hq b o hh)
        .exactλb o hh=>FromL.mono (λi hi=>Xg _ hi) b o (g7 q hq b o hh)
      .rcases Xo.1 hq with rfl|hq
       .exactλb o hh=>⟨id,by simp,ar,eT b o hh⟩
       .rcases Xn.1 hq with hq|hq
        .exactλb o hh=>FromL.mono (λi hi=>Xf _ (Xk _ hi)) b o (g3 q hq b o hh)
        .exactλb o hh=>FromL.mono (λi hi=>Xf _ (Xg _ hi)) b o (g7 q hq b o hh)
      .rcases Xo.1 hi with rfl|hi
       .exact ar
       .rcases Xn.1 hi with hi|hi
        .exact g4 i hi
        .exact g8 i hi
    .cases hf
   .cases hf
  .cases hf
 | .mut _::_,_,_,_,_,_,_,_,h=>by simp only[WaY]at h;cases h
 | .clos _ _::_,_,_,_,_,_,_,_,h=>by simp only[WaY]at h;cases h
 | .kv _ _::_,_,_,_,_,_,_,_,h=>by simp only[WaY]at h;cases h
 | .rp _::_,_,_,_,_,_,_,_,h=>by simp only[WaY]at h;cases h
 | .vj t::rs,xs,vs,A,hlen,hx,hl,aR,hf=>by
  simp only[WaY]at hf;split at hf
  .rename_i cs xs;split at hf
   .rename_i hcl;split at hf
    .rename_i d m l A' h1 h2;injection hf with hf;subst hf
     match vs,hlen with
     |v::vs,hlen=>
      obtain⟨k1,k2,k3⟩:=Xak.1 aR;obtain⟨us,rfl,bm⟩:=hx 0 _ v rfl rfl;obtain⟨n1,g1,g2,g3,g4,_⟩:=Waf h hg t (cs.take t.size) (us.take t.size) d m l (bm.take t.size) (hl.mono (λi hi=>Xk _ hi)) k1 h1;obtain⟨n2,g5,g6,g7,g8⟩:=WdO h hg rs xs vs A' (by simpa using hlen) (λj y u hj hu=>hx (j+1) y u (by simpa using hj) (by simpa using hu)) (hl.mono (λi hi=>Xg _ hi)) k2 h2;have cG:us.length=t.size+1:=by rw[bm.1,hcl]
      have hlt:t.size<us.length:=by omega
      have e0:us=us.take t.size++ [us[t.size]]:=by
       rw[←List.take_succ_eq_append_getElem hlt,Xdb (by omega)]
      have ho:=(bm.2 t.size (cs[t.size]'(by omega)) us[t.size] (Xp (by omega)) (Xp hlt)).2;refine⟨n1++n2,⟨us.take t.size,us[t.size],vs,n1,n2,by rw[←e0],ho,rfl,g1,g5⟩,Wcd h g2 g6 g3 g7 (λi hi hj=>k3 i hi i hj rfl),λq hq=>?_,λi hi=>?_⟩
      .rcases Xn.1 hq with hq|hq
       .exactλb o hh=>FromL.mono (λi hi=>Xk _ hi) b o (g3 q hq b o hh)
       .exactλb o hh=>FromL.mono (λi hi=>Xg _ hi) b o (g7 q hq b o hh)
      .rcases Xn.1 hi with hi|hi
       .exact g4 i hi
       .exact g8 i hi
    .cases hf
   .cases hf
  .cases hf
 | .boxal _ _::_,_,_,_,_,_,_,_,h=>by simp only[WaY]at h;cases h
theorem WnF{p:PTy}{ps:List PTy}{k:Nat}(h:Wju (p::ps) (k+1)=true):(∃t,p= .box t)/\Wju ps k=true:=by
 cases p with
 |box t=>exact⟨⟨t,rfl⟩,h⟩
 |_=>cases h
theorem Wgd(hr:Rel w0 F nt G0 G ν st a w){i:Nat}{u:Value}(hp:a.tmps[i]?=some u):(look st.env i).getD (.tup [])= .tup []\/AValRel G ν st.nx ((look st.env i).getD (.tup [])) u:=by
 cases he:look st.env i with
 |none=>exact .inl rfl
 |some y=>
  obtain⟨v,hv,hx⟩:=hr.env i y he;rw[hp]at hv;injection hv with hv;subst hv;exact .inr hx
theorem WaD{wb:World}{Gb:GH}(hr:Rel w0 F nt G0 G ν st a w):∀(ps:List PTy) (d:Wfp ps) (vs:List Value) (ns:List Pc) (ks:List Nu) (i k:Nat),Wbg Gb wb ps d vs ns ks->Wcj ps=true->Wju ps k=true->k<=vs.length->
  (∀p∈Wy ps i k (vs.drop k),a.tmps[p.1]?=some p.2)->(Wp ps i k st).length+k=vs.length/\
  ∀(j:Nat) (x:AVal) (v:Value),(Wp ps i k st)[j]?=some x->vs[k+j]?=some v->x= .tup []\/AValRel G ν st.nx x v
 | [],d,vs,ns,ks,i,k,⟨h1,_,_⟩,_,_,hk,_=>by
  subst h1;have:k=0:=by simpa using hk
  subst this;exact⟨rfl,λj x v hj=>by simp[Wp]at hj⟩
 |p::ps,d,vs,ns,ks,i,k+1,h,hc,hb,hk,hp=>by
  obtain⟨⟨t,rfl⟩,hb'⟩:=WnF hb;obtain⟨b,o,vs',n1,n2,ks',h1,h2,h3,h4,h6⟩:=h;subst h1;have gG:Wcj ps=true:=hc;obtain⟨e1,e2⟩:=WaD hr ps d.2 vs' n2 ks' i k h6 gG hb' (by simpa using hk) (by simpa [Wy]using hp);refine⟨by simp only[Wp,Xr];omega,λj x v hj hv=>e2 j x v (by simpa [Wp]using hj) ?_⟩;rw[show k+1+j=(k+j)+1 by omega]at hv;simpa using hv
 | .v t agg::ps,d,vs,ns,ks,i,0,⟨v,vs',n1,n2,h1,h2,h3,h4⟩,hc,_,_,hp=>by
  subst h1;obtain⟨e1,e2⟩:=WaD hr ps d.2 vs' n2 ks (i+1) 0 h4 hc (by cases ps<;>rfl) (Xbq _) (by simpa [Wy]using hp);refine⟨by simp only[Wp,Xr];omega,λj x u hj hu=>?_⟩;cases j with
  |zero=>simp[Wp]at hj;exact .inl hj.symm
  |succ j=>exact e2 j x u (by simpa [Wp]using hj) (by simpa using hu)
 | .rp t::ps,d,vs,ns,ks,i,0,⟨b,o,us,vs',h1,h2,h3,h4⟩,hc,_,_,hp=>by
  subst h1;obtain⟨e1,e2⟩:=WaD hr ps d.2 vs' ns ks (i+1) 0 h4 hc (by cases ps<;>rfl) (Xbq _) (by simpa [Wy]using hp);refine⟨by simp only[Wp,Xr];omega,λj x u hj hu=>?_⟩;cases j with
  |zero=>simp[Wp]at hj;exact .inl hj.symm
  |succ j=>exact e2 j x u (by simpa [Wp]using hj) (by simpa using hu)
 | .box t::ps,d,vs,ns,ks,i,0,⟨b,o,vs',n1,n2,ks',h1,h2,h3,h4,h6⟩,hc,_,_,hp=>by
  subst h1;simp only[Wy,Xca,Xej]at hp;obtain⟨e1,e2⟩:=WaD hr ps d.2 vs' n2 ks' (i+1) 0 h6 hc (by cases ps<;>rfl) (Xbq _) (λp gF=>hp p (Xg _ (by simpa using gF)));refine⟨by simp only[Wp,Xr];omega,λj x u hj hu=>?_⟩;cases j with
  |zero=>
   simp[Wp]at hj hu;subst hj hu;exact Wgd hr (hp (i,_) (Xk _ (Xi ..)))
  |succ j=>exact e2 j x u (by simpa [Wp]using hj) (by simpa using hu)
 | .vj _::_,_,_,_,_,_,_,h,_,_,_,_=>h.elim
 | .boxal t lf::ps,d,vs,ns,ks,i,0,⟨b,o,b',pc,vs',n1,n2,ks',h1,h2,h3,h4,h5,h6,h7,h8⟩,hc,_,_,hp=>by
  subst h1;simp only[Wy,Xca,Xej]at hp;obtain⟨e1,e2⟩:=WaD hr ps d.2.2 vs' n2 ks' (i+2) 0 h8 hc (by cases ps<;>rfl) (Xbq _) (λp gF=>hp p (Xg _ (by simpa using gF)));refine⟨by simp only[Wp,Xr];omega,λj x u hj hu=>?_⟩
  match j with
  |0=>
   simp[Wp]at hj hu;subst hj hu;exact Wgd hr (hp (i,_) (Xk _ (Xi ..)))
  |1=>simp[Wp]at hj;exact .inl hj.symm
  |j+2=>exact e2 j x u (by simpa [Wp]using hj) (by simpa using hu)
 | .mut e::ps,d,vs,ns,ks,i,0,⟨pc,vs',n2,ks',h1,h2,h3,h4,h5⟩,hc,_,_,hp=>by
  subst h1;simp only[Wy,Xca,Xej]at hp;obtain⟨e1,e2⟩:=WaD hr ps d.2 vs' n2 ks' (i+1) 0 h5 hc (by cases ps<;>rfl) (Xbq _) (λp gF=>hp p (Xg _ (by simpa using gF)));refine⟨by simp only[Wp,Xr];omega,λj x u hj hu=>?_⟩;cases j with
  |zero=>
   simp[Wp]at hj hu;subst hj hu;exact Wgd hr (hp (i,_) (Xk _ (Xi ..)))
  |succ j=>exact e2 j x u (by simpa [Wp]using hj) (by simpa using hu)
 | .clos g n::ps,d,vs,ns,ks,i,0,⟨cvs,vs',h1,h2,h3,h4⟩,hc,_,_,hp=>by
  subst h1;simp only[Wcj,Xh]at hc;simp only[Wy,Xca,Xej]at hp;obtain⟨e1,e2⟩:=WaD hr ps d (cvs++vs') ns ks (i+1) n h4 hc.2 hc.1 (by simp[h2]) (λp gF=>hp p (Xg _ (by rw[List.drop_left' h2]at gF;exact gF)));refine⟨by simp only[Wp,Xr];simp at e1;omega,λj x u hj hu=>?_⟩;cases j with
  |zero=>
   simp[Wp]at hj hu;subst hj hu;exact Wgd hr (hp (i,_) (Xk _ (Xi ..)))
  |succ j=>exact e2 j x u (by simpa [Wp]using hj) (by rw[Xax (by omega),h2,Xbg];simpa using hu)
 | .kv t agg::ps,d,vs,ns,ks,i,0,⟨v,vs',n1,n2,ks',h1,h2,iS,h3,h4⟩,hc,_,_,hp=>by
  subst h1;simp only[Wy,Xca,Xej]at hp;obtain⟨e1,e2⟩:=WaD hr ps d.2 vs' n2 ks' (i+1) 0 h4 hc (by cases ps<;>rfl) (Xbq _) (λp gF=>hp p (Xg _ (by simpa using gF)));refine⟨by simp only[Wp,Xr];omega,λj x u hj hu=>?_⟩;cases j with
  |zero=>
   simp[Wp]at hj hu;subst hj hu;exact Wgd hr (hp (i,_) (Xk _ (Xi ..)))
  |succ j=>exact e2 j x u (by simpa [Wp]using hj) (by simpa using hu)
theorem WoB{G G':GH}{wb w:World}{nu rk:Nu}{e:Ty}{xs ys:List e.den}{S S':CS}(h4:OwnL wb (TyRel G wb e) e.size nu xs S)(hown:OwnL w (TyRel G' w e) e.size rk ys S')(hx:nu.hdr=rk.hdr):OwnL w (TyRel G' w e) e.size nu ys S':=by
 unfold Nu.hdr at hx;cases hb:rk.blk with
 |none=>
  cases hb':nu.blk with
  |some b=>simp[hb,hb']at hx
  |none=>
   have k1:=Wcp h4 hb';have k2:=Wcp hown hb;refine⟨by rw[k2,←h4.1,k1],h4.2.1,?_⟩;simp only[hb'];exact k2
 |some b=>
  cases hb':nu.blk with
  |none=>simp[hb,hb']at hx
  |some b'=>
   simp only[hb,hb']at hx;injection hx with x1 x2 x3;injection x1 with x1;injection x1 with x1 x4 _;have e1:=h4.2.1;have e2:=hown.2.1;have:nu=rk:=by
    obtain⟨a1,a2,a3,a4,a5⟩:=nu;obtain⟨b1,b2,b3,b4,b5⟩:=rk;simp only at hb hb' x1 x2 x3 x4 e1 e2;subst hb hb' x1 x2 x3 x4;rw[e1,e2]
   rw[this];exact hown
theorem WeZ{G G':GH}{wb w:World}:∀(t:Ty) (d0 d:t.den) (us:List Value) (n1 n2:List Pc),TyRel G wb t d0 us n1->TyRel G' w t d us n2->∃n3,TyRel G' w t d us n3/\nus n3=nus n1/\fps n3=fps n2
 | .own e,d0,d,us,n1,n2,⟨pc,h1,h2,h3⟩,⟨cz,g1,g2,g3⟩=>by
  subst h1 g1;have hx:pc.nu.hdr=cz.nu.hdr:=by rw[h2]at g2;simpa using g2
  exact⟨[⟨pc.nu,cz.fp⟩],⟨_,rfl,h2,WoB h3 g3 hx⟩,rfl,rfl⟩
 | .prod a b,d0,d,us,n1,n2,⟨v1,v2,m1,m2,h1,h2,h3,h4⟩,⟨u1,u2,k1,k2,g1,g2,g3,g4⟩=>by
  have l1:=Wu a _ _ _ h3;have l2:=Wu a _ _ _ g3;obtain⟨q1,q2⟩:=List.append_inj (h1.symm.trans g1) (by rw[l1,l2]);subst q1 q2 h2 g2;obtain⟨a1,a2,a3,a4⟩:=WeZ a _ _ _ _ _ h3 g3;obtain⟨b1,b2,b3,b4⟩:=WeZ b _ _ _ _ _ h4 g4;exact⟨a1++b1,⟨_,_,a1,b1,h1,rfl,a2,b2⟩,by unfold nus at a3 b3⊢;rw[Xq,Xq,a3,b3],by unfold fps at a4 b4⊢;rw[Xq,Xq,a4,b4]⟩
 | .int _,d0,d,us,n1,n2,h,g=>by obtain⟨h1,_⟩:=h;obtain⟨g1,g2⟩:=g;subst h1 g1;exact⟨[],⟨rfl,g2⟩,rfl,rfl⟩
 | .bool,d0,d,us,n1,n2,h,g=>by obtain⟨h1,_⟩:=h;obtain⟨g1,g2⟩:=g;subst h1 g1;exact⟨[],⟨rfl,g2⟩,rfl,rfl⟩
 | .str,d0,d,us,n1,n2,h,g=>by obtain⟨h1,_⟩:=h;obtain⟨g1,g2⟩:=g;subst h1 g1;exact⟨[],⟨rfl,g2⟩,rfl,rfl⟩
 | .slice _,d0,d,us,n1,n2,h,g=>by obtain⟨h1,_⟩:=h;obtain⟨g1,g2⟩:=g;subst h1 g1;exact⟨[],⟨rfl,g2⟩,rfl,rfl⟩
theorem WsK{G G':GH}{wb w:World}{t:Ty}{agg:Bool}{d0 d:t.den}{v:Value}{n1 n2:List Pc}(h:Wi9 G wb t agg d0 v n1)(g:Wi9 G' w t agg d v n2):∃us n3,TyRel G' w t d us n3/\nus n3=nus n1/\fps n3=fps n2:=by
 unfold Wi9 at h g;split at h
 .rename_i ha;rw[if_pos ha]at g;obtain⟨us,h1,h2⟩:=h;obtain⟨yy,g1,g2⟩:=g;have:us=yy:=by
   rw[h1]at g1;injection g1 with g1;have:=congrArg Array.toList g1;simpa using this
  subst this;exact⟨us,WeZ _ _ _ _ _ _ h2 g2⟩
 .rename_i ha;rw[if_neg ha]at g;exact⟨_,WeZ _ _ _ _ _ _ h g⟩
structure OOk(G':GH)(φ:Nat->CS)(objs:Wab)(w:World)(ps:List PTy)(B:OutK (WfW ps))(ks:List Nu)(kf:List CS)(ms:List Pc):Prop where
 outs:Wby G' w ps B.d ks kf ms
 sepk:Sep kf
 sepm:Sep (fps ms)
 kf:∀S∈kf,CS.le S (FromL φ objs B.kept)
 ms:∀q∈ms,CS.le q.fp (FromL φ objs B.moved)
theorem WwS(h:HR w0 F G ν φ objs nx w){k1 k2:List CS}{m l:List Nat}(h1:Sep k1)(h2:Sep k2)(g1:∀S∈k1,CS.le S (FromL φ objs m))(g2:∀S∈k2,CS.le S (FromL φ objs l))(hd:∀i∈m,i∉l):Sep (k1++k2):=
 Woo h1 h2 (A:=FromL φ objs m) (B:=FromL φ objs l) g1 g2 (FromL.disj h hd)
theorem Whi{wb:World}{Gb:GH}(hg:GLe G G')(h:HR w0 F G ν φ objs nx w){t:Ty}{ps:List PTy}{id b o:Nat}{cs:List Cell}{dd:t.den}{m l:List Nat}{A:OutK (WfW ps)}{ks:List Nu}{kf:List CS}{ms:List Pc}
  (hx:CellRel G ν nx (.ptr id 0) (.pointer (some ⟨b,o,none⟩))) (ho:look objs id=some (.box cs)) (g1:Wap t cs objs=some (dd,m,l)) (hl:Lent G' w φ objs l) (hk:(id::A.kept).Nodup) (hm:(m++A.moved).Nodup) (hA:OOk G' φ objs w ps A ks kf ms):
  ∃nn,Wfq G' w t dd b o nn/\Sep (rng b o t.size::kf)/\Sep (fps (nn++ms))/\(∀S∈rng b o t.size::kf,CS.le S (FromL φ objs (id::A.kept)))/\(∀q∈nn++ms,CS.le q.fp (FromL φ objs (m++A.moved))):=by
 obtain⟨_,b',yz,jq⟩:=hx;injection jq with jq;injection jq with jq;injection jq with jq lw _;subst jq lw;have ar:Live objs id:=⟨_,ho,by simp⟩;obtain⟨b'',us,ti,hrow,hmem,bm,eT⟩:Wcv G ν nx w id (φ id) (.box cs):=h.ob _ _ ho;rw[yz]at ti;injection ti with ti;subst ti;obtain⟨k1,k2⟩:=Xaj.1 hk;obtain⟨k3,k4,k5⟩:=Xak.1 hm;obtain⟨nn,e1,e2,e3,_⟩:=Waf h hg t cs us dd m l bm hl k3 g1;have cG:cs.length=t.size:=by rw[←bm.1];exact Wu _ _ _ _ e1
 rw[cG]at hrow eT;have fN:CS.le (rng b ((ν id).off+0) t.size) (FromL φ objs [id]):=λb o hh=>⟨id,by simp,ar,eT b o hh⟩;refine⟨nn,⟨us,hrow,hmem,e1⟩,?_,Wcd h e2 hA.sepm e3 hA.ms (λi hi hj=>k5 i hi i hj rfl),λS hS=>?_,λq hq=>?_⟩
 .exact WwS h (k1:=[rng b ((ν id).off+0) t.size]) (m:=[id]) (Xbm _ _) hA.sepk (λS hS=>by rw[Xac.1 hS];exact fN) hA.kf (λi hi hj=>k1 (by rw[←Xac.1 hi];exact hj))
 .rcases Xo.1 hS with rfl|hS
  .exactλb o hh=>FromL.mono (λi hi=>by rw[Xac.1 hi];exact Xi ..) b o (fN b o hh)
  .exactλb o hh=>FromL.mono (λi hi=>Xf _ hi) b o (hA.kf S hS b o hh)
 .rcases Xn.1 hq with hq|hq
  .exactλb o hh=>FromL.mono (λi hi=>Xk _ hi) b o (e3 q hq b o hh)
  .exactλb o hh=>FromL.mono (λi hi=>Xg _ hi) b o (hA.ms q hq b o hh)
theorem WaN{wb:World}{Gb:GH}(hg:GLe G G')(h:HR w0 F G ν φ objs nx w):∀(ps:List PTy) (d:Wfp ps) (vs:List Value) (ns:List Pc) (ks:List Nu) (xs:List AVal) (B:OutK (WfW ps)),Wbg Gb wb ps d vs ns ks->xs.length=vs.length->
  (∀(j:Nat) (x:AVal) (v:Value),xs[j]?=some x->vs[j]?=some v->x= .tup []\/AValRel G ν nx x v)->Lent G' w φ objs B.lent->B.kept.Nodup->B.moved.Nodup->WW ps xs objs=some B->
  ∃kf ms,OOk G' φ objs w ps B ks kf ms
 | [],d,vs,ns,ks,xs,B,⟨_,_,hk⟩,_,_,_,_,_,hf=>by
  simp only[WW]at hf;injection hf with hf;subst hf;exact⟨[],[],⟨hk,rfl,rfl⟩,List.Pairwise.nil,List.Pairwise.nil,by simp,by simp⟩
 | .v t agg::ps,d,vs,ns,ks,xs,B,⟨v,vs',n1,n2,h1,h2,h3,h4⟩,hlen,hp,hl,hk,hm,hf=>by
  subst h1;simp only[WW]at hf;cases hA:WW ps xs.tail objs with
  |none=>simp[hA]at hf
  |some A=>
   simp[hA]at hf;subst hf
   match xs,hlen with
   |x::xs,hlen=>
    obtain⟨kf,ms,hO⟩:=WaN hg h ps d.2 vs' n2 ks xs A h4 (by simpa using hlen) (λj y u hj hu=>hp (j+1) y u (by simpa using hj) (by simpa using hu)) hl hk hm hA;exact⟨kf,ms,hO.outs,hO.sepk,hO.sepm,hO.kf,hO.ms⟩
 | .rp t::ps,d,vs,ns,ks,xs,B,⟨b,o,us,vs',h1,h2,h3,h4⟩,hlen,hp,hl,hk,hm,hf=>by
  subst h1;simp only[WW]at hf;cases hA:WW ps xs.tail objs with
  |none=>simp[hA]at hf
  |some A=>
   simp[hA]at hf;subst hf
   match xs,hlen with
   |x::xs,hlen=>
    obtain⟨kf,ms,hO⟩:=WaN hg h ps d.2 vs' ns ks xs A h4 (by simpa using hlen) (λj y u hj hu=>hp (j+1) y u (by simpa using hj) (by simpa using hu)) hl hk hm hA;exact⟨kf,ms,hO.outs,hO.sepk,hO.sepm,hO.kf,hO.ms⟩
 | .box t::ps,d,vs,ns,ks,xs,B,⟨b,o,vs',n1,n2,ks',h1,h2,h3,h4,h6⟩,hlen,hp,hl,hk,hm,hf=>by
  subst h1;simp only[WW]at hf;split at hf
  .rename_i id xs;split at hf
   .rename_i cs ho;split at hf
    .rename_i dd m l A g1 g2;injection hf with hf;subst hf;have hx:=((hp 0 _ _ rfl rfl).resolve_left (λe=>by cases e)).1;obtain⟨kf,ms,hO⟩:=WaN hg h ps d.2 vs' n2 ks' xs A h6 (by simpa using hlen) (λj y u hj hu=>hp (j+1) y u (by simpa using hj) (by simpa using hu)) (hl.mono λj hj=>Xg _ hj) (Xaj.1 hk).2 (Xak.1 hm).2.1 g2;obtain⟨nn,e1,e2,e3,e4,e5⟩:=Whi (wb:=wb) (Gb:=Gb) hg h hx ho g1 (hl.mono λj hj=>Xk _ hj) hk hm hO;exact⟨_,nn++ms,⟨b,o,ks',kf,nn,ms,h3,rfl,rfl,e1,hO.outs⟩,e2,e3,e4,e5⟩
    .cases hf
   .cases hf
  .cases hf
 | .vj _::_,_,_,_,_,_,_,h,_,_,_,_,_,_=>h.elim
 | .boxal t lf::ps,d,vs,ns,ks,xs,B,⟨b,o,b',pc,vs',n1,n2,ks',h1,h2,h3,h4,h5,h6,h7,h8⟩,hlen,hp,hl,hk,hm,hf=>by
  subst h1;simp only[WW]at hf;split at hf
  .rename_i id y xs;split at hf
   .rename_i cs ho;split at hf
    .rename_i dd m l A g1 g2;injection hf with hf;subst hf;have hx:=((hp 0 _ _ rfl rfl).resolve_left (λe=>by cases e)).1;obtain⟨kf,ms,hO⟩:=WaN hg h ps d.2.2 vs' n2 ks' xs A h8 (by simpa using hlen) (λj y u hj hu=>hp (j+2) y u (by simpa using hj) (by simpa using hu)) (hl.mono λj hj=>Xg _ hj) (Xaj.1 hk).2 (Xak.1 hm).2.1 g2;obtain⟨nn,e1,e2,e3,e4,e5⟩:=Whi (wb:=wb) (Gb:=Gb) hg h hx ho g1 (hl.mono λj hj=>Xk _ hj) hk hm hO;exact⟨_,nn++ms,⟨b,o,ks',kf,nn,ms,h3,rfl,rfl,e1,hO.outs⟩,e2,e3,e4,e5⟩
    .cases hf
   .cases hf
  .cases hf
 | .mut e::ps,d,vs,ns,ks,xs,B,⟨pc,vs',n2,ks',h1,h2,h3,h4,h5⟩,hlen,hp,hl,hk,hm,hf=>by
  subst h1;simp only[WW]at hf;split at hf
  .rename_i id xs;split at hf
   .rename_i e' ys ho;split at hf
    .rename_i dd A g1 g2;injection hf with hf;subst hf;obtain⟨cT,hd⟩:=Wao g1;subst cT;simp only at hd;subst hd;obtain⟨⟨_,hx⟩,_⟩:=(hp 0 _ _ rfl rfl).resolve_left (λe=>by cases e);have ar:Live objs id:=⟨_,ho,by simp⟩;have hown:OwnL w (TyRel G w e') e'.size (ν id) ys (φ id):=h.ob _ _ ho;have hown':=WcK hg (Same.refl _ w) (λ_ _ hh=>hh) hown;obtain⟨k1,k2⟩:=Xaj.1 hk;obtain⟨kf,ms,hO⟩:=WaN hg h ps d.2 vs' n2 ks' xs A h5 (by simpa using hlen) (λj y u hj hu=>hp (j+1) y u (by simpa using hj) (by simpa using hu)) hl k2 hm g2;refine⟨φ id::kf,ms,⟨⟨pc.nu,φ id⟩,ks',kf,h3,rfl,WoB h4 hown' hx,hO.outs⟩,?_,hO.sepm,λS hS=>?_,hO.ms⟩
     .exact WwS h (k1:=[φ id]) (m:=[id]) (Xbm _ _) hO.sepk (λS hS=>by rw[Xac.1 hS];exact FromL.one (by simp) ar) hO.kf (λi hi hj=>k1 (by rw[←Xac.1 hi];exact hj))
     .rcases Xo.1 hS with rfl|hS
      .exact FromL.one (Xi ..) ar
      .exactλb o hh=>FromL.mono (λi hi=>Xf _ hi) b o (hO.kf S hS b o hh)
    .cases hf
   .cases hf
  .cases hf
 | .clos g n::ps,d,vs,ns,ks,xs,B,⟨cvs,vs',h1,h2,h3,h4⟩,hlen,hp,hl,hk,hm,hf=>by
  subst h1;simp only[WW]at hf;split at hf
  .rename_i g' caps xs;split at hf
   .rename_i hc;obtain⟨rfl,hcl⟩:=hc;cases hA:WW ps (WjP caps++xs) objs with
    |none=>simp[hA]at hf
    |some A=>
     simp[hA]at hf;subst hf;obtain⟨⟨us,pS,tj,wy⟩,_⟩:=(hp 0 _ _ rfl rfl).resolve_left (λe=>by cases e);have jm:us=cvs:=by
      injection pS with _ _ pS;have:=congrArg Array.toList pS;simpa using this.symm
     subst jm;obtain⟨kf,ms,hO⟩:=WaN hg h ps d (us++vs') ns ks (WjP caps++xs) A h4 (by simp[WjP,tj];simpa using hlen) (λj y u hj hu=>by
      rw[Xbc]at hj hu;simp only[WjP,List.length_map]at hj;rw[tj]at hu;split at hj
      .rename_i hlt;rw[if_pos hlt]at hu;rw[Xan]at hj;obtain⟨id,bv,rfl⟩:=Xx.1 hj;obtain⟨q1,q3,q2⟩:=wy _ id u bv hu;exact .inr ⟨⟨q1,q2⟩,q3⟩
      .rename_i hlt;rw[if_neg hlt]at hu;exact hp (j-caps.length+1) y u (by simpa using hj) (by simpa using hu)) hl hk hm hA
     exact⟨kf,ms,hO.outs,hO.sepk,hO.sepm,hO.kf,hO.ms⟩
   .cases hf
  .cases hf
 | .kv t agg::ps,d,vs,ns,ks,xs,B,⟨v,vs',n1,n2,ks',h1,h2,iS,h3,h4⟩,hlen,hp,hl,hk,hm,hf=>by
  subst h1;simp only[WW]at hf;split at hf
  .rename_i x xs;split at hf
   .rename_i dd m l A g1 g2;split at hf
    .rename_i ga;injection hf with hf;subst hf;cases hc:cellsOf agg x with
     |none=>simp[hc]at g1
     |some cs=>
      simp[hc]at g1;obtain⟨k1,k2,k3⟩:=Xak.1 hk;have hx:=(hp 0 _ _ rfl rfl).resolve_left (λe=>by subst e;cases hc);have aU:Lent G' w φ objs l:=hl.mono λj hj=>Xk _ hj;obtain⟨_,_,_,_,q4,_⟩:=Wlx h hg hx aU k1 hc g1;obtain⟨v1,_⟩:=WlT h hg hx aU hc g1 ga;obtain⟨us,n3,r1,r2,r3⟩:=WsK h3 v1;obtain⟨kf,ms,hO⟩:=WaN hg h ps d.2 vs' n2 ks' xs A h4 (by simpa using hlen) (λj y u hj hu=>hp (j+1) y u (by simpa using hj) (by simpa using hu)) (hl.mono λj hj=>Xg _ hj) k2 hm g2;have gp:∀S∈fps n3,CS.le S (FromL φ objs m):=λS hS=>by
       rw[r3,Woh]at hS;obtain⟨i,hi,rfl⟩:=Xu.1 hS;exact FromL.one hi (q4 i hi)
      have gs:Sep (fps n3):=by
       rw[r3,Woh];refine List.pairwise_map.2 (k1.imp_of_mem λ{i j} hi hj hne=>?_)
       exactλb o h1 h2=>hne (h.inj i j b o (q4 i hi) (q4 j hj) h1 h2)
      refine⟨fps n3++kf,ms,⟨n3,ks',kf,us,by rw[iS,r2],rfl,r1,hO.outs⟩,WwS h gs hO.sepk gp hO.kf (λi hi hj=>k3 i hi i hj rfl),hO.sepm,λS hS=>?_,hO.ms⟩;rcases Xn.1 hS with hS|hS
      .exactλb o hh=>FromL.mono (λi hi=>Xk _ hi) b o (gp S hS b o hh)
      .exactλb o hh=>FromL.mono (λi hi=>Xg _ hi) b o (hO.kf S hS b o hh)
    .cases hf
   .cases hf
  .cases hf
end
end Go.Sx
namespace Go.Sx
set_option linter.unusedVariables false
set_option linter.unusedSimpArgs false
section
variable{P:Program}{T:Tab}{Γ:Ctx}
theorem Wtj{sg:Sig}{d:Wfp sg.ps}{G:GH}{w:World}{vs:List Value}{ns:List Pc}{ks:List Nu}{n:Nat}(hn:WbH sg.ps<=n)(eV:Wcj sg.ps=true)(hargs:Wbg G w sg.ps d vs ns ks)(hsep:Sep (fps ns))
  (hfree:∀q∈ns,∀b off,q.fp b off->G b off=none/\b<w.heap.size) (hg:∀b o v,G b o=some v->w.cell? ⟨b,o,none⟩=some v):
  ∃ν,Rel w (Of ns) ⟨n,Wy sg.ps 0 0 vs⟩ G G ν {env:=WgY 0 (WH sg.ps d [] 0).1,objs:=(WH sg.ps d [] 0).2.1,nx:=(WH sg.ps d [] 0).2.2}
   {tmps:=vs.toArray++Xed (n-vs.toArray.size) undef,defers:=[]} w:=by
 obtain⟨ν,hν⟩:∃ν:Nat->Nu,ν= λi=>((nus ns)[i]?).getD ⟨none,0,0,0,0⟩:=⟨_,rfl⟩;obtain⟨φ,hφ⟩:∃φ:Nat->CS,φ= λi=>((fps ns)[i]?).getD (λ_ _=>False):=⟨_,rfl⟩;have hAt:At ν φ 0 ns:=λj pc hj=>by
  have e1:(nus ns)[j]?=some pc.nu:=by unfold nus;rw[Xan,hj];rfl
  have e2:(fps ns)[j]?=some pc.fp:=by unfold fps;rw[Xan,hj];rfl
  rw[hν,hφ];simp only[Xbb,e1,e2];exact⟨rfl,rfl⟩
 obtain⟨h1,h2,h3,h4⟩:=Wch (ν:=ν) (φ:=φ) sg.ps d vs ns ks [] 0 (0+ns.length) eV hargs hAt (Xm _);have sT:=Wc5 _ _ _ _ _ hargs;have cw:∀id,Live (WH sg.ps d [] 0).2.1 id->id<ns.length:=λid ⟨ob,ho,_⟩=>by
  rcases h2 id ob ho with⟨_,h,_⟩|h
  .simpa using h
  .cases h
 have aK:∀id b o,φ id b o->∃q,ns[id]?=some q/\(fps ns)[id]?=some q.fp/\q.fp b o:=λid b o hp=>by
  rw[hφ]at hp
  try simp only at hp
  cases hq:ns[id]? with
  |none=>
   have:(fps ns)[id]?=none:=by unfold fps;rw[Xan,hq];rfl
   rw[this]at hp;exact hp.elim
  |some q=>
   have:(fps ns)[id]?=some q.fp:=by unfold fps;rw[Xan,hq];rfl
   rw[this]at hp;exact⟨q,rfl,this,hp⟩
 have wz:∀(i:Nat) (v:Value),vs[i]?=some v->(vs.toArray++Xed (n-vs.toArray.size) undef)[i]?=some v:=λi v hi=>by
  have hlt:=(Xs.1 hi).1;rw[Array.getElem?_append_left (by simpa using hlt)];simpa using hi
 refine⟨ν,rfl,by simp;omega,λp hp=>?_,λi x hx=>?_,⟨φ,?_⟩,λ_ _ _ hh=>hh,λ_ _ _ hh=>.inl hh⟩
 .obtain⟨_,g2⟩:=WG _ _ _ _ p hp;exact wz _ _ (by simpa using g2)
 .simp only at hx;rw[Whk]at hx;simp only[Xbq,if_true,Xdc]at hx;have hlt:=(Xs.1 hx).1;rw[h3]at hlt;have hv:=Xp hlt;refine⟨_,wz i _ hv,?_⟩;have:=h4 i x _ hx hv;simp only[h1];exact this
 .exact{
   g:=hg
   ob:=λid ob ho=>by
    rcases h2 id ob ho with⟨_,_,h⟩|h
    .simp only[h1];exact h
    .cases h
   gf:=λid b o hl hp=>by
    obtain⟨q,g1,_,g2⟩:=aK id b o hp;exact(hfree q (Xaw g1) b o g2).1
   inj:=λid bG b o hl cM hp c8=>by
    obtain⟨q,_,g1,g2⟩:=aK id b o hp;obtain⟨q',_,yA,yB⟩:=aK bG b o c8;exact Wlh hsep g1 yA g2 yB
   own:=λid b o hl hp=>by
    obtain⟨q,g1,_,g2⟩:=aK id b o hp;exact .inr ⟨q,Xaw g1,g2⟩
   lt:=λid hl=>by simp only[h1];have:=cw id hl;omega
   bl:=λid b o hl hp=>by
    obtain⟨q,g1,_,g2⟩:=aK id b o hp;exact(hfree q (Xaw g1) b o g2).2
   le:=WLe.refl _ w}
theorem WsH(hT:Wai P T){f:Func}{sg:Sig}{d:Wfp sg.ps}{G:GH}{w:World}{vs:List Value}{ns:List Pc}{ks:List Nu}{n:Nat}(eV:Wcj sg.ps=true)(hargs:Wbg G w sg.ps d vs ns ks)
  {st:St} {a:Act} {w':World} {G1:GH} {ν:Nat->Nu} (hr:Rel w (Of ns) ⟨n,Wy sg.ps 0 0 vs⟩ G G1 ν st a w') {xs:List AVal} (hx:Weo T st f.results.toList=some xs)
  {A:Outs (WgM sg.rs)} (hA:WaY sg.rs xs st.objs=some A) {B:OutK (WfW sg.ps)} (hB:WW sg.ps (Wp sg.ps 0 0 st) st.objs=some B)
  (aR:Wbm (B.kept++(B.moved++A.moved))=true) (ly:WgP (A.lent++B.lent) (B.kept++(B.moved++A.moved))=true):
  ∃rv kf ms cy G',(results f a.tmps).run P w'= .ok (WiO rv) w'/\After sg (B.d,A.d) G w ns ks rv kf ms cy G' w':=by
 have aR:=(WeT _).1 aR;have ly:=Wni ly;obtain⟨φ,hφ⟩:=hr.h;have ux:=hφ.addG_le (A.lent++B.lent);have tm:=hφ.addG_w (A.lent++B.lent);have mA:Lent (WqJ G1 w' (FromL φ st.objs (A.lent++B.lent))) w' φ st.objs (A.lent++B.lent):=λid bv hl=>(WiY _).mono (FromL.one bv hl);obtain⟨k1,k2,k3⟩:=Xak.1 aR;obtain⟨k4,k5,k6⟩:=Xak.1 k2;obtain⟨rv,uy,uz,uA⟩:=WkK hT hr _ xs hx;obtain⟨cy,q1,q2,q3,q4⟩:=WdO hφ ux sg.rs xs rv A uz uA (mA.mono λi hi=>Xk _ hi) k5 hA;obtain⟨hsl,cN⟩:=WaD hr sg.ps d vs ns ks 0 0 hargs eV (by cases sg.ps<;>rfl) (Xbq _) (by simpa using hr.par);obtain⟨kf,ms,hO⟩:=WaN ux hφ sg.ps d vs ns ks _ B hargs hsl (λj x v hj hv=>cN j x v hj (by simpa using hv)) (mA.mono λi hi=>Xg _ hi) k1 k4 hB;have fq:∀S∈kf++fps (ms++cy),CS.le S (FromL φ st.objs (B.kept++(B.moved++A.moved))):=λS hS=>by
  rcases Xn.1 hS with hS|hS
  .exactλb o hh=>FromL.mono (λi hi=>Xk _ hi) b o (hO.kf S hS b o hh)
  .obtain⟨q,hq,rfl⟩:=Xu.1 hS;rcases Xn.1 hq with hq|hq
   .exactλb o hh=>FromL.mono (λi hi=>Xg _ (Xk _ hi)) b o (hO.ms q hq b o hh)
   .exactλb o hh=>FromL.mono (λi hi=>Xg _ (Xg _ hi)) b o (q3 q hq b o hh)
 refine⟨rv,kf,ms,cy,WqJ G1 w' (FromL φ st.objs (A.lent++B.lent)),?_,?_⟩
 .show(do let vs←f.results.mapM (Wl4 a.tmps);pure (if h:vs.size=1 then vs[0]else .tuple vs):Sem Value).run P w'=_;have iX:(f.results.mapM (Wl4 a.tmps)).run P w'= .ok rv.toArray w':=by
   rw[Array.mapM_eq_mapM_toList,Sem.run_map,uy];rfl
  rw[Sem.run_bind,iX];simp only[Result.andThen_ok,Sem.run_pure];congr 1;unfold WiO
  match rv with
  | []=>rfl
  | [v]=>rfl
  |u::v::l=>simp
 .exact{
   res:=q1
   outs:=hO.outs
   sep:=by
    refine WwS hφ hO.sepk (Wcd hφ hO.sepm q2 hO.ms q3 (λi hi hj=>k6 i hi i hj rfl)) hO.kf (l:=B.moved++A.moved) (λS hS=>?_) (λi hi hj=>k3 i hi i hj rfl);obtain⟨q,hq,rfl⟩:=Xu.1 hS;rcases Xn.1 hq with hq|hq
    .exactλb o hh=>FromL.mono (λi hi=>Xk _ hi) b o (hO.ms q hq b o hh)
    .exactλb o hh=>FromL.mono (λi hi=>Xg _ hi) b o (q3 q hq b o hh)
   own:=λS hS b off hh=>by
    obtain⟨i,hi,h1,h2⟩:=fq S hS b off hh;refine⟨?_,(hφ.own i b off h1 h2).symm,hφ.bl i b off h1 h2⟩;rw[Wda (λ⟨j,hj,h3,h4⟩=>by
     have:=hφ.inj i j b off h1 h3 h2 h4;subst this;exact ly _ hj hi)]
    exact hφ.gf i b off h1 h2
   gx:=by
    refine⟨λb o v hv=>ux b o v (hr.gx.le b o v hv),λb off v hv=>?_⟩;by_cases hb:FromL φ st.objs (A.lent++B.lent) b off
    .obtain⟨j,hj,h1,h2⟩:=hb;exact .inr (hφ.own j b off h1 h2)
    .rw[Wda hb]at hv;exact hr.gx.new b off v hv
   g:=tm
   le:=hφ.le}
theorem WvI(hM:P.follows .mixedOrders=true)(hT:Wai P T)(hΓ:Wfe P Γ){f:Func}{k:FuncId}{c:Code}(hf:P.funcs[k]?=some f)(hb:f.body=some c){sg:Sig}(aM:Wdn f.ntmps (Wd4 sg.ps 0 0) c=true)(eV:Wcj sg.ps=true)
  (hn:WbH sg.ps<=f.ntmps) {ann:Nat->List Ghost} (h:∀d o,sg.run d=some o->∃N,den T Γ ann N sg f d some=some o):Good P k sg:=by
 intro d o hrun G w vs ns ks hargs hsep hfree hg;obtain⟨N,gS⟩:=h d o hrun;unfold den at gS;simp only[hb]at gS;obtain⟨ν,uB⟩:=Wtj hn eV hargs hsep hfree hg;split at gS
 case h_2=>cases gS
 rename_i c' b st0 gG yC;injection gG with gG;subst gG;obtain⟨rfl,gS⟩:=WaJ gS;obtain⟨G0',ν0',hr⟩:=Wdq _ _ _ _ _ uB yC;refine calls_of_wp hf hb ?_
 suffices hk:∀e,WqV w (Of ns) ⟨f.ntmps,Wy sg.ps 0 0 vs⟩ G (Ww2 T sg f.results.toList some e) o (bodyPost P f (λe w'=>∃rv kf ms cy G',e= .returned (WiO rv)/\After sg o G w ns ks rv kf ms cy G' w') e.to)from
  Wog (nt:=⟨f.ntmps,Wy sg.ps 0 0 vs⟩) hM hT hΓ (n:=f.ntmps) rfl (WN sg.ps 0 0 vs) c aM hk _ _ _ _ _ hr gS
 intro e st a w' G1 ν1 lC hk;have ge:(∃xs,Weo T st f.results.toList=some xs/\∃A B,WaY sg.rs xs st.objs=some A/\WW sg.ps (Wp sg.ps 0 0 st) st.objs=some B/\Wbm (B.kept++(B.moved++A.moved))=true/\WgP (A.lent++B.lent) (B.kept++(B.moved++A.moved))=true/\(B.d,A.d)=o)->
   a.defers= []/\∃v,(results f a.tmps).run P w'= .ok v w'/\∃rv kf ms cy G',Ending.returned v= .returned (WiO rv)/\After sg o G w ns ks rv kf ms cy G' w':=by
  rintro⟨xs,hx,A,B,hA,hB,h1,h2,rfl⟩;obtain⟨rv,kf,ms,cy,G',h3,h4⟩:=WsH hT (f:=f) eV hargs lC hx hA hB h1 h2;exact⟨lC.defers,_,h3,rv,kf,ms,cy,G',rfl,h4⟩
 have ny:(match Weo T st f.results.toList with
   |some xs=>match WaY sg.rs xs st.objs,WW sg.ps (Wp sg.ps 0 0 st) st.objs with
    |some A,some B=>if Wbm (B.kept++(B.moved++A.moved))&&WgP (A.lent++B.lent) (B.kept++(B.moved++A.moved))then some (B.d,A.d)else none
    |_,_=>none
   |none=>none)=some o->(∃xs,Weo T st f.results.toList=some xs/\∃A B,WaY sg.rs xs st.objs=some A/\WW sg.ps (Wp sg.ps 0 0 st) st.objs=some B/\Wbm (B.kept++(B.moved++A.moved))=true/\WgP (A.lent++B.lent) (B.kept++(B.moved++A.moved))=true/\(B.d,A.d)=o):=λhk=>by
  split at hk
  .rename_i xs hx;split at hk
   .rename_i A B hA hB;obtain⟨hc,hk⟩:=WbF hk;simp only[Xh]at hc;injection hk with hk;exact⟨xs,hx,A,B,hA,hB,hc.1,hc.2,hk⟩
   .cases hk
  .cases hk
 cases e with
 |normal=>exact ge (ny hk)
 |ret=>exact ge (ny hk)
 |exit id=>cases hk
end
end Go.Sx
namespace Go.Sx
set_option linter.unusedVariables false
set_option linter.unusedSimpArgs false
def zv1:Value->Value->Bool
 | .int k n,.int k' n'=>decide (k=k')&&decide (n=n')
 | .bool b,.bool b'=>b==b'
 | .string s,.string s'=>match s.data.toList,s'.data.toList with
  | [],[]=>true
  |_,_=>false
 | .slice none 0 0,.slice none 0 0=>true
 | .pointer none,.pointer none=>true
 |_,_=>false
theorem WtN(x y:Value)(h:zv1 x y=true):x=y:=by
 unfold zv1 at h;split at h
 .simp only[Xh,decide_eq_true_eq]at h;obtain⟨rfl,rfl⟩:=h;rfl
 .have:=eq_of_beq h;subst this;rfl
 .rename_i s s';split at h
  .rename_i e1 e2;have:s=s':=by
    cases s with|mk a=>cases s' with|mk b=>
    congr 1;apply Array.ext';simp only at e1 e2;rw[e1,e2]
   rw[this]
  .cases h
 .rfl
 .rfl
 .cases h
def WwJ:List Value->List Value->Bool
 | [],[]=>true
 |x::l,y::m=>zv1 x y&&WwJ l m
 |_,_=>false
theorem WmL:∀(l m:List Value),WwJ l m=true->l=m
 | [],[],_=>rfl
 | [],_::_,h=>by cases h
 |_::_,[],h=>by cases h
 |x::l,y::m,h=>by
  simp only[WwJ,Xh]at h;rw[WtN x y h.1,WmL l m h.2]
def Wgt:List Field->List (Nat×TypeId)->Bool
 | [],[]=>true
 |f::l,p::m=>Xbv f.offset p.1&&Xbv f.type p.2&&(f.name != "_")&&Wgt l m
 |_,_=>false
def WsS(P:Program)(T:Tab)(t:TypeId)(te:TE):Bool:=match te.shape with
 | .basic=>!te.agg&&(match te.ty with
  | .int k=>match P.underlying t with|some (.int k')=>decide (k'=k)|_=>false
  | .bool=>match P.underlying t with|some .bool=>true|_=>false
  | .str=>match P.underlying t with|some .string=>true|_=>false
  |_=>false)
 | .slice e=>!te.agg&&(match P.underlying t with|some (.slice e')=>Xbv e' e|_=>false)&&(match look T e with|some dr=>decide (te.ty= .slice dr.ty)|none=>false)
 | .struct fs=>te.agg&&(match P.underlying t with|some (.struct fields)=>Wgt fields.toList fs|_=>false)&& !P.stoodInHeld t&& !P.eqGuardType P.depth t
 | .ptr e=>!te.agg&&(match P.underlying t with|some (.pointer e')=>Xbv e' e|_=>false)
 | .arr n e=>te.agg&&(match P.underlying t with|some (.array n' e')=>Xbv n' n&&Xbv e' e|_=>false)&&(match look T e with|some dr=>decide (dr.ty=te.ty)&&dr.plain|none=>false)
def WnG(P:Program)(t:TypeId)(te:TE):Bool:=match P.info? t with
 |some i=>match i.zero with
  |some z=>Xbv i.size te.size&&WwJ z.cells.toList te.cells&&Nat.ble i.bytes 4096
  |none=>false
 |none=>false
def Wmj(P:Program)(T:Tab):Tab->Bool
 | []=>true
 |(t,te)::l=>WsS P T t te&&WnG P t te&&Wmj P T l
theorem Wfj:∀(l:List Field) (m:List (Nat×TypeId)),Wgt l m=true→l.map (λf=>(f.offset,f.type))=m∧∀f∈l,f.name≠ "_"
 | [],[],_=>⟨rfl,by simp⟩
 | [],_::_,h=>by cases h
 |_::_,[],h=>by cases h
 |f::l,p::m,h=>by
  simp only[Wgt,Xh,bne_iff_ne,ne_eq]at h;obtain⟨⟨⟨h1,h2⟩,h3⟩,h4⟩:=h;obtain⟨h5,h6⟩:=Wfj l m h4;have h1:f.offset=p.1:=by simpa using h1
  have h2:f.type=p.2:=by simpa using h2
  refine⟨by rw[Xai,h5,h1,h2],λg hg=>?_⟩;rcases Xo.1 hg with hg|hg
  .subst hg;exact h3
  .exact h6 g hg
theorem Wot{P:Program}{T:Tab}{t:TypeId}{te:TE}(h:WsS P T t te=true)(hi:WnG P t te=true):TEok P T t te:=by
 obtain⟨ty,agg,shape⟩:=te;refine⟨?_,?_⟩
 .unfold WsS at h;cases shape with
  |basic=>
   simp only[Xh,Xao]at h⊢;refine⟨h.1,?_⟩;have h:=h.2;cases ty with
   |int k=>
    simp only at h⊢;split at h
    .rename_i k' hu;simp only[decide_eq_true_eq]at h;rw[hu,h]
    .cases h
   |bool=>
    simp only at h⊢;split at h
    .assumption
    .cases h
   |str=>
    simp only at h⊢;split at h
    .assumption
    .cases h
   |slice e=>cases h
   |own e=>cases h
   |prod a b=>cases h
  |slice e=>
   simp only[Xh,Xao]at h⊢;obtain⟨⟨h1,h2⟩,h3⟩:=h;refine⟨h1,?_,?_⟩
   .split at h2
    .rename_i e' hu;rw[hu];have:e'=e:=by simpa using h2
     rw[this]
    .cases h2
   .split at h3
    .rename_i dr hl;exact⟨dr,hl,by simpa using h3⟩
    .cases h3
  |struct fs=>
   simp only[Xh,Xao]at h⊢;obtain⟨⟨⟨h1,h2⟩,h3⟩,h4⟩:=h;refine⟨h1,?_⟩;split at h2
   .rename_i fields hu;obtain⟨h5,h6⟩:=Wfj _ _ h2;exact⟨fields,hu,h5,λf hf=>h6 f (by simpa using hf),h3,h4⟩
   .cases h2
  |ptr e=>
   simp only[Xh,Xao]at h⊢;refine⟨h.1,?_⟩;have h:=h.2;split at h
   .rename_i e' hu;rw[hu];have:e'=e:=by simpa using h
    rw[this]
   .cases h
  |arr n e=>
   simp only[Xh]at h⊢;obtain⟨⟨h1,h2⟩,h3⟩:=h;refine⟨h1,?_,?_⟩
   .split at h2
    .rename_i n' e' hu;simp only[Xh]at h2;have e1:n'=n:=by simpa using h2.1
     have e2:e'=e:=by simpa using h2.2
     rw[hu,e1,e2]
    .cases h2
   .split at h3
    .rename_i dr hl;simp only[Xh,decide_eq_true_eq]at h3;refine⟨dr,hl,h3.1,λm f hs=>?_⟩;have:=h3.2;unfold TE.plain at this;rw[hs]at this;cases this
    .cases h3
 .unfold WnG at hi;split at hi
  .rename_i i jr;split at hi
   .rename_i z hz;simp only[Xh]at hi;obtain⟨⟨h1,h2⟩,h3⟩:=hi;exact⟨i,z,jr,by simpa using h1,hz,WmL _ _ h2,Xgg h3⟩
   .cases hi
  .cases hi
theorem WwG{P:Program}{T:Tab}(h:Wmj P T T=true):Wai P T:=by
 have key:∀l,Wmj P T l=true->∀t te,look l t=some te->TEok P T t te:=by
  intro l
  induction l with
  |nil=>intro _ t te hl;cases hl
  |cons p l ih=>
   intro hc t te hl;obtain⟨t',dr⟩:=p;simp only[Wmj,Xh]at hc;rw[Wx]at hl;split at hl
   .rename_i e;subst e;injection hl with hl;subst hl;exact Wot hc.1.1 hc.1.2
   .exact ih hc.2 t te hl
 exact key T h
theorem Wa{P:Program}:Wfe P []:=λk sg h=>by cases h
theorem Wtk{P:Program}{Γ:Ctx}{k:FuncId}{sg:Sig}(hg:Good P k sg)(hc:Wga P k)(h:Wfe P Γ):Wfe P ((k,sg)::Γ):=λk' yD hl=>by
 simp only[look]at hl;split at hl
 .rename_i e;have:k=k':=by simpa using e
  subst this;injection hl with hl;subst hl;exact⟨hg,hc⟩
 .exact h k' yD hl
def Wp7(f:Func):Bool:=f.body.isSome&& !(f.name== "runtime.NumGoroutine")
theorem Wdz{P:Program}{k:FuncId}{f:Func}(hf:P.funcs[k]?=some f)(h:Wp7 f=true):Wga P k:=by
 simp only[Wp7,Xh,Xao]at h;refine⟨f,hf,?_,h.2⟩;cases hb:f.body with
 |none=>rw[hb]at h;cases h.1
 |some c=>rfl
def WnU(f:Func)(ps:List PTy):Bool:=match f.body with
 |some c=>Wdn f.ntmps (Wd4 ps 0 0) c&&Nat.ble (WbH ps) f.ntmps&&Wcj ps
 |none=>false
theorem Wr6{P:Program}{T:Tab}{Γ:Ctx}(hM:P.follows .mixedOrders=true)(hT:Wai P T)(hΓ:Wfe P Γ){f:Func}{k:FuncId}(hf:P.funcs[k]?=some f){sg:Sig}(aM:WnU f sg.ps=true){ann:Nat->List Ghost}
  (h:∀d o,sg.run d=some o->∃N,den T Γ ann N sg f d some=some o):Good P k sg:=by
 unfold WnU at aM;split at aM
 .rename_i c hb;simp only[Xh]at aM;exact WvI hM hT hΓ hf hb aM.1.1 aM.2 (Xgg aM.1.2) h
 .cases aM
end Go.Sx
namespace Go.Sx
def WfN:Code->List Code
 | .seq a b=>WfN a++WfN b
 | .cond _ a b=>WfN a++WfN b
 | .block _ c=>WfN c
 | .loop c=>c::WfN c
 |_=>[]
def WqL(f:Func):Code:=match f.body with
 |some c=>c
 |none=>.skip
def WqU(f:Func)(i:Nat):Code:=(WfN (WqL f)).getD i .skip
noncomputable def Wvl{R:Type}(T:Tab)(Γ:Ctx)(ann:Nat->List Ghost)(N:Nat):Code->List Nat->(Ex->St->Option R)->Ex->St->Option R
 | .seq a b,p,k=>match p with
  |0::p=>Wvl T Γ ann N a p λe af=>match e with
   | .normal=>sx T Γ ann N b af k
   | .exit id=>k (.exit id) af
   | .ret=>k .ret af
  |_::p=>Wvl T Γ ann N b p k
  | []=>k
 | .cond _ x y,p,k=>match p with
  |0::p=>Wvl T Γ ann N x p k
  |_::p=>Wvl T Γ ann N y p k
  | []=>k
 | .block id c,p,k=>match p with
  |_::p=>Wvl T Γ ann N c p λe af=>match e with
   | .exit bG=>if bG=id then k .normal af else k (.exit bG) af
   | .normal=>k .normal af
   | .ret=>k .ret af
  | []=>k
 |_,_,k=>k
def WwX{R:Type}(gs:List Ghost)(L:St->(Ex->St->Option R)->Option R)(K:Ex->St->Option R):Ex->St->Option R:=λe st=>match e with
 | .normal=>match Wd2 gs st with
  |some (c,af)=>bif c then L af K else none
  |none=>none
 | .exit id=>K (.exit id) st
 | .ret=>K .ret st
abbrev vI(x:Int):AVal:=.s (.one (.val (.int .i64) x))
abbrev vB(x:Bool):AVal:=.s (.one (.val .bool x))
abbrev vV(t:Ty)(x:t.den):AVal:=.s (.one (.val t x))
abbrev vO(i:Nat):AVal:=.s (.one (.own i))
abbrev vP(i o:Nat):AVal:=.s (.one (.ptr i o))
abbrev Qs(s:Sig):=WfW s.ps×WgM s.rs
structure Fn where
 F:Func
 a:Nat->List Ghost
 s:Nat->Sig
 c:Nat->Ctx
def Wz:Nat->List Ghost:=λ_=>[]
def Wa5:Nat->Ctx:=λ_=>[]
noncomputable def lpM{R:Type}(T:Tab)(Γ:Ctx)(ann:Nat->List Ghost)(N:Nat)(F:Func)(i k n:Nat)(st:St)(K:Ex->St->Option R):Option R:=Wn5 (Wke (ann k) λst k=>sx T Γ ann N (WqU F i) st k) n st K
noncomputable def cxF(T:Tab)(Γ:Ctx)(ann:Nat->List Ghost)(N:Nat)(sg:Sig)(F:Func)(p:List Nat):Ex->St->Option (Qs sg):=Wvl (R:=Qs sg) T Γ ann N (WqL F) p (Ww2 T sg F.results.toList some)
noncomputable def cxL{R:Type}(T:Tab)(Γ:Ctx)(ann:Nat->List Ghost)(N:Nat)(F:Func)(i k:Nat)(p:List Nat)(n:Nat)(K:Ex->St->Option R):Ex->St->Option R:=Wvl T Γ ann N (WqU F i) p (WwX (ann k) (lpM T Γ ann N F i k n) K)
end Go.Sx
namespace Go.Sx
open Go.ChangeShapes Go.WideShapes Go.ChangeAt Go.RowKit
set_option linter.unusedVariables false
set_option linter.unusedSimpArgs false
def Wfd:(t:Ty)->t.den->Prop
 | .int k,n=>(Lit.int k n).wf=true
 | .bool,_=>True
 | .str,s=>Xa s<=maxLen
 | .slice e,l=>Xa l<=maxLen/\∀x,List.Mem x l->Wfd e x
 | .own _,_=>False
 | .prod a b,d=>Wfd a d.1/\Wfd b d.2
def Wgb:(t:Ty)->t.den->Nat
 | .int _,_=>1
 | .bool,_=>1
 | .str,s=>Xa s+1
 | .slice e,l=>(List.map (Wgb e) l).sum+1
 | .own _,_=>0
 | .prod a b,d=>Wgb a d.1+Wgb b d.2
structure Bulk{H:Type}(β:DataW H->Nat):Prop where
 lit:∀l,1<=β (.lit l)
 str:∀s,s.length+1<=β (.lit (.string s))
 nil:1<=β .nil
 slice:∀es sp,(es.map β).sum+1<=β (.slice es sp)
 agg:∀ps,(ps.map β).sum<=β (.agg ps)
def WjI(T:Tab):List (Nat×TypeId)->Nat->Option (List Ty)
 | [],_=>some []
 |(o,ft)::fs,off=>match look T ft with
  |some te=>bif Xbv o off&&te.plain then(WjI T fs (off+te.ty.size)).map (te.ty:: ·)else none
  |none=>none
def Wd6:List Ty->Ty
 | []=>.bool
 | [t]=>t
 |t::ts=>.prod t (Wd6 ts)
def Woe(T:Tab):Nat->TypeId->Bool
 |0,_=>false
 |n+1,t=>match look T t with
  |some te=>match te.shape with
   | .basic=>match te.ty with
    | .int _=>true
    | .bool=>true
    | .str=>true
    | .slice _=>false
    | .own _=>false
    | .prod _ _=>false
   | .slice e=>Woe T n e&&(match look T e with|some dr=>dr.plain|none=>false)
   | .struct fs=>fs.all (λf=>Woe T n f.2)&&(match WjI T fs 0 with
    |some (t::ts)=>decide (te.ty=Wd6 (t::ts))
    |_=>false)
   | .ptr _=>false
   | .arr _ _=>false
  |none=>false
section
variable{P:Program}{T:Tab}{H:Type}{enc:TypeId×Value->H}{β:DataW H->Nat}{w:World}
theorem WgZ{t:TypeId}{te:TE}(h:TEok P T t te):P.cellsOf t=te.size:=by
 obtain⟨i,z,hi,hs,_⟩:=h.info;unfold Program.cellsOf;rw[hi];exact hs
def Wif(w:World):GH:=λb o=>w.cell? ⟨b,o,none⟩
theorem WsZ{b:Nat}{a:Addr}{n:Nat}{cs:List Value}(h:w.cells? b a n=some cs):cs.length=n/\∀(j:Nat) (v:Value),cs[j]?=some v->w.cell? (a.add j)=some v:=by
 unfold World.cells? at h;split at h
 .refine⟨by simpa using mapM_some_length h,λj v hj=>?_⟩;have hlt:j<n:=by
   have:=mapM_some_length h;have h2:=(Xs.1 hj).1;simp at this;omega
  have:=mapM_some_get h j j (by simp[hlt]);rw[this];exact hj
 .cases h
theorem Wo0{e:Ty}{a:Addr}(n:Nat)(hn:0<n):∀(k:Nat) (i0:Nat) (el:Nat->Option (DataW H×List MemPlace)) (f:List Value->Option (DataW H×List MemPlace)),
  (∀cs y,f cs=some y->∃d:e.den,Enc (Wif w) e d cs/\Wfd e d/\Wgb e d<=β y.1)->
  (∀i,i0<=i->i<i0+k->∃y cs,w.cells? 0 (a.add (i*n)) n=some cs/\f cs=some y/\el i=some y)->
  ∃(l:List e.den) (cs:List Value),l.length=k/\EncL (Enc (Wif w) e) l cs/\(∀x∈l,Wfd e x)/\(∀(j:Nat) (v:Value),cs[j]?=some v->w.cell? (a.add (i0*n+j))=some v)/\
   cs.length=k*n/\(l.map (Wgb e)).sum<=((Xdk k).map λi=>match el (i0+i)with|some y=>β y.1|none=>0).sum
 |0,i0,el,f,hf,he=>⟨[],[],rfl,rfl,by simp,by simp,by simp,by simp⟩
 |k+1,i0,el,f,hf,he=>by
  obtain⟨y,c1,h1,h2,h3⟩:=he i0 (Xm _) (by omega);obtain⟨d,yE,lA,hd3⟩:=hf _ _ h2;obtain⟨l,cs,g1,g2,g3,g4,g5,g6⟩:=Wo0 n hn k (i0+1) el f hf (λi lI lJ=>he i (by omega) (by omega));obtain⟨hl,hg⟩:=WsZ h1;refine⟨d::l,c1++cs,by simp[g1],⟨c1,cs,rfl,yE,g2⟩,λx hx=>?_,λj v hj=>?_,?_,?_⟩
  .rcases Xo.1 hx with rfl|hx
   .exact lA
   .exact g3 x hx
  .rw[Xbc]at hj;split at hj
   .have:=hg j v hj;rw[Addr.add_add]at this;exact this
   .rename_i hlt;have:=g4 _ v hj;rw[hl]at this hlt;have e:(i0+1)*n+(j-n)=i0*n+j:=by rw[Xcz];omega
    rw[e]at this;exact this
  .rw[Xz,hl,g5,Xcz];omega
  .rw[List.range_succ_eq_map,Xai,Xai,Xce,Xce,Xei];simp only[Xaz,h3];have:((λi=>match el (i0+i)with|some y=>β y.1|none=>0)∘Nat.succ)= λi=>match el (i0+1+i)with|some y=>β y.1|none=>0:=by
    funext i;simp only[Function.comp,Nat.succ_eq_add_one];rw[show i0+(i+1)=i0+1+i by omega]
   rw[this];omega
theorem Wu9{β':DataW H×List MemPlace->Nat}(xs:List (DataW H×List MemPlace)):((Xdk xs.length).map λi=>match xs[0+i]? with|some y=>β' y|none=>0).sum=(xs.map β').sum:=by
 congr 1;apply List.ext_getElem
 .simp
 .intro i h1 h2;simp at h1;simp[h1]
theorem Wok{t:Ty}{ts:List Ty}(h:ts≠ []):Wd6 (t::ts)= .prod t (Wd6 ts):=by
 cases ts with
 |nil=>exact absurd rfl h
 |cons _ _=>rfl
theorem Wj0(hT:Wai P T)(hβ:Bulk β)(f:TypeId->List Value->Option (DataW H×List MemPlace)){cs:List Value}:∀(fs:List (Nat×TypeId)) (off:Nat) (ts:List Ty) (ys:List (DataW H×List MemPlace)),ts≠ []->WjI T fs off=some ts->
  (∀fd∈fs,∀te cs y,look T fd.2=some te->f fd.2 cs=some y->∃d:te.ty.den,Enc (Wif w) te.ty d cs/\Wfd te.ty d/\Wgb te.ty d<=β y.1)->
  ys.length=fs.length->(∀(i:Nat) (fd:Nat×TypeId),fs[i]?=some fd->f fd.2 ((cs.drop fd.1).take (P.cellsOf fd.2))=ys[i]?)->cs.length=off+(Wd6 ts).size->
  ∃d:(Wd6 ts).den,Enc (Wif w) (Wd6 ts) d (cs.drop off)/\Wfd (Wd6 ts) d/\Wgb (Wd6 ts) d<=(ys.map λy=>β y.1).sum
 | [],off,ts,ys,hne,iB,_,_,_,_=>by injection iB with iB;exact absurd iB.symm hne
 |(o,ft)::fs,off,ts,ys,hne,iB,hf,hlen,wA,bm=>by
  cases ys with
  |nil=>simp at hlen
  |cons y ys=>
   simp only[WjI]at iB;split at iB
   .rename_i te hl;obtain⟨hc,iB⟩:=WaJ iB;simp only[Xh]at hc;have ho:o=off:=by simpa using hc.1
    obtain⟨wB,dZ,rfl⟩:=Xx.1 iB;have hsz:P.cellsOf ft=te.ty.size:=by rw[WgZ (hT _ _ hl),WV hc.2]
    have h0:=wA 0 (o,ft) rfl;simp only[Xds,hsz,ho]at h0;obtain⟨d1,e1,e2,e3⟩:=hf (o,ft) (Xi ..) te _ y hl h0;cases db:fs with
    |nil=>
     subst db;simp only[WjI]at dZ;injection dZ with dZ;subst dZ;have uC:ys= []:=by cases ys with
      |nil=>rfl
      |cons _ _=>simp at hlen
     subst uC;have gR:(cs.drop off).take te.ty.size=cs.drop off:=Xdb (by rw[List.length_drop,bm];simp[Wd6]);rw[gR]at e1;exact⟨d1,e1,e2,by rw[Xai,Xcj,Xce,List.sum_nil,Xaz];exact e3⟩
    |cons g gs=>
     have rn:wB≠ []:=by
      rw[db]at dZ;obtain⟨o2,ft2⟩:=g;simp only[WjI]at dZ;split at dZ
      .obtain⟨_,dZ⟩:=WaJ dZ;obtain⟨x,_,rfl⟩:=Xx.1 dZ;simp
      .cases dZ
     have wC:=Wok (t:=te.ty) rn;obtain⟨d2,f1,f2,f3⟩:=Wj0 hT hβ f (cs:=cs) fs (off+te.ty.size) wB ys rn dZ (λfd fA=>hf fd (Xf _ fA)) (by simpa using hlen)
      (λi fd hi=>by have:=wA (i+1) fd (by simpa using hi);simpa using this) (by rw[bm,wC,Ty.size];omega)
     rw[wC];refine⟨(d1,d2),⟨_,_,?_,e1,f1⟩,⟨e2,f2⟩,?_⟩
     .rw[←List.drop_drop];exact(List.take_append_drop _ _).symm
     .simp only[Wgb,Xai,Xce];omega
   .cases iB
theorem Wkj(hT:Wai P T)(hβ:Bulk β):∀(n fuel:Nat) (t:TypeId) (te:TE) (cs:List Value) (x:DataW H×List MemPlace),Woe T n t=true->look T t=some te->
  DataW.trod enc P w 0 (λ_=>true) true fuel t cs=some x->∃d:te.ty.den,Enc (Wif w) te.ty d cs/\Wfd te.ty d/\Wgb te.ty d<=β x.1
 |0,_,_,_,_,_,h,_,_=>by cases h
 |n+1,fuel,t,te,cs,x,h,hl,hx=>by
  have bw:=hT _ _ hl;simp only[Woe,hl]at h;obtain⟨ty,agg,shape⟩:=te;cases shape with
  |basic=>
   have hu:=bw.und.2;cases ty with
   |int k=>
    obtain⟨m,rfl,rfl,hw⟩:=DataW.trod_int hu hx;exact⟨m,rfl,hw,hβ.lit _⟩
   |bool=>
    obtain⟨b,rfl,rfl⟩:=DataW.trod_bool hu hx;exact⟨b,rfl,trivial,hβ.lit _⟩
   |str=>
    obtain⟨s,rfl,rfl,hs⟩:=DataW.trod_string hu hx;refine⟨s.data.toList,by simp[Enc],?_,hβ.str _⟩;show s.data.toList.length<=maxLen;rw[Array.length_toList];exact hs
   |slice e=>cases h
   |own e=>cases h
   |prod a b=>cases h
  |slice e=>
   simp only[Xh]at h;obtain⟨ha,hu,dr,hle,gm⟩:=bw.und;simp only at gm;subst gm;have hp:dr.plain=true:=by have:=h.2;rw[hle]at this;exact this
   have hsz:P.cellsOf e=dr.ty.size:=by rw[WgZ (hT _ _ hle),WV hp]
   rcases DataW.trod_slice hu hx with⟨rfl,rfl⟩|⟨a,len,cap,elems,rest,m,rfl,rfl,rfl,hb,yF,lr,uD,hel,jl,_⟩
   .exact⟨([]:List dr.ty.den),⟨_,rfl,.inl ⟨rfl,rfl⟩⟩,⟨by simp,λx hx=>by cases hx⟩,by simpa [Wgb]using hβ.nil⟩
   .have key:=Wo0 (w:=w) (β:=β) (e:=dr.ty) (a:=a) dr.ty.size (Wbr _) len 0 (λi=>elems[i]?) (λcs=>DataW.trod enc P w 0 (λ_=>true) true m e cs)
     (λcs y hy=>Wkj hT hβ n m e dr cs y h.1 hle hy) (λi _ hi=>by
      rw[Xbb]at hi;have:=hel i hi;rw[hsz]at this;have hlt:i<elems.length:=by omega
      rw[Xp hlt]at this;obtain⟨cs,h1,h2⟩:=Xbz.1 this;exact⟨elems[i],cs,h1,h2,Xp hlt⟩)
    obtain⟨l,cs,g1,g2,g3,g4,g5,g6⟩:=key;refine⟨l,⟨_,rfl,?_⟩,⟨by rw[g1];omega,g3⟩,?_⟩
    .by_cases h0:len=0
     .subst h0;exact .inr (.inr ⟨a,cap,rfl,Xy g1⟩)
     .have ng:0<cs.length:=by rw[g5];exact Nat.mul_pos (by omega) (Wbr _)
      have rq:=g4 0 _ (Xp ng);have rr:a.spot=none:=by
       rw[Xex,Xaz]at rq;have:=World.cell?_spot rq;simpa [Addr.add]using this
      obtain⟨b,off,spot⟩:=a;subst rr;refine .inr (.inl ⟨b,off,cap,cs,by rw[g1],by rw[g1];exact yF,lr,g2,λj v hj=>?_⟩);have:=g4 j v hj;rw[Xex,Xbb,WaU]at this;exact this
    .have h1:=hβ.slice (elems.map (·.1)) (rest.map (·.1));have h2:((Xdk len).map λi=>match elems[0+i]? with|some y=>β y.1|none=>0).sum=(elems.map λy=>β y.1).sum:=by
      rw[←uD];exact Wu9 elems
     rw[h2]at g6;rw[Xei]at h1;simp only[Wgb];have h3:(List.map (β∘λx=>x.1) elems)=elems.map λy=>β y.1:=rfl;rw[h3]at h1;show(List.map (Wgb dr.ty) l).sum+1<=_;omega
  |struct fs=>
   simp only[Xh]at h;obtain⟨ha,fields,hu,db,wD,_⟩:=bw.und;have h2:=h.2;split at h2
   .rename_i t1 ts lK;have gm:ty=Wd6 (t1::ts):=of_decide_eq_true h2;subst gm;obtain⟨xs,m,rfl,rfl,hcl,iT,nq⟩:=DataW.trod_struct hu hx;have hsz:P.cellsOf t=(Wd6 (t1::ts)).size:=by rw[WgZ bw];rfl
    have key:=Wj0 (w:=w) (P:=P) hT hβ (λt cs=>DataW.trod enc P w 0 (λ_=>true) true m t cs) (cs:=cs) fs 0 (t1::ts) xs (by simp) lK
     (λfd fA te cs y ww hy=>Wkj hT hβ n m fd.2 te cs y (Xae.1 h.1 fd fA) ww hy) (by rw[iT,←db];simp)
     (λi fd hi=>by
      rw[←db]at hi;rw[Xan]at hi;obtain⟨fl,fO,he⟩:=Xx.1 hi;subst he;exact nq i fl (by simpa using fO)) (by rw[hcl,hsz,Xbb])
    obtain⟨d,g1,g2,g3⟩:=key;rw[Xca]at g1;refine⟨d,g1,g2,Xct g3 ?_⟩;have:=hβ.agg (xs.map (·.1));rw[Xei]at this;exact this
   .cases h2
  |ptr e=>cases h
  |arr m e=>cases h
theorem Weu{G:GH}{w:World}:∀(t:Ty) (d:t.den) (vs:List Value),Enc G t d vs->TyRel G w t d vs []
 | .int _,_,_,h=>⟨rfl,h⟩
 | .bool,_,_,h=>⟨rfl,h⟩
 | .str,_,_,h=>⟨rfl,h⟩
 | .slice _,_,_,h=>⟨rfl,h⟩
 | .own _,_,_,h=>h.elim
 | .prod a b,d,vs,⟨c1,c2,he,h1,h2⟩=>⟨c1,c2,[],[],he,rfl,Weu a _ _ h1,Weu b _ _ h2⟩
def Wpe:(ps:List PTy)->Wfp ps->Prop
 | [],_=>True
 | .v t _::ps,d=>Wfd t d.1/\Wpe ps d.2
 | .box _::_,_=>False
 | .mut _::_,_=>False
 | .clos _ _::_,_=>False
 | .kv _ _::_,_=>False
 | .rp _::_,_=>False
 | .vj _::_,_=>False
 | .boxal _ _::_,_=>False
def Wgo:(ps:List PTy)->Wfp ps->Nat
 | [],_=>0
 | .v t _::ps,d=>Wgb t d.1+Wgo ps d.2
 | .box _::_,_=>0
 | .mut _::_,_=>0
 | .clos _ _::_,_=>0
 | .kv _ _::_,_=>0
 | .rp _::_,_=>0
 | .vj _::_,_=>0
 | .boxal _ _::_,_=>0
def Wv4(P:Program)(T:Tab):List TypeId->List PTy->Bool
 | [],[]=>true
 |t::ts,p::ps=>(match p with
  | .v ty agg=>(match look T t with|some te=>decide (te.ty=ty)&&(te.agg==agg)|none=>false)&&Woe T 20 t&&P.readableRec t&&Nat.blt t P.types.size&&Wv4 P T ts ps
  | .box _=>false
  | .mut _=>false
  | .clos _ _=>false
  | .kv _ _=>false
  | .rp _=>false
  | .vj _=>false
  | .boxal _ _=>false)
 |_,_=>false
theorem WlX(hT:Wai P T)(hβ:Bulk β):∀(ts:List TypeId) (ps:List PTy) (vs:List Value) (ds:List (DataW H)) (pl:List MemPlace),Wv4 P T ts ps=true->DataW.TrodAll enc P w 0 (λ_=>true) true ts vs ds pl->
  (∀(j:Nat) (t:TypeId) (v:Value),ts[j]?=some t->vs[j]?=some v->∃base,Value.okWide P w .any base t v)->
  ∃d:Wfp ps,Wbg (Wif w) w ps d vs [] []/\Wpe ps d/\Wgo ps d<=(ds.map β).sum
 | [],[],vs,ds,pl,_,h,_=>by
  obtain⟨rfl,rfl,_⟩:=trodAll_nil h;exact⟨(),⟨rfl,rfl,rfl⟩,trivial,by simp[Wgo]⟩
 | [],_::_,_,_,_,h,_,_=>by cases h
 |_::_,[],_,_,_,h,_,_=>by cases h
 |t::ts,.box _::ps,_,_,_,h,_,_=>by cases h
 |t::ts,.mut _::ps,_,_,_,h,_,_=>by cases h
 |t::ts,.clos _ _::ps,_,_,_,h,_,_=>by cases h
 |t::ts,.kv _ _::ps,_,_,_,h,_,_=>by cases h
 |t::ts,.rp _::ps,_,_,_,h,_,_=>by cases h
 |t::ts,.vj _::ps,_,_,_,h,_,_=>by cases h
 |t::ts,.boxal _ _::ps,_,_,_,h,_,_=>by cases h
 |t::ts,.v ty agg::ps,vs,ds,pl,hp,h,fV=>by
  obtain⟨v,vs',d,rt,p,q,rfl,rfl,rfl,h0,hr⟩:=trodAll_cons h;simp only[Wv4,Xh]at hp;obtain⟨⟨⟨⟨h1,h2⟩,h3⟩,h4⟩,h5⟩:=hp;split at h1
  .rename_i te hl;simp only[Xh]at h1;have e1:te.ty=ty:=of_decide_eq_true h1.1;have e2:te.agg=agg:=eq_of_beq h1.2;subst e1 e2;obtain⟨fuel,hx⟩:=h0;obtain⟨x,ce,nH,d6⟩:=Wkj hT hβ 20 fuel t te _ (d,p) h2 hl hx;obtain⟨base,aM⟩:=fV 0 t v rfl rfl;obtain⟨dd,g1,g2,g3⟩:=WlX hT hβ ts ps vs' rt q h5 hr (λj t v hj hv=>fV (j+1) t v (by simpa using hj) (by simpa using hv));refine⟨(x,dd),⟨v,vs',[],[],rfl,rfl,?_,g1⟩,⟨nH,g2⟩,?_⟩
   .have hu:=(hT _ _ hl).und;unfold Wi9;obtain⟨ty,ag,shape⟩:=te;simp only at ce nH d6⊢;have dX:∀u:Value,u.cells= #[u]->u=v->v.cells.toList= [v]:=λu h e=>by rw[←e,h]
    cases shape with
    |basic=>
     obtain⟨ha,hu⟩:=hu;simp only at ha;subst ha;simp only[Xam,if_false];have:v.cells.toList= [v]:=by
      cases ty with
      |int k=>obtain⟨n,rfl⟩:=okWide_int hu aM;rfl
      |bool=>obtain⟨n,rfl⟩:=okWide_bool hu aM;rfl
      |str=>obtain⟨n,rfl⟩:=okWide_string hu aM;rfl
      |slice e=>cases hu
      |own e=>cases hu
      |prod a b=>cases hu
     rw[this]at ce;exact Weu _ _ _ ce
    |slice e=>
     obtain⟨ha,hu,_⟩:=hu;simp only at ha;subst ha;simp only[Xam,if_false];obtain⟨a,l,c,rfl⟩:=okWide_slice hu aM;exact Weu _ _ _ ce
    |struct fs=>
     obtain⟨ha,fields,hu,_⟩:=hu;simp only at ha;subst ha;simp only[if_true];obtain⟨cs,rfl,_⟩:=okWide_struct hu aM;exact⟨cs.toList,by simp,Weu _ _ _ ce⟩
    |ptr e=>simp only[Woe,hl]at h2;cases h2
    |arr m e=>simp only[Woe,hl]at h2;cases h2
   .have d6:Wgb te.ty x<=β d:=d6;simp only[Wgo,Xai,Xce];omega
  .cases h1
theorem Wl3:∀(ts:List TypeId) (vs:List Value) (ds:List (DataW H)) (pl:List MemPlace),DataW.TrodAll enc P w 0 (λ_=>true) true ts vs ds pl->ds.length=ts.length
 | [],vs,ds,pl,h=>by obtain⟨_,rfl,_⟩:=trodAll_nil h;rfl
 |t::ts,vs,ds,pl,h=>by
  obtain⟨v,vs',d,rt,p,q,rfl,rfl,rfl,h0,hr⟩:=trodAll_cons h;simp[Wl3 ts vs' rt q hr]
theorem WlL(iG:laidOutB P=true){W W':World}(hb:Below W.heap.size W W'){sp:Nat->Bool}:∀(ts:List TypeId) (ps:List PTy) (vs:List Value) (ds:List (DataW H)) (pl:List MemPlace),Wv4 P T ts ps=true->
  DataW.TrodAll enc P W 0 (λ_=>true) true ts vs ds pl->(∀p∈pl,p.block<W.heap.size)->(∀p∈pl,sp p.block=true)->DataW.TrodAll enc P W' 0 sp true ts vs ds pl
 | [],ps,vs,ds,pl,_,h,_,_=>by
  obtain⟨rfl,rfl,rfl⟩:=trodAll_nil h;exact trodAll_mk0
 |t::ts,[],_,_,_,h,_,_,_=>by cases h
 |t::ts,.box _::ps,_,_,_,h,_,_,_=>by cases h
 |t::ts,.mut _::ps,_,_,_,h,_,_,_=>by cases h
 |t::ts,.clos _ _::ps,_,_,_,h,_,_,_=>by cases h
 |t::ts,.kv _ _::ps,_,_,_,h,_,_,_=>by cases h
 |t::ts,.rp _::ps,_,_,_,h,_,_,_=>by cases h
 |t::ts,.vj _::ps,_,_,_,h,_,_,_=>by cases h
 |t::ts,.boxal _ _::ps,_,_,_,h,_,_,_=>by cases h
 |t::ts,.v ty agg::ps,vs,ds,pl,hp,h,hlt,jl=>by
  obtain⟨v,vs',d,rt,p,q,rfl,rfl,rfl,h0,hr⟩:=trodAll_cons h;simp only[Wv4,Xh]at hp;obtain⟨⟨⟨⟨h1,h2⟩,h3⟩,h4⟩,h5⟩:=hp;have hrow:t<P.types.size:=by rw[Xhe]at h4;exact h4
  exact⟨p,q,WideElems.Trod_stays iG h3 hrow h0 (λx hx=>hb.same (hlt x (Xk _ hx))) (λx hx=>jl x (Xk _ hx)),
   WlL iG hb ts ps vs' rt q h5 hr (λx hx=>hlt x (Xg _ hx)) (λx hx=>jl x (Xg _ hx)),rfl⟩
theorem Wta{f:Func}{s:ChangeSpec}{apart fresh fE again:Bool}{W W':World}{args:Array Value}{v:Value}{ds gs:List (DataW H)}{before pa pv:List MemPlace}
  (hW:DataW.Whole enc P f.params.toList s.vars apart W args.toList ds gs before)
  (gL:∀(b:Nat) (sp:Nat->Bool) (hd:Bool),DataW.TrodAll enc P W' b sp hd f.resultTypes.toList (v.resultList f.resultTypes.size) (s.fn H (ds++gs)).results [])
  (hargs:∀sp:Nat->Bool,(∀p∈before,sp p.block=true)->DataW.TrodAll enc P W' 0 sp true f.params.toList args.toList (s.fn H (ds++gs)).args pa)
  (mB:∀sp:Nat->Bool,(∀p∈before,sp p.block=true)->DataW.TrodVars enc P W' sp s.vars (s.fn H (ds++gs)).vars pv)
  (bN:before=pa++pv) (hk:W.keptBut W' (· ∈before)) (wE:∀a,a.block<W.heap.size->W'.frozen? a=W.frozen? a)
  (aM:∀(j:Nat) (t:TypeId) (r:Value),f.resultTypes[j]?=some t->(v.resultList f.resultTypes.size)[j]?=some r->Value.okWide P W' .any 0 t r):
  s.post enc P f apart fresh fE again W args v W':=by
 have fY:∀p∈before,(λb=>decide (b<W.heap.size)) p.block=true:=λp hp=>by simpa using hW.lt p hp
 refine⟨ds,gs,before,[],pa,pv,hW,gL _ _ _,hargs _ fY,mB _ fY,World.keptBut_mono (λp hp=>⟨hp,?_⟩) hk,λ_=>?_⟩
 .rw[bN,Xn]at hp;exact Or.inr hp
 .have hlt:=hW.lt;obtain⟨_,_,_,_,_,hz,hn⟩:=hW;refine⟨aM,_,_,([]++pa)++pv,⟨[]++pa,pv,trodAll_append (hargs _ (λ_ _=>rfl)) (gL _ _ _),mB _ (λ_ _=>rfl),rfl,?_,?_⟩,?_⟩
  .intro b off hp;have c8:MemPlace.cell b off∈before:=by rw[bN];simpa using hp
   rw[wE ⟨b,off,none⟩ (hlt _ c8)];exact hz b off c8
  .intro ha;have:=hn ha;rw[bN]at this;simpa using this
  .intro p hp _;rw[bN];simpa using hp
theorem law_row(hT:Wai P T)(iG:laidOutB P=true){f:Func}{k:FuncId}{s:ChangeSpec}(cN:s.vars= [])(hs:∀ds:List (DataW H),ds.length=f.params.toList.length->s.fn H ds={results:=[.lit (.bool true)],args:=ds})
  {ps:List PTy} (bN:Wv4 P T f.params.toList ps=true) {tb:TypeId} (gL:f.resultTypes= #[tb]) (wF:P.underlying tb=some .bool) {run:Nat->Wfp ps->Option (WfW ps×WgM [.v .bool false])}
  (kb:∀N,Good P k (Sig.of ps [.v .bool false] (run N))) (hβ:Bulk β) {ok:List (DataW H)->Prop} {M:Nat->Prop} (ru:∀ds m,ok ds->m<=(ds.map β).sum->M m)
  (uE:∀d:Wfp ps,Wpe ps d->M (Wgo ps d)->∃N o,run N d=some (o,(true,()))) {apart fresh fE again:Bool}
  (W:World) (base:Nat) (args:Array Value) (ds gs:List (DataW H)) (before:List MemPlace)
  (fV:∀(j:Nat) t v,f.params[j]?=some t->args[j]?=some v->Value.okWide P W .any base t v)
  (hW:DataW.Whole enc P f.params.toList s.vars apart W args.toList ds gs before) (hk:ok ds):
  Calls P k args W λe W'=>∃v,e= .returned v/\s.post enc P f apart fresh fE again W args v W':=by
 have hW':=hW;have hlt:=hW.lt;obtain⟨p,q,hA,hV,wG,wE,aR⟩:=hW;rw[cN]at hV;obtain⟨uF,hq⟩:=trodVars_none hV;subst uF hq;rw[Xcn]at wG;subst wG;obtain⟨d,h1,h2,h3⟩:=WlX (w:=W) hT hβ f.params.toList ps args.toList ds before bN hA (λj t v hj hv=>⟨base,fV j t v (by simpa using hj) (by simpa using hv)⟩);obtain⟨N,o,ho⟩:=uE d h2 (ru ds _ hk h3);have hc:=kb N d (o,(true,())) ho (Wif W) W args.toList [] [] h1 List.Pairwise.nil (by simp) (λb o v hv=>hv);have hargs:args.toList.toArray=args:=by simp
 rw[hargs]at hc;refine hc.mono λe W' ⟨rv,kf,ms,cy,G',he,ha⟩=>?_;have hb:Below W.heap.size W W':=⟨ha.le.os,ha.le.tape,ha.le.output,ha.le.size,λb hb=>ha.le.whole b hb (λo ⟨q,hq,_⟩=>by simp at hq)⟩;obtain⟨v,vs',n1,n2,e1,e2,e3,e4⟩:=ha.res;obtain⟨e5,_⟩:=e4;subst e5;have hv:v= .bool true:=by
  unfold Wi9 at e3;simp only[Xam,if_false]at e3;have:=e3.2;simpa [Enc]using this
 subst hv;have kR:WiO rv= .bool true:=by rw[e1];rfl
 rw[kR]at he;refine⟨.bool true,he,?_⟩;have hlen:=Wl3 _ _ _ _ hA;have uG:=hs (ds++ []) (by rw[Xcn];exact hlen);refine Wta (pa:=before) (pv:=[]) hW' ?_ ?_ ?_ (by simp) (hb.frame _) (λa ha=>hb.frozen ha) (ok_one gL rfl (okWide_bool_mk wF _))
 .intro b sp hd;rw[uG,gL];exact trodAll_cons_mk (shut_bool wF _) trodAll_mk0
 .intro sp jl;rw[uG,Xcn];exact WlL iG hb _ _ _ _ _ bN hA hlt jl
 .intro sp jl;rw[uG,cN];rfl
end
end Go.Sx
namespace Go.Sx
set_option linter.unusedVariables false
def sortInts(xs:List Int):List Int:=xs.mergeSort λx y=>decide (x<=y)
def Zps(N:Nat)(xs:List Int):Option ((List Int×Unit)×Unit):=bif decide (xs.length<4611686018427387904)then some ((sortInts xs,()),())else none
theorem sortInt_some{N:Nat}{xs:List Int}{o:(List Int×Unit)×Unit}(h:Zps N xs=some o):xs.length<4611686018427387904/\o=((sortInts xs,()),()):=by
 unfold Zps at h;by_cases h':xs.length<4611686018427387904
 .rw[show decide (xs.length<4611686018427387904)=true by simpa using h']at h;simp only[cond_true]at h;injection h with h;exact⟨h',h.symm⟩
 .rw[show decide (xs.length<4611686018427387904)=false by simpa using h']at h;cases h
end Go.Sx
namespace Go.Sx
set_option linter.unusedVariables false
def Wks{α:Type}(r:α->α->Bool):List α->Bool
 | []=>true
 |x::l=>l.all (r x)&&Wks r l
def lessBy{α:Type}(cf:α->α->Int)(x y:α):Bool:=decide (cf x y<0)
def apart{α:Type}(cf:α->α->Int)(x y:α):Bool:=lessBy cf x y||lessBy cf y x
def sortBy{α:Type}(cf:α->α->Int)(xs:List α):List α:=xs.mergeSort λx y=>!lessBy cf y x
def Zmq{α:Type}(rng:α->Bool)(cf:α->α->Int)(N:Nat)(xs:List α):Option ((List α×Unit)×Unit):=
 bif xs.all rng&&(Wks (apart cf) xs&&decide (xs.length<4611686018427387904))then some ((sortBy cf xs,()),())else none
structure SwoOn{α:Type}(rng:α->Bool)(cf:α->α->Int):Prop where
 irr:∀x,rng x=true->¬cf x x<0
 tr:∀x y z,rng x=true->rng y=true->rng z=true->cf x y<0->cf y z<0->cf x z<0
 nt:∀x y z,rng x=true->rng y=true->rng z=true->¬cf x y<0->¬cf y z<0->¬cf x z<0
theorem sortBy_some{α:Type}{rng:α->Bool}{cf:α->α->Int}{N:Nat}{xs:List α}{o:(List α×Unit)×Unit}(h:Zmq rng cf N xs=some o):
  (∀x∈xs,rng x=true)/\Wks (apart cf) xs=true/\xs.length<4611686018427387904/\o=((sortBy cf xs,()),()):=by
 unfold Zmq at h;cases hb:xs.all rng&&(Wks (apart cf) xs&&decide (xs.length<4611686018427387904))
 .rw[hb]at h;cases h
 .rw[hb]at h;simp only[cond_true]at h;injection h with h;simp only[Xh,decide_eq_true_eq]at hb;exact⟨Xae.1 hb.1,hb.2.1,hb.2.2,h.symm⟩
theorem pairs_get{α:Type}{r:α->α->Bool}:∀{l:List α},Wks r l=true->∀(i j:Nat) (hi:i<l.length) (hj:j<l.length),i<j->r l[i] l[j]=true
 | [],_,i,_,hi,_,_=>by simp at hi
 |x::l,h,0,j+1,hi,hj,hij=>by
  simp only[Wks,Xh]at h;exact Xae.1 h.1 _ (List.getElem_mem _)
 |x::l,h,i+1,j+1,hi,hj,hij=>by
  simp only[Wks,Xh]at h;simpa using pairs_get h.2 i j (by simpa using hi) (by simpa using hj) (by omega)
def WuF(k:Int):Bool:=decide (-1000000000<=k)&&decide (k<=1000000000)
def WwE(a:Int×Int×Int):Bool:=WuF a.1
def cfE(a b:Int×Int×Int):Int:=a.1-b.1
def WvH(a:Int×Int×Int):Bool:=WuF a.1&&WuF a.2.1
def cfH(a b:Int×Int×Int):Int:=bif a.2.1==b.2.1 then a.1-b.1 else a.2.1-b.2.1
theorem Wg2{k:Int}(h:WuF k=true):-1000000000<=k/\k<=1000000000:=by unfold WuF at h;simpa using h
theorem Wxe:SwoOn WwE cfE:=⟨λx _=>by unfold cfE;omega,λx y z _ _ _=>by unfold cfE;omega,λx y z _ _ _=>by unfold cfE;omega⟩
theorem Wbv{a b:Int×Int×Int}:cfH a b<0↔(a.2.1<b.2.1\/(a.2.1=b.2.1/\a.1<b.1)):=by
 unfold cfH;by_cases h:a.2.1=b.2.1
 .have:(a.2.1==b.2.1)=true:=by simpa using h
  rw[this];simp only[cond_true];omega
 .have:(a.2.1==b.2.1)=false:=by simpa using h
  rw[this];simp only[cond_false];omega
theorem Wwr{a b:Int×Int×Int}(h:(a.2.1 !=b.2.1)=false):a.1-b.1=cfH a b:=by
 have h:a.2.1=b.2.1:=bne_eq_false_iff_eq.1 h;unfold cfH;rw[beq_iff_eq.2 h];rfl
theorem WwD{a b:Int×Int×Int}(h:(a.2.1 !=b.2.1)=true):a.2.1-b.2.1=cfH a b:=by
 have h:a.2.1≠b.2.1:=bne_iff_ne.1 h;unfold cfH;rw[beq_eq_false_iff_ne.2 h];rfl
theorem Wxj:SwoOn WvH cfH:=⟨λx _=>by rw[Wbv];omega,λx y z _ _ _=>by rw[Wbv,Wbv,Wbv];omega,λx y z _ _ _=>by rw[Wbv,Wbv,Wbv];omega⟩
end Go.Sx
