/- The abstract machine, part 3: a reflective interpreter of the program's code over data, with its soundness over the model. -/
import Derived.Test.YtajmpbmmfponlaaGreatEng2
open Option renaming bind_assoc→Xfu,map→Xes,bind_some→Xc,getD_some→Xfx,bind_eq_some_iff→Xbn,map_eq_some_iff→Xs
open Bool renaming not_true→Xaj,and_eq_true→Xh,not_eq_true'→Xai,false_eq_true→Xbv,or_eq_true→Xcc
open List renaming mem_map→Xt,mem_cons_of_mem→Xe,mem_append_left→Xi,mem_append_right→Xf,mem_cons→Xm,mem_cons_self→Xg,length_append→Xw,getD_eq_getElem?_getD→Xbg,getElem?_append→Xao,getElem?_cons_zero→Xdc,getElem?_eq_none→Xbh,all_eq_true→Xaf,append_of_mem→Xdq,mem_append→Xk,range→Xcv,mem_filter→Xat,mem_range→Xds,filter_cons→Xbm,eq_nil_of_length_eq_zero→Xx,eq_nil_iff_forall_not_mem→Xee,nodup_nil→Xcz,mem_of_getElem?→Xan,nodup_cons→Xz,nil_append→Xbj,cons_append→Xbd,length_filter_le→Xdw,length_range→Xeo,mem_flatMap→Xez,map_cons→Xag,map_map→Xed,map_congr_left→Xeg,append_nil→Xcj,nodup_append→Xaa,filter_append→Xcp,prefix_append→Xfr,map_append→Xo,map_nil→Xca,mem_erase_of_ne→Xfn,length_erase_of_mem→Xev,length_pos_of_mem→Xfe,length_cons→Xq,getElem?_cons_succ→Xdd,getElem?_eq_some_iff→Xn,getElem?_append_right→Xaq,getElem?_tail→Xbw,mapM_cons→Xej,pairwise_singleton→Xbi,mem_singleton→Xab,take_of_length_le→Xcn,getElem?_eq_getElem→Xr,drop_zero→Xav,tail_cons→Xdt,getElem?_map→Xah,length→Xb,sum_cons→Xck
open Nat renaming sub_self→Xco,blt_eq→Xgd,le_refl→Xj,zero_add→Xbe,zero_le→Xbq,sub_zero→Xdr,beq→Xam,le_trans→Xaz,add_zero→Xap,add_sub_cancel_left→Xaw,le_of_ble_eq_true→Xfi,add_mul→Xci,zero_mul→Xeb
open Array renaming getD_eq_getD_getElem?→Xcd,getElem?_setIfInBounds→Xei,getElem?_eq_getElem→Xcw,getElem?_eq_some_iff→Xcs,replicate→Xdp
namespace Go.Sx
set_option linter.unusedVariables false
set_option linter.unusedSimpArgs false
abbrev Out:=AVal×WP×Nat
def WbP(x:AVal)(objs:WP)(nx:Nat):Option Out:=some (x,objs,nx)
section
variable{T:Tab}{Γ:Ctx}{A:List (Nat×An)}
theorem Wan{α β:Type}{c:Prop}[Decidable c]{x:Option α}{f:α->Option β}:(if c then x else none).bind f=if c then x.bind f else none:=by split<;>rfl
theorem Wbl{α β:Type}{c:Bool}{x:Option α}{f:α->Option β}:(bif c then x else none).bind f=bif c then x.bind f else none:=by cases c<;>rfl
theorem WdQ{R:Type}(sg:Sig)(st:St)(xs:List AVal)(k:KV R):Wdy sg st xs k=(Wdy sg st xs WbP).bind λp=>k p.1 p.2.1 p.2.2:=by
 unfold Wdy;split
 .split
  .rw[sg.law,sg.law,Xfu];rfl
  .rfl
 .rfl
theorem WlF{R:Type}(sg:Sig)(st:St)(xs:List AVal)(k:KV R):WiG sg st xs k=(WiG sg st xs WbP).bind λp=>k p.1 p.2.1 p.2.2:=by
 unfold WiG;cases sg.fresh with
 |true=>exact WdQ _ _ _ _
 |false=>
  simp only[cond_false];split
  .split
   .exact WdQ _ _ _ _
   .exact WdQ _ _ _ _
  .rfl
theorem Wiw{R:Type}(st:St)(te:Ty)(s x:AVal)(k:KV R):Wda st te s x k=(Wda st te s x WbP).bind λp=>k p.1 p.2.1 p.2.2:=by
 unfold Wda;split
 .split
  .split
   .split
    .rw[Wbl];rfl
    .rfl
   .rfl
  .rfl
 .split
  .split
   .split
    .rw[Wan,Wbl];rfl
    .rfl
   .rfl
  .rfl
 .rfl
theorem Wit{R:Type}(st:St)(e:Ty)(ps:List (Nat×AVal))(k:KV R):Wb8 st e ps k=(Wb8 st e ps WbP).bind λp=>k p.1 p.2.1 p.2.2:=by
 unfold Wb8;split
 .rw[Wan];split
  .split
   .split
    .rw[Wan];rfl
    .rfl
   .rfl
  .rfl
 .rfl
theorem WjZ{R:Type}(st:St)(te:Ty)(id:Nat)(l h:Option Int)(k:KV R):WdF st te id l h k=(WdF st te id l h WbP).bind λp=>k p.1 p.2.1 p.2.2:=by
 unfold WdF;split
 .rw[Wan,Wbl];rfl
 .rfl
theorem WhE{R:Type}(st:St)(t t2:TypeId)(s x:AVal)(k:KV R):Wcs T st t t2 s x k=(Wcs T st t t2 s x WbP).bind λp=>k p.1 p.2.1 p.2.2:=by
 unfold Wcs;split
 .split
  .split
   .cases Wos st s x with
    |false=>exact Wiw _ _ _ _ _
    |true=>
    simp only[Xaj,cond_false];split
    .rw[Wbl];rfl
    .split
     .split
      .rw[Wbl];rfl
      .rfl
     .rfl
    .split
     .split
      .rw[Wbl];rfl
      .rfl
     .rfl
    .rfl
   .rfl
  .rfl
 .rfl
theorem WpS{R:Type}(p:Option (Bool×AVal))(objs:WP)(nx:Nat)(k:KV R):(match p with|some (c,v)=>bif c then k v objs nx else none|none=>none)=(match p with|some (c,v)=>bif c then WbP v objs nx else none|none=>none).bind λp=>k p.1 p.2.1 p.2.2:=by
 rcases p with _|⟨c,v⟩
 .rfl
 .cases c<;>rfl
theorem Wd4{R:Type}(o:Oper)(st:St)(k:KV R):rxe T Γ A o st k=(rxe T Γ A o st WbP).bind λp=>k p.1 p.2.1 p.2.2:=by
 unfold rxe;split
 .split
  .rw[Wan];rfl
  .rw[Wan];rfl
  .rfl
 .split<;>rfl
 .split
  .split
   .split<;>rfl
   .rfl
  .rfl
 .split
  .split
   .split
    .rw[Wan];split
     .exact Wit _ _ _ _
     .rfl
    .split
     .rw[Wan];rfl
     .rfl
   .rfl
  .rfl
 .split
  .split
   .split
    .rw[Wan,Wbl];rfl
    .rw[Wan,Wbl];rfl
   .rfl
  .rfl
 .split
  .split
   .split<;>rfl
   .rfl
  .rfl
 .split
  .split
   .split
    .split
     .rw[Wan];split
      .exact WjZ _ _ _ _ _ _
      .rfl
     .split
      .rw[Wan,Wbl];rfl
      .rw[Wan,Wbl];rfl
      .rfl
    .rfl
   .rfl
  .exact WpS _ _ _ _
 .split
  .split
   .exact WhE _ _ _ _ _ _
   .rfl
  .split
   .split
    .split
     .rw[Wan];rfl
     .rfl
    .rfl
   .rfl
  .exact WpS _ _ _ _
  .split
   .split
    .exact WlF _ _ _ _
    .rfl
   .rfl
  .rfl
 .exact WpS _ _ _ _
end
section
variable{T:Tab}{Γ:Ctx}{A:List (Nat×An)}
theorem Wke{st:St}{env:List (Nat×AVal)}{t:TypeId}{x v:AVal}:WbU T {env:=env,objs:=st.objs,nx:=st.nx} t x v=(WbU T st t x v).map λs=>{env:=env,objs:=s.objs,nx:=s.nx}:=by
 unfold WbU;generalize We T t=q;generalize WeQ v=z;rcases q with _|te
 .rfl
 rcases z with _|ds
 .rcases x with(c|cs)|xs
  .cases c<;>rfl
  .rfl
  .rfl
 rcases x with(c|cs)|xs
 .cases c with
  |ptr id off=>
   show(match We st.objs id with|some (.box cs)=>_|_=>_)=Xes _ (match We st.objs id with|some (.box cs)=>_|_=>_);generalize We st.objs id=ob;rcases ob with _|ob
   .rfl
   cases ob with
   |box cs=>
    show(if _ then _ else _)=Xes _ (if _ then _ else _);split<;>rfl
   |arr e xs=>rfl
   |hole e xs i p=>rfl
   |dead=>rfl
  |eptr id i off=>
   show(match We st.objs id with|some (.arr e xs)=>_|_=>_)=Xes _ (match We st.objs id with|some (.arr e xs)=>_|_=>_);generalize We st.objs id=ob;rcases ob with _|ob
   .rfl
   cases ob with
   |box cs=>rfl
   |hole e xs i p=>rfl
   |dead=>rfl
   |arr e xs=>
    show(if _ then _ else _)=Xes _ (if _ then _ else _);by_cases hc:(decide (te.ty.size=ds.length)&&te.plain&&decide (off+ds.length<=e.size)&&e.data)=true
    .rw[if_pos hc,if_pos hc];generalize W1 e (WcE (split e (List.getD xs i e.dflt)) off ds) st.objs=r;rcases r with _|⟨d,m,l⟩
     .rfl
     .cases m<;>cases l<;>rfl
    .rw[if_neg hc,if_neg hc];by_cases gK:(decide (te.ty.size=ds.length)&&te.plain&&decide (off=0)&&decide (ds.length=e.size))=true
     .rw[if_pos gK,if_pos gK];generalize W1 e ds st.objs=r;rcases r with _|⟨d,m,l⟩
      .rfl
      .cases l with
       |nil=>
        show(if _ then _ else _)=Xes _ (if _ then _ else _);split<;>rfl
       |cons _ _=>rfl
     .rw[if_neg gK,if_neg gK];rfl
  |_=>rfl
 .rfl
 .rfl
theorem Wno{R:Type}(o:Oper){st:St}{env:List (Nat×AVal)}(k:KV R)(he:∀x∈WN o.op,ev {env:=env,objs:=st.objs,nx:=st.nx} x=ev st x):
  rxe T Γ A o {env:=env,objs:=st.objs,nx:=st.nx} k=rxe T Γ A o st k:=by
 have aJ:(∀t x l h m,o.op≠ .slice t x l h m)->WR T {env:=env,objs:=st.objs,nx:=st.nx} o.op=WR T st o.op:=λhm=>Wfh o.op hm he (λ_ _ _ _ _ _ _=>rfl);obtain⟨dst,op,type,pos,after,guard⟩:=o;simp only at he aJ;cases op with
 |alloc t=>rfl
 |box t x=>simp only[rxe,he x (by simp[WN])]
 |build t parts=>simp only[rxe,WbA (st:=st) parts.toList λp hp=>he p.2 (by simp only[WN];exact Xt.2 ⟨p,hp,rfl⟩)]
 |buildSlice t n parts=>
  have e1:∀e ps,Wb8 {env:=env,objs:=st.objs,nx:=st.nx} e ps k=Wb8 st e ps k:=λ_ _=>rfl;simp only[rxe,e1,WbA (st:=st) parts.toList λp hp=>he p.2 (by simp only[WN];exact Xt.2 ⟨p,hp,rfl⟩)]
 |makeSlice t n c=>simp only[rxe,he n (by simp[WN]),he c (by simp[WN])]
 |store t a x=>
  simp only[rxe,he a (by simp[WN]),he x (by simp[WN])];split
  .rename_i p v _ _;have e:=Wke (T:=T) (st:={env:=st.env,objs:=Wcw st.objs (WdN st.objs p v),nx:=st.nx}) (env:=env) (t:=t) (x:=p) (v:=We6 st.objs (WdN st.objs p v) v);simp only at e;rw[e];cases WbU T {env:=st.env,objs:=Wcw st.objs (WdN st.objs p v),nx:=st.nx} t p (We6 st.objs (WdN st.objs p v) v)<;>rfl
  .rfl
 |slice t x lo hi m=>
  have hx:=he x (by simp[WN]);have aA:=WgV (st:=st) (ah:={env:=env,objs:=st.objs,nx:=st.nx}) lo λy hy=>he y (by simp only[WN];exact Xe _ (Xi _ hy));have jt:=WgV (st:=st) (ah:={env:=env,objs:=st.objs,nx:=st.nx}) hi λy hy=>he y (by simp only[WN];exact Xe _ (Xf _ (Xi _ hy)));cases m with
  |none=>
   have hp:WR T {env:=env,objs:=st.objs,nx:=st.nx} (.slice t x lo hi none)=WR T st (.slice t x lo hi none):=by
    simp only[WR,hx];refine Wbb λv _=>?_;simp only[Wij,aA,jt]
   have e1:∀te id l h,WdF {env:=env,objs:=st.objs,nx:=st.nx} te id l h k=WdF st te id l h k:=λ_ _ _ _=>rfl;simp only[rxe,hx,aA,jt,hp,e1]
  |some y=>rfl
 |call c=>
  have hargs:=WiB (st:=st) (ah:={env:=env,objs:=st.objs,nx:=st.nx}) c.args.toList λx hx=>he x (by simp only[WN];exact Xf _ hx);have hp:=aJ (λ_ _ _ _ _ h=>by cases h);simp only[rxe];split
  .rename_i s x t t2 hc ha bQ;have h1:ev {env:=env,objs:=st.objs,nx:=st.nx} s=ev st s:=he s (by simp only[WN];rw[ha];exact Xf _ (by simp));have h2:ev {env:=env,objs:=st.objs,nx:=st.nx} x=ev st x:=he x (by simp only[WN];rw[ha];exact Xf _ (by simp));rw[h1,h2];rfl
  .rename_i x t hc ha bQ;have h1:ev {env:=env,objs:=st.objs,nx:=st.nx} x=ev st x:=he x (by simp only[WN];rw[ha];exact Xf _ (by simp));rw[h1]
  .rw[hp]
  .rename_i f hc;have h1:ev {env:=env,objs:=st.objs,nx:=st.nx} f=ev st f:=he f (by simp only[WN];rw[hc];exact Xi _ (by simp));rw[h1,hargs];rfl
  .rfl
 |move x=>simp only[rxe,aJ (λ_ _ _ _ _ h=>by cases h)]
 |assign x=>simp only[rxe,aJ (λ_ _ _ _ _ h=>by cases h)]
 |pick c a b=>simp only[rxe,aJ (λ_ _ _ _ _ h=>by cases h)]
 |load t a=>simp only[rxe,aJ (λ_ _ _ _ _ h=>by cases h)]
 |nilCheck x=>simp only[rxe,aJ (λ_ _ _ _ _ h=>by cases h)]
 |binOp op t x y z=>simp only[rxe,aJ (λ_ _ _ _ _ h=>by cases h)]
 |unOp op t x=>simp only[rxe,aJ (λ_ _ _ _ _ h=>by cases h)]
 |convert s d x=>simp only[rxe,aJ (λ_ _ _ _ _ h=>by cases h)]
 |fieldAddr s x f=>simp only[rxe,aJ (λ_ _ _ _ _ h=>by cases h)]
 |field t x f=>simp only[rxe,aJ (λ_ _ _ _ _ h=>by cases h)]
 |indexAddr t x i=>simp only[rxe,aJ (λ_ _ _ _ _ h=>by cases h)]
 |index t x i=>simp only[rxe,aJ (λ_ _ _ _ _ h=>by cases h)]
 |extract t ix=>simp only[rxe,aJ (λ_ _ _ _ _ h=>by cases h)]
 |makeFunc f first captured=>simp only[rxe,aJ (λ_ _ _ _ _ h=>by cases h)]
 |_=>rfl
def Wo1(T:Tab)(o:Oper)(st:St):Option AVal:=match o.op with
 | .build t parts=>match We T t,Wbx st parts.toList with
  |some ⟨ty,true,.struct fs⟩,some ps=>
   if fs.all (λf=>match We T f.2 with|some te=>te.plain|none=>false)then
    match Wi8 T fs ps (Wc5 ty)with
    |some cs=>some (.s (.agg cs))
    |none=>none
   else none
  |_,_=>none
 |op=>match WR T st op with
  |some (c,v)=>bif c then some v else none
  |none=>none
theorem Wqz(p:Option (Bool×AVal))(objs:WP)(nx:Nat):(match p with|some (c,v)=>bif c then WbP v objs nx else none|none=>none)=(match p with|some (c,v)=>bif c then some v else none|none=>none).bind λv=>WbP v objs nx:=by
 rcases p with _|⟨c,v⟩
 .rfl
 .cases c<;>rfl
theorem Wjs{o:Oper}(hm:Wai o=false)(st:St):rxe T Γ A o st WbP=(Wo1 T o st).bind λv=>WbP v st.objs st.nx:=by
 obtain⟨dst,op,type,pos,after,guard⟩:=o;cases op with
 |alloc t=>cases hm
 |box t x=>cases hm
 |buildSlice t n parts=>cases hm
 |makeSlice t n c=>cases hm
 |store t a x=>cases hm
 |slice t x lo hi m=>cases hm
 |build t parts=>
  simp only[rxe,Wo1];generalize We T t=q;generalize Wbx st parts.toList=z;rcases q with _|⟨ty,agg,shape⟩
  .rfl
  rcases z with _|ps
  .cases agg<;>cases shape<;>rfl
  cases agg with
  |false=>rfl
  |true=>
   cases shape with
   |struct fs=>
    show(if _ then _ else _)=Option.bind (if _ then _ else _) _;rw[Wan];cases Wi8 T fs ps (Wc5 ty)<;>rfl
   |_=>rfl
 |call c=>
  simp only[rxe,Wo1];split
  .rename_i hc _ _;simp only[Wai,hc]at hm;cases hm
  .rename_i hc _ _;simp only[Wai,hc]at hm;cases hm
  .exact Wqz _ _ _
  .rename_i hc;simp only[Wai,hc]at hm;cases hm
  .rename_i h0 h1 h2 h3;have:WR T st (.call c)=none:=by
    simp only[WR];split
    .rename_i hc _ _;first|exact absurd hc (h0 _)|exact absurd hc (h1 _)|exact absurd hc (h2 _)|exact absurd hc (h3 _)
    .rename_i hc _ _;first|exact absurd hc (h0 _)|exact absurd hc (h1 _)|exact absurd hc (h2 _)|exact absurd hc (h3 _)
    .rename_i hc _ _;first|exact absurd hc (h0 _)|exact absurd hc (h1 _)|exact absurd hc (h2 _)|exact absurd hc (h3 _)
    .rfl
   rw[this];rfl
 |_=>first|rfl|exact Wqz (WR T st _) st.objs st.nx
theorem WlB{o:Oper}(hm:Wai o=false){st ah:St}(he:∀x∈WN o.op,ev ah x=ev st x)(hl:WpO o.op=true->∀x∈WN o.op,∀v,ev st x=some v->WcF st ah v):Wo1 T o ah=Wo1 T o st:=by
 have aJ:(∀t x l h m,o.op≠ .slice t x l h m)->WR T ah o.op=WR T st o.op:=λhm=>Wfh o.op hm he hl;obtain⟨dst,op,type,pos,after,guard⟩:=o;simp only at he aJ;cases op with
 |slice t x lo hi m=>cases hm
 |build t parts=>simp only[Wo1,WbA (st:=st) parts.toList λp hp=>he p.2 (by simp only[WN];exact Xt.2 ⟨p,hp,rfl⟩)]
 |_=>simp only[Wo1,aJ (λ_ _ _ _ _ h=>by cases h)]
theorem WbJ(objs:WP):∀l,∃pre,kill objs l=pre++objs
 | []=>⟨[],rfl⟩
 |i::l=>by
  obtain⟨pre,h⟩:=WbJ objs l;exact⟨(i,.dead)::pre,by simp only[kill,h];rfl⟩
theorem WO:∀(ps:List PTy) (o:Wd1 ps) (ids:List Kp) (objs:WP) (nx:Nat),∃pre,(WS ps o ids objs nx).1=pre++objs
 | [],_,_,objs,_=>⟨[],rfl⟩
 | .v _ _::ps,o,ids,objs,nx=>WO ps o ids objs nx
 | .rp _::ps,o,ids,objs,nx=>WO ps o ids objs nx
 | .box t::ps,o,ids,objs,nx=>by
  cases ids with
  |nil=>exact⟨[],rfl⟩
  |cons k ids=>
   obtain⟨pre,h⟩:=WO ps o.2 ids ((k.id,Wfl (We objs k.id) k.off (unfold t o.1 nx).1)::((unfold t o.1 nx).2.1++objs)) (unfold t o.1 nx).2.2;exact⟨pre++(k.id,Wfl (We objs k.id) k.off (unfold t o.1 nx).1)::(unfold t o.1 nx).2.1,by simp only[WS,h];simp⟩
 | .vj _::ps,o,ids,objs,nx=>WO ps o ids objs nx
 | .boxal t _::ps,o,ids,objs,nx=>by
  cases ids with
  |nil=>exact⟨[],rfl⟩
  |cons k ids=>
   obtain⟨pre,h⟩:=WO ps o.2 ids ((k.id,Wfl (We objs k.id) k.off (unfold t o.1 nx).1)::((unfold t o.1 nx).2.1++objs)) (unfold t o.1 nx).2.2;exact⟨pre++(k.id,Wfl (We objs k.id) k.off (unfold t o.1 nx).1)::(unfold t o.1 nx).2.1,by simp only[WS,h];simp⟩
 | .mut e::ps,o,ids,objs,nx=>by
  cases ids with
  |nil=>exact⟨[],rfl⟩
  |cons k ids=>
   obtain⟨pre,h⟩:=WO ps o.2 ids ((k.id,.arr e o.1)::objs) nx;exact⟨pre++ [(k.id,.arr e o.1)],by simp only[WS,h];simp⟩
 | .clos _ _::ps,o,ids,objs,nx=>WO ps o ids objs nx
 | .kv t _::ps,o,ids,objs,nx=>by
  obtain⟨pre,h⟩:=WO ps o.2 (ids.drop t.owns) (Wbu t o.1 ((ids.take t.owns).map Kp.id)++objs) nx;exact⟨pre++Wbu t o.1 ((ids.take t.owns).map Kp.id),by simp only[WS,h];simp⟩
theorem WZ:∀(rs:List PTy) (d:WeX rs) (objs:WP) (nx:Nat),∃pre,(WaG rs d objs nx).2.1=pre++objs
 | [],_,objs,_=>⟨[],rfl⟩
 | .v t agg::rs,d,objs,nx=>by
  obtain⟨pre,h⟩:=WZ rs d.2 ((unfold t d.1 nx).2.1++objs) (unfold t d.1 nx).2.2;exact⟨pre++(unfold t d.1 nx).2.1,by simp only[WaG,h];simp⟩
 | .box t::rs,d,objs,nx=>by
  obtain⟨pre,h⟩:=WZ rs d.2 ((nx,.box (unfold t d.1 (nx+1)).1)::((unfold t d.1 (nx+1)).2.1++objs)) (unfold t d.1 (nx+1)).2.2;exact⟨pre++(nx,.box (unfold t d.1 (nx+1)).1)::(unfold t d.1 (nx+1)).2.1,by simp only[WaG,h];simp⟩
 | .mut _::rs,d,objs,nx=>WZ rs d objs nx
 | .clos _ _::rs,d,objs,nx=>WZ rs d objs nx
 | .kv _ _::rs,d,objs,nx=>WZ rs d objs nx
 | .rp _::rs,d,objs,nx=>WZ rs d objs nx
 | .vj t::rs,d,objs,nx=>by
  obtain⟨pre,h⟩:=WZ rs d.2 ((unfold t d.1 nx).2.1++objs) (unfold t d.1 nx).2.2;exact⟨pre++(unfold t d.1 nx).2.1,by simp only[WaG,h];simp⟩
 | .boxal _ _::rs,d,objs,nx=>WZ rs d objs nx
def Suf(objs:WP)(r:Option Out):Prop:=∀x objs' nx,r=some (x,objs',nx)->∃pre,objs'=pre++objs
theorem Suf.none{objs:WP}:Suf objs none:=λ_ _ _ h=>by cases h
theorem Suf.out{objs pre:WP}{x:AVal}{nx:Nat}:Suf objs (WbP x (pre++objs) nx):=λ_ _ _ h=>by
 injection h with h;have:=congrArg (λp:Out=>p.2.1) h;exact⟨pre,this.symm⟩
theorem Suf.ite{objs:WP}{c:Prop}[Decidable c]{r:Option Out}(h:Suf objs r):Suf objs (if c then r else Option.none):=by split;exact h;exact .none
theorem Suf.bif{objs:WP}{c:Bool}{r:Option Out}(h:Suf objs r):Suf objs (bif c then r else Option.none):=by cases c;exact .none;exact h
theorem WgD{st ac:St}{t:TypeId}{x v:AVal}(h:WbU T st t x v=some ac):∃pre,ac.objs=pre++st.objs:=by
 unfold WbU at h;split at h
 .split at h
  .split at h
   .injection h with h;subst h;exact⟨[_],rfl⟩
   .cases h
  .cases h
 .split at h
  .split at h
   .split at h
    .injection h with h;subst h;exact⟨[_],rfl⟩
    .cases h
   .split at h
    .split at h
     .rename_i m _;split at h
      .injection h with h;subst h;obtain⟨pre,hp⟩:=WbJ st.objs m;exact⟨_::pre,by simp only[hp];rfl⟩
      .cases h
     .cases h
    .cases h
  .cases h
 .cases h
theorem Wky(p:Option (Bool×AVal))(objs:WP)(nx:Nat):Suf objs (match p with|some (c,v)=>bif c then WbP v objs nx else none|none=>none):=by
 rcases p with _|⟨c,v⟩
 .exact .none
 .exact Suf.bif (Suf.out (pre:=[]))
theorem Wcm(sg:Sig)(st:St)(xs:List AVal):Suf st.objs (Wdy sg st xs WbP):=by
 unfold Wdy;split
 .rename_i A _;split
  .intro x objs' nx h;rw[sg.law]at h;cases hr:sg.run A.d with
   |none=>rw[hr]at h;cases h
   |some out=>
    rw[hr]at h;simp only[Xc]at h;injection h with h;have h2:=congrArg (λp:Out=>p.2.1) h;simp only at h2;obtain⟨p1,e1⟩:=WbJ st.objs A.moved;obtain⟨p2,e2⟩:=WO sg.ps out.1 A.kept (kill st.objs A.moved) st.nx;obtain⟨p3,e3⟩:=WZ sg.rs out.2 (WS sg.ps out.1 A.kept (kill st.objs A.moved) st.nx).1 (WS sg.ps out.1 A.kept (kill st.objs A.moved) st.nx).2;refine⟨p3++(p2++p1),?_⟩;rw[←h2,e3,e2,e1];simp
  .exact .none
 .exact .none
theorem Suf.over{objs:WP}{l:List Nat}{r:Option Out}(h:Suf (kill objs l) r):Suf objs r:=λx objs' nx hr=>by
 obtain⟨p1,e1⟩:=h x objs' nx hr;obtain⟨p2,e2⟩:=WbJ objs l;exact⟨p1++p2,by rw[e1,e2];simp⟩
theorem WiR(sg:Sig)(st:St)(xs:List AVal):Suf st.objs (WiG sg st xs WbP):=by
 unfold WiG;cases sg.fresh with
 |true=>exact Wcm _ _ _
 |false=>
  simp only[cond_false];split
  .split
   .exact Wcm _ _ _
   .exact Suf.over (Wcm sg {env:=st.env,objs:=kill st.objs _,nx:=st.nx} _)
  .exact .none
theorem Wj0{objs:WP}{x:AVal}{p:Nat×Ob}{l:List Nat}{nx:Nat}:Suf objs (WbP x (p::kill objs l) nx):=by
 obtain⟨pre,h⟩:=WbJ objs l;rw[h];exact Suf.out (pre:=p::pre)
theorem Wgw(st:St)(te:Ty)(s x:AVal):Suf st.objs (Wda st te s x WbP):=by
 unfold Wda;split
 .split
  .split
   .split
    .exact Suf.bif Wj0
    .exact .none
   .exact .none
  .exact .none
 .split
  .split
   .split
    .exact Suf.ite (Suf.bif Wj0)
    .exact .none
   .exact .none
  .exact .none
 .exact .none
theorem Wgv(st:St)(e:Ty)(ps:List (Nat×AVal)):Suf st.objs (Wb8 st e ps WbP):=by
 unfold Wb8;split
 .refine Suf.ite ?_;split
  .split
   .exact Suf.ite (Suf.over Wj0)
   .exact .none
  .exact .none
 .exact .none
theorem Wib(st:St)(te:Ty)(id:Nat)(l h:Option Int):Suf st.objs (WdF st te id l h WbP):=by
 unfold WdF;split
 .exact Suf.ite (Suf.bif (Suf.out (pre:=[])))
 .exact .none
theorem Wmi(o:Oper)(st:St):Suf st.objs (rxe T Γ A o st WbP):=by
 unfold rxe;split
 .split
  .exact Suf.ite (Suf.out (pre:=[_]))
  .exact Suf.ite (Suf.out (pre:=[_]))
  .exact .none
 .split
  .exact Suf.out (pre:=[_])
  .exact .none
 .split
  .split
   .split
    .exact Suf.out (pre:=[])
    .exact .none
   .exact .none
  .exact .none
 .split
  .split
   .split
    .exact Suf.ite (Wgv _ _ _)
    .split
     .exact Suf.ite (Suf.over (Suf.out (pre:=[_])))
     .exact .none
   .exact .none
  .exact .none
 .split
  .split
   .split
    .exact Suf.ite (Suf.bif (Suf.out (pre:=[_])))
    .exact Suf.ite (Suf.bif (Suf.out (pre:=[_])))
   .exact .none
  .exact .none
 .split
  .split
   .rename_i ac hs;split
    .obtain⟨pre,h⟩:=WgD hs;rw[h];exact Suf.over Suf.out
    .exact .none
   .exact .none
  .exact .none
 .split
  .split
   .split
    .split
     .exact Suf.ite (Wib _ _ _ _ _)
     .split
      .exact Suf.ite (Suf.bif (Suf.out (pre:=[_,_])))
      .exact Suf.ite (Suf.bif (Suf.out (pre:=[_,_,_])))
      .exact .none
    .exact .none
   .exact .none
  .exact Wky _ _ _
 .split
  .split
   .unfold Wcs;split
    .split
     .split
      .cases Wos st _ _ with
       |false=>exact Wgw _ _ _ _
       |true=>
       simp only[Xaj,cond_false];split
       .exact Suf.bif (Suf.out (pre:=[_]))
       .split
        .split
         .exact Suf.bif (Suf.out (pre:=[_,_]))
         .exact .none
        .exact .none
       .split
        .split
         .exact Suf.bif (Suf.out (pre:=[_,_]))
         .exact .none
        .exact .none
       .exact .none
      .exact .none
     .exact .none
    .exact .none
   .exact .none
  .split
   .split
    .split
     .exact Suf.ite (Suf.out (pre:=[_]))
     .exact .none
    .exact .none
   .exact .none
  .exact Wky _ _ _
  .split
   .split
    .exact WiR _ _ _
    .exact .none
   .exact .none
  .exact .none
 .exact Wky _ _ _
end
end Go.Sx
namespace Go.Sx
set_option linter.unusedVariables false
set_option linter.unusedSimpArgs false
theorem Wla{x y:Nat}{l:List Nat}:y∈WqG x l↔y=x\/y∈l:=by
 unfold WqG;cases h:Wa7 x l with
 |true=>
  have:=(Wah x l).1 h;simp only[cond_true];exact⟨.inr,λh=>h.elim (λe=>e▸this) id⟩
 |false=>simp
theorem WgX{y:Nat}:∀(m l:List Nat),y∈Wi6 m l↔y∈m\/y∈l
 | [],l=>by simp[Wi6]
 |x::m,l=>by
  rw[Wi6,WgX m,Wla,Xm];constructor
  .rintro(h|h|h)
   .exact .inl (.inr h)
   .exact .inl (.inl h)
   .exact .inr h
  .rintro((h|h)|h)
   .exact .inr (.inl h)
   .exact .inl h
   .exact .inr (.inr h)
theorem Wf6{acc:List (List Nat)}{y:Nat}:∀(ds l:List Nat),y∈Wig acc ds l↔(∃j∈ds,y=j\/y∈acc.getD j [])\/y∈l
 | [],l=>by simp[Wig]
 |j::ds,l=>by
  rw[Wig,Wf6 ds,WgX,Wla];constructor
  .rintro(⟨k,hk,h⟩|h|h|h)
   .exact .inl ⟨k,Xe _ hk,h⟩
   .exact .inl ⟨j,Xg ..,.inr h⟩
   .exact .inl ⟨j,Xg ..,.inl h⟩
   .exact .inr h
  .rintro(⟨k,hk,h⟩|h)
   .rcases Xm.1 hk with rfl|hk
    .exact .inr (h.elim (λh=>.inr (.inl h)) .inl)
    .exact .inl ⟨k,hk,h⟩
   .exact .inr (.inr (.inr h))
def WiC(ops:Array Oper)(S:Nat->Prop):Prop:=∀i o,ops[i]?=some o->S i->∀d∈Wjt o,S d
theorem WgZ{ops:Array Oper}{S:Nat->Prop}(hS:WiC ops S):∀(l:List Oper) (acc:List (List Nat)),(∀(k:Nat) (o:Oper),l[k]?=some o->ops[acc.length+k]?=some o)->
  (∀i,S i->∀j∈acc.getD i [],S j)->∀i,S i->∀j∈(WcO l acc).getD i [],S j
 | [],acc,_,h=>h
 |o::l,acc,hl,h=>by
  refine WgZ hS l _ (λk o' hk=>?_) (λi hi j hj=>?_)
  .have:=hl (k+1) o' (by simpa using hk);rw[Xw];have e:acc.length+(k+1)=acc.length+ [Wig acc (Wjt o) []].length+k:=by simp;omega
   rw[←e];exact this
  .rw[Xbg,Xao]at hj;split at hj
   .exact h i hi j (by rw[Xbg];exact hj)
   .rename_i hlt;by_cases he:i=acc.length
    .subst he;simp only[Xco,Xdc,Xfx]at hj;rcases(Wf6 _ _).1 hj with⟨k,hk,iL⟩|hj
     .have hSk:=hS _ o (hl 0 o (by simp)) hi k hk;rcases iL with rfl|iL
      .exact hSk
      .exact h k hSk j iL
     .cases hj
    .have:[Wig acc (Wjt o) []][i-acc.length]?=none:=Xbh (by simp;omega);rw[this]at hj;cases hj
theorem Wls{ops:Array Oper}{S:Nat->Prop}(hS:WiC ops S){i j:Nat}(h:WbW (WcO ops.toList []) j i=true)(hi:S i):S j:=
 WgZ hS ops.toList [] (λk o hk=>by simpa using hk) (λi _ j hj=>by simp at hj) i hi j ((Wah _ _).1 h)
theorem WgS{ops:Array Oper}:∀(l:List Oper) (n:Nat),Woh l n=true->∀(k:Nat) (o:Oper),l[k]?=some o->∀d∈Wjt o,d<n+k
 | [],_,_,k,o,hk=>by simp at hk
 |o'::l,n,h,k,o,hk=>by
  simp only[Woh,Xh,Xaf]at h;cases k with
  |zero=>
   simp at hk;subst hk;intro e he;have:=h.1 e he;rw[Xgd]at this;omega
  |succ k=>
   have:=WgS (ops:=ops) l (n+1) h.2 k o (by simpa using hk);intro e he;have:=this e he;omega
structure Order(ops:Array Oper)(l:List Nat):Prop where
 nodup:l.Nodup
 all:∀i,i<ops.size↔i∈l
 dep:∀p i s,l=p++i::s->∀o,ops[i]?=some o->∀d∈Wjt o,d∈p
theorem Order.closed{ops:Array Oper}{l:List Nat}(h:Order ops l){p s:List Nat}(e:l=p++s):WiC ops (· ∈p):=λi o ho hi d hd=>by
 obtain⟨a,b,rfl⟩:=Xdq hi;have:=h.dep a i (b++s) (by rw[e];simp) o ho d hd;simp[this]
theorem Order.bef{ops:Array Oper}{l:List Nat}(h:Order ops l){p s:List Nat}{i j:Nat}(e:l=p++s)(hb:WbW (WcO ops.toList []) j i=true)(hi:i∈p):j∈p:=
 Wls (h.closed e) hb hi
theorem Order.bef'{ops:Array Oper}{l:List Nat}(h:Order ops l){p s:List Nat}{i j:Nat}(e:l=p++i::s)(hb:WbW (WcO ops.toList []) j i=true)(hne:j≠i):j∈p:=by
 have:=h.bef (p:=p++ [i]) (s:=s) (by rw[e];simp) hb (by simp);rcases Xk.1 this with h|h
 .exact h
 .simp at h;exact absurd h hne
def unl(ops:Array Oper)(listed:Array Bool):List Nat:=(Xcv ops.size).filter λi=>!listed.getD i true
theorem WdL{ops:Array Oper}{listed:Array Bool}{i:Nat}:i∈unl ops listed↔i<ops.size/\listed.getD i true=false:=by
 unfold unl;rw[Xat,Xds];simp
theorem Wd9{α:Type}{p q:α->Bool}:∀(l:List α),(∀x∈l,q x=true->p x=true)->(∃x∈l,p x=true/\q x=false)->(l.filter q).length<(l.filter p).length
 | [],_,⟨x,hx,_⟩=>by cases hx
 |x::l,h,⟨y,hy,hp,hq⟩=>by
  have hle:∀(l:List α),(∀x∈l,q x=true->p x=true)->(l.filter q).length<=(l.filter p).length:=by
   intro l
   induction l with
   |nil=>intro _;simp
   |cons x l ih=>
    intro h;have:=ih λx hx=>h x (Xe _ hx);have hx:=h x (Xg ..);rw[Xbm,Xbm];cases hqx:q x with
    |true=>rw[hx hqx];simpa using this
    |false=>cases p x<;>simp<;>omega
  rw[Xbm,Xbm];rcases Xm.1 hy with rfl|hy
  .rw[hp,hq];have:=hle l λx hx=>h x (Xe _ hx);simp;omega
  .have:=Wd9 l (λx hx=>h x (Xe _ hx)) ⟨y,hy,hp,hq⟩;have hx:=h x (Xg ..);cases hqx:q x with
   |true=>rw[hx hqx];simpa using this
   |false=>cases p x<;>simp<;>omega
theorem Why{listed:Array Bool}{i j:Nat}:(listed.setIfInBounds i true).getD j true=(if i=j then true else listed.getD j true):=by
 simp only[Xcd,Xei];split
 .split<;>rfl
 .rfl
theorem WnH{listed:Array Bool}{i j:Nat}(hi:i<listed.size):(listed.setIfInBounds i true).getD j false=(if i=j then true else listed.getD j false):=by
 simp only[Xcd,Xei];split
 .simp[hi]
 .rfl
theorem Wpn{listed:Array Bool}{i:Nat}(hi:i<listed.size):listed.getD i true=listed.getD i false:=by
 simp[hi]
theorem Wk7{o:Oper}{e:Edge}(he:e∈o.after)(hb:Region.binds .any e=true):e.on∈Wjt o:=
 Xt.2 ⟨e,Xat.2 ⟨by simpa using he,hb⟩,rfl⟩
theorem Wlg{ops:Array Oper}(hb:∀(k:Nat) (o:Oper),ops[k]?=some o->∀d∈Wjt o,d<k):∀(fuel t:Nat) (listed:Array Bool),listed.size=ops.size->(unl ops listed).length<=fuel->
  (Region.linearise.go .any ops fuel t listed []).Nodup/\
  (∀i,i∈Region.linearise.go .any ops fuel t listed []↔i∈unl ops listed)/\
  (∀p i s,Region.linearise.go .any ops fuel t listed []=p++i::s->∀o,ops[i]?=some o->∀e∈o.after,Region.binds .any e=true->listed.getD e.on false=true\/e.on∈p)
 |0,t,listed,hs,hlen=>by
  have:unl ops listed= []:=Xx (by omega);simp only[Region.linearise.go,List.reverse_nil,this];exact⟨by simp,by simp,λp i s h=>by simp at h⟩
 |fuel+1,t,listed,hs,hlen=>by
  have lr:Region.linearise.go .any ops (fuel+1) t listed []=match(Region.ready .any ops listed)[t%(Region.ready .any ops listed).length]? with
   |some i=>Region.linearise.go .any ops fuel (t/(Region.ready .any ops listed).length) (listed.setIfInBounds i true) [i]
   |none=>[]:=rfl
  rw[lr];cases hi:(Region.ready .any ops listed)[t%(Region.ready .any ops listed).length]? with
  |none=>
   have aX:Region.ready .any ops listed= []:=by
    cases hr:Region.ready .any ops listed with
    |nil=>rfl
    |cons x xs=>
     rw[hr]at hi;have hlt:t%(x::xs).length<(x::xs).length:=Nat.mod_lt _ (by simp);simp at hi;simp at hlt;omega
   have hu:unl ops listed= []:=by
    have key:∀n i,i<=n->i∉unl ops listed:=by
     intro n
     induction n with
     |zero=>
      intro i dG hm;obtain⟨h1,h2⟩:=WdL.1 hm;have:i∈Region.ready .any ops listed:=by
       rw[mem_ready];refine⟨h2,ops[i],Xcw h1,λe he il=>?_⟩;have:=hb i _ (Xcw h1) e.on (Wk7 he il);omega
      rw[aX]at this;cases this
     |succ n ih=>
      intro i dG hm;obtain⟨h1,h2⟩:=WdL.1 hm;have:i∈Region.ready .any ops listed:=by
       rw[mem_ready];refine⟨h2,ops[i],Xcw h1,λe he il=>?_⟩;have hlt:=hb i _ (Xcw h1) e.on (Wk7 he il);have pj:=ih e.on (by omega);have h3:e.on<ops.size:=by omega
       cases h4:listed.getD e.on true with
       |false=>exact absurd (WdL.2 ⟨h3,h4⟩) pj
       |true=>rw[←Wpn (by omega)];exact h4
      rw[aX]at this;cases this
    exact Xee.2 λi=>key i i (Xj _)
   rw[hu];exact⟨Xcz,λ_=>Iff.rfl,λp i s h=>by simp at h⟩
  |some i=>
   have pk:=Xan hi;obtain⟨h1,o,ho,h3⟩:=mem_ready.1 pk;have kr:i<ops.size:=(Xcs.1 ho).1;have pm:i∈unl ops listed:=WdL.2 ⟨kr,h1⟩;simp only[];rw[linearise_go_acc,List.reverse_singleton,List.singleton_append];have fU:(unl ops (listed.setIfInBounds i true)).length<=fuel:=by
    have:(unl ops (listed.setIfInBounds i true)).length<(unl ops listed).length:=by
     refine Wd9 _ (λx _ hx=>?_) ⟨i,Xds.2 kr,by simpa using h1,by rw[Why];simp⟩;rw[Why]at hx;split at hx
     .simp at hx
     .exact hx
    omega
   obtain⟨g1,g2,g3⟩:=Wlg hb fuel (t/(Region.ready .any ops listed).length) (listed.setIfInBounds i true) (by simp[hs]) fU;have hmem:∀j,j∈unl ops (listed.setIfInBounds i true)↔j∈unl ops listed/\j≠i:=λj=>by
    rw[WdL,WdL,Why];constructor
    .rintro⟨q1,q2⟩;split at q2
     .cases q2
     .rename_i hne;exact⟨⟨q1,q2⟩,λe=>hne e.symm⟩
    .rintro⟨⟨q1,q2⟩,hne⟩;exact⟨q1,by rw[if_neg (λe=>hne e.symm)];exact q2⟩
   refine⟨Xz.2 ⟨λhm=>?_,g1⟩,λj=>?_,λp j s e o' eR ed jv il=>?_⟩
   .exact((hmem i).1 ((g2 i).1 hm)).2 rfl
   .rw[Xm,g2,hmem];constructor
    .rintro(rfl|h)
     .exact pm
     .exact h.1
    .intro h;by_cases he:j=i
     .exact .inl he
     .exact .inr ⟨h,he⟩
   .cases p with
    |nil=>
     simp only[Xbj,List.cons.injEq]at e;obtain⟨rfl,_⟩:=e;rw[ho]at eR;injection eR with eR;subst eR;exact .inl (h3 ed jv il)
    |cons x p=>
     simp only[Xbd,List.cons.injEq]at e;obtain⟨rfl,e⟩:=e;rcases g3 p j s e o' eR ed jv il with h|h
     .rw[WnH (by omega)]at h;split at h
      .rename_i he;exact .inr (by rw[he];simp)
      .exact .inl h
     .exact .inr (Xe _ h)
theorem WfY{ops:Array Oper}{t:Nat}(hb:∀(k:Nat) (o:Oper),ops[k]?=some o->∀d∈Wjt o,d<k):Order ops (Region.linearise .any ops t):=by
 have hu:∀i,i∈unl ops (Xdp ops.size false)↔i<ops.size:=λi=>by
  rw[WdL];constructor
  .exactλh=>h.1
  .exactλh=>⟨h,by simp[h]⟩
 obtain⟨h1,h2,h3⟩:=Wlg hb ops.size t (Xdp ops.size false) (by simp) (by
  have:=Xdw (λi=>!(Xdp ops.size false).getD i true) (Xcv ops.size);rw[Xeo]at this;exact this)
 refine⟨h1,λi=>by unfold Region.linearise;rw[h2,hu],λp i s e o ho d hd=>?_⟩;unfold Wjt at hd;obtain⟨ed,jv,rfl⟩:=Xt.1 hd;obtain⟨jv,il⟩:=Xat.1 jv;rcases h3 p i s e o ho ed (by simpa using jv) il with h|h
 .exfalso;rw[Xcd,Array.getElem?_replicate]at h;split at h<;>simp at h
 .exact h
theorem Wgz{ops:Array Oper}{t:Nat}(hb:∀(k:Nat) (o:Oper),ops[k]?=some o->∀d∈Wjt o,d<k):Order ops (Region.schedule true ops t):=by
 unfold Region.schedule;rw[if_pos (by simp)];exact WfY hb
end Go.Sx
namespace Go.Sx
set_option linter.unusedVariables false
set_option linter.unusedSimpArgs false
def Wnj(n:Nat)(kept:List Nat)(o:Oper):Bool:=match o.dst with
 |some d=>Nat.blt d n&& !Wa7 d kept
 |none=>true
def Wcj(n:Nat)(kept:List Nat):Code->Bool
 | .region _ ops _=>ops.toList.all (Wnj n kept)
 | .seq a b=>Wcj n kept a&&Wcj n kept b
 | .cond _ x y=>Wcj n kept x&&Wcj n kept y
 | .block _ c=>Wcj n kept c
 | .loop c=>Wcj n kept c
 |_=>true
theorem Wkj{nt:Slots}{n:Nat}{kept:List Nat}(hn:nt.n=n)(hk:∀p∈nt.kept,p.1∈kept){o:Oper}(h:Wnj n kept o=true):∀d,o.dst=some d->nt.Ok d:=λd hd=>by
 unfold Wnj at h;rw[hd]at h;simp only[Xh,Xai]at h;refine⟨by have h1:=h.1;rw[Xgd]at h1;rw[hn];exact h1,λp hp e=>?_⟩;have:=hk p hp;rw[e]at this;rw[(Wah d kept).2 this]at h;exact absurd h.2 (by simp)
def Ex.to:Ex->Exit
 | .normal=>.normal
 | .exit id=>.exit id
 | .ret=>.ret
section
variable{w0:World}{F:CS}{nt:Slots}{G0:GH}{P:Program}{T:Tab}{Γ:Ctx}{A:List (Nat×An)}{R:Type}{r:R}
def Wm7(w0:World)(F:CS)(nt:Slots)(G0:GH)(k:St->Option R)(r:R)(K:Act->World->Prop):Prop:=
 ∀st a w G ν,Rel w0 F nt G0 G ν st a w->k st=some r->K a w
theorem WkO{G:GH}{ν:Nat->Nu}{st:St}{a:Act}{w:World}(hr:Rel w0 F nt G0 G ν st a w){ops:Array Oper}{j:Nat}{t:Tmp}(ht:(ops[j]?).bind (·.dst)=some t){b:Bool}(hb:(We st.env t).bind asB=some b):
  a.tmps[t]?=some (.bool b)/\yielded ops a.tmps j=some b:=by
 cases hl:We st.env t with
 |none=>simp[hl]at hb
 |some x=>
  simp only[hl,Xc]at hb;obtain⟨v,hv,hx⟩:=hr.env t x hl;have:=WjN x v b hx hb;subst this;refine⟨hv,?_⟩;unfold yielded;rw[ht];simp[hv]
theorem Wpf(hT:WW P T)(hΓ:Wdu P Γ){ops:Array Oper}{o:Oper}(hd:∀d,o.dst=some d->nt.Ok d){k:St->Option R}{K:Act->World->Prop}{Q:Exit->Act->World->Prop}(hK:Wm7 w0 F nt G0 k r K)
  {st:St} {a:Act} {w:World} {G:GH} {ν:Nat->Nu} (hr:Rel w0 F nt G0 G ν st a w) (h:rxg T Γ A ops o st k=some r):
  if Region.wanted o (yielded ops a.tmps)then o.wp P a w K Q else K (a.put o.dst undef) w:=by
 unfold rxg at h;have ep:∀ac,Rel w0 F nt G0 G ν ac a w->Rel w0 F nt G0 G ν (ac.put o.dst (.tup [])) (a.put o.dst undef) w:=λac bb=>
  bb.put hd ⟨[],rfl,rfl,λj x v hj=>by simp at hj⟩
 have cu:∀b:Bool,AValRel G ν st.nx (one .bool b) (.bool b):=λb=>Ww (t:=.bool) (d:=b) (v:=.bool b) rfl;split at h
 .rename_i hg;simp only[Region.wanted,hg,if_true];exact Wnw hT hΓ hr hd h (λac a' w' G' ν' bb hk=>hK _ _ _ _ _ bb hk)
 .rename_i j want hg;split at h
  .rename_i t ht;split at h
   .rename_i hl;obtain⟨v,hv,hx⟩:=hr.env t _ hl;have iJ:v=undef:=by
     obtain⟨vs,h1,h2,_⟩:=hx;rw[h1,Xx h2];rfl
    subst iJ;have hy:yielded ops a.tmps j=none:=by
     unfold yielded;rw[ht];simp only[Xc,hv];rfl
    simp only[Region.wanted,hg,hy];rw[if_neg (by simp)];exact hK _ _ _ _ _ (ep _ hr) h
   .rename_i x _ hl;split at h
    .rename_i b hb;obtain⟨hv,hy⟩:=WkO hr ht (b:=b) (by rw[hl];exact hb);simp only[Region.wanted,hg,hy];have jw:=hr.rebind hv (cu b);cases b with
     |true=>
      simp only[cond_true]at h;cases want with
      |true=>
       simp only[if_true]at h;simp only[beq_self_eq_true,if_true];exact Wnw hT hΓ jw hd h (λac a' w' G' ν' bb hk=>hK _ _ _ _ _ bb hk)
      |false=>
       simp only[Xbv,if_false]at h;rw[if_neg (by simp)];exact hK _ _ _ _ _ (ep _ jw) h
     |false=>
      simp only[cond_false]at h;cases want with
      |true=>
       simp only[if_true]at h;rw[if_neg (by simp)];exact hK _ _ _ _ _ (ep _ jw) h
      |false=>
       simp only[Xbv,if_false]at h;simp only[beq_self_eq_true,if_true];exact Wnw hT hΓ jw hd h (λac a' w' G' ν' bb hk=>hK _ _ _ _ _ bb hk)
    .cases h
   .cases h
  .cases h
theorem Wo3(hT:WW P T)(hΓ:Wdu P Γ){ops:Array Oper}:∀(l:List Oper),(∀o∈l,∀d,o.dst=some d->nt.Ok d)->∀{k:St->Option R} {Q:Exit->Act->World->Prop},Wm7 w0 F nt G0 k r (Q .normal)->
  Wm7 w0 F nt G0 (λst=>rxs T Γ A ops l st k) r (wpList P ops Q l)
 | [],_,k,Q,hK=>λst a w G ν hr h=>hK st a w G ν hr h
 |o::l,hd,k,Q,hK=>λst a w G ν hr h=>by
  have ih:=Wo3 (ops:=ops) hT hΓ l (λo ho=>hd o (Xe _ ho)) hK;have h:rxg T Γ A ops o st (λac=>match opG A o ac with
   |some (c,bi)=>bif c then rxs T Γ A ops l bi k else none
   |none=>none)=some r:=h
  have pn:Wm7 w0 F nt G0 (λac=>match opG A o ac with
   |some (c,bi)=>bif c then rxs T Γ A ops l bi k else none
   |none=>none) r (wpList P ops Q l):=λch a1 w1 G1 ν1 gU h1=>by
   have h1:(match opG A o ch with
    |some (c,bi)=>bif c then rxs T Γ A ops l bi k else none
    |none=>none)=some r:=h1
   split at h1
   .rename_i c ah hg;obtain⟨rfl,h1⟩:=Wae h1;have:∃G' ν',Rel w0 F nt G0 G' ν' ah a1 w1:=by
     unfold opG at hg;split at hg
     .split at hg
      .injection hg with hg;injection hg with _ hg;subst hg;exact⟨G1,ν1,gU⟩
      .exact WjF gU hg
     .injection hg with hg;injection hg with _ hg;subst hg;exact⟨G1,ν1,gU⟩
     .injection hg with hg;injection hg with _ hg;subst hg;exact⟨G1,ν1,gU⟩
     .injection hg with hg;injection hg with _ hg;subst hg;exact⟨G1,ν1,gU⟩
     .injection hg with hg;injection hg with _ hg;subst hg;exact⟨G1,ν1,gU⟩
    obtain⟨G2,ν2,ew⟩:=this;exact ih ah a1 w1 G2 ν2 ew h1
   .cases h1
  have:=Wpf hT hΓ (hd o (Xg ..)) (Q:=Q) pn hr h;unfold wpList;split
  .rename_i hw;rw[if_pos hw]at this;exact .inl this
  .rename_i hw;rw[if_neg hw]at this;exact this
end
end Go.Sx
namespace Go.Sx
set_option linter.unusedVariables false
set_option linter.unusedSimpArgs false
section
variable{T:Tab}{Γ:Ctx}{A:List (Nat×An)}{ops:Array Oper}
theorem Whr{R:Type}(o:Oper)(st:St)(k:St->Option R):rx1 T Γ A o st k=(rx1 T Γ A o st some).bind k:=by
 unfold rx1;rw[Wd4,Wd4 o st (λx objs nx=>some _),Xfu];rfl
theorem WoS{R:Type}(o:Oper)(st:St)(k:St->Option R):rxg T Γ A ops o st k=(rxg T Γ A ops o st some).bind k:=by
 unfold rxg;cases o.guard with
 |none=>exact Whr o st k
 |some g=>
  obtain⟨j,want⟩:=g;simp only;cases(ops[j]?).bind (·.dst)with
  |none=>rfl
  |some t=>
   simp only;cases We st.env t with
   |none=>rfl
   |some x=>
    have main:(match asB x with
      |some b=>bif b
       then(if want then rx1 T Γ A o (st.put (some t) (one .bool true)) k else k ((st.put (some t) (one .bool true)).put o.dst (.tup [])))
       else(if want then k ((st.put (some t) (one .bool false)).put o.dst (.tup []))else rx1 T Γ A o (st.put (some t) (one .bool false)) k)
      |none=>none)=(match asB x with
      |some b=>bif b
       then(if want then rx1 T Γ A o (st.put (some t) (one .bool true)) some else some ((st.put (some t) (one .bool true)).put o.dst (.tup [])))
       else(if want then some ((st.put (some t) (one .bool false)).put o.dst (.tup []))else rx1 T Γ A o (st.put (some t) (one .bool false)) some)
      |none=>none).bind k:=by
     cases asB x with
     |none=>rfl
     |some b=>
      cases b<;>cases want
      .exact Whr _ _ _
      .rfl
      .rfl
      .exact Whr _ _ _
    cases x with
    |s y=>exact main
    |tup l=>
     cases l with
     |nil=>rfl
     |cons y l=>exact main
theorem Wle{R:Type}{o:Oper}{st:St}{k:St->Option R}{r:R}(h:rxg T Γ A ops o st k=some r):∃ac,rxg T Γ A ops o st some=some ac/\k ac=some r:=by
 rw[WoS]at h;exact Xbn.1 h
structure Eff(o:Oper)(v:AVal)(pre:WP)(af:Nat)(st ac:St):Prop where
 env:∀t,We ac.env t=if o.dst=some t then some v else We st.env t
 objs:ac.objs=pre++st.objs
 nx:ac.nx=af
theorem Wb5(st:St)(dst:Option Tmp)(x:AVal)(t:Nat):We (st.put dst x).env t=if dst=some t then some x else We st.env t:=by
 cases dst with
 |none=>simp[St.put]
 |some d=>
  simp only[St.put];rw[Wl];by_cases h:d=t
  .subst h;simp
  .rw[if_neg h,if_neg (by simpa using h)]
theorem Wdp{st ah:St}{x:Operand}(h:∀t∈WnU x,We ah.env t=We st.env t):ev ah x=ev st x:=by
 cases x with
 |tmp t=>exact h t (by simp[WnU])
 |_=>rfl
theorem WeZ{st:St}{x:Operand}{v:AVal}:∀(l:List Operand),x∈l->ev st x=some v->∀id∈Wap v,id∈Wc6 st l
 | [],h,_,_,_=>by cases h
 |y::l,h,hv,id,aO=>by
  simp only[Wc6];rcases Xm.1 h with rfl|h
  .rw[hv];exact Xi _ aO
  .split
   .exact Xf _ (WeZ l h hv id aO)
   .exact WeZ l h hv id aO
theorem Wd6{st ah:St}:∀(l:List Operand),(∀x∈l,ev ah x=ev st x)->Wc6 ah l=Wc6 st l
 | [],_=>rfl
 |x::l,h=>by simp only[Wc6,h x (Xg ..),Wd6 l λy hy=>h y (Xe _ hy)]
theorem WnI{o:Oper}{st ac ah:St}(h:rx1 T Γ A o st some=some ac)(he:∀x∈WN o.op,ev ah x=ev st x)
  (hm:Wai o=true->ah.objs=st.objs/\ah.nx=st.nx) (hf:Wai o=false->∀id∈WbL o st,We ah.objs id=We st.objs id):
  ∃v pre af,Eff o v pre af st ac/\(Wai o=false->pre= []/\af=st.nx)/\
   ∃aY,rx1 T Γ A o ah some=some aY/\(Wai o=true->Eff o v pre af ah aY)/\(Wai o=false->Eff o v [] ah.nx ah aY):=by
 unfold rx1 at*;rw[Wd4]at h;obtain⟨⟨v,objs',af⟩,h1,h2⟩:=Xbn.1 h;injection h2 with h2;subst h2;cases co:Wai o with
 |true=>
  obtain⟨e1,e2⟩:=hm co;obtain⟨pre,rfl⟩:=Wmi o st v objs' af h1;refine⟨v,pre,af,⟨λt=>Wb5 _ _ _ _,by cases o.dst<;>rfl,by cases o.dst<;>rfl⟩,by simp,?_⟩;have h3:rxe T Γ A o ah WbP=some (v,pre++st.objs,af):=by
   obtain⟨mo,nY,nx2⟩:=ah;simp only at e1 e2;subst e1 e2;rw[Wno o (env:=mo) (st:=st) WbP he];exact h1
  refine⟨_,?_,λ_=>⟨λt=>Wb5 (⟨ah.env,pre++st.objs,af⟩) o.dst v t,?_,?_⟩,by simp⟩
  .rw[Wd4,h3];rfl
  .rw[e1];cases o.dst<;>rfl
  .cases o.dst<;>rfl
 |false=>
  rw[Wjs co]at h1;obtain⟨u,h3,h4⟩:=Xbn.1 h1;injection h4 with h4;have e1:u=v:=congrArg (λp:Out=>p.1) h4;have e2:st.objs=objs':=congrArg (λp:Out=>p.2.1) h4;have e3:st.nx=af:=congrArg (λp:Out=>p.2.2) h4;subst e1 e2 e3;refine⟨u,[],st.nx,⟨λt=>Wb5 _ _ _ _,by cases o.dst<;>rfl,by cases o.dst<;>rfl⟩,by simp,?_⟩;have h5:Wo1 T o ah=some u:=by
   rw[←h3];refine WlB co he λpo x hx v hv id aO=>hf co id ?_;unfold WbL;rw[po];exact WeZ _ hx hv id aO
  refine⟨_,?_,by simp,λ_=>⟨λt=>Wb5 (⟨ah.env,ah.objs,ah.nx⟩) o.dst u t,?_,?_⟩⟩
  .rw[Wd4,Wjs co,h5];rfl
  .cases o.dst<;>rfl
  .cases o.dst<;>rfl
theorem Wpt{x:AVal}{b:Bool}(h:asB x=some b):x=one .bool b:=by
 unfold asB at h;split at h
 .injection h with h;subst h;rfl
 .cases h
theorem Wcp{st:St}{t:Nat}{x:AVal}(h:We st.env t=some x)(t':Nat):We (st.put (some t) x).env t'=We st.env t':=by
 rw[Wb5];split
 .rename_i e;injection e with e;subst e;exact h.symm
 .rfl
theorem Wcx(st:St)(d:Option Tmp)(x:AVal):(st.put d x).objs=st.objs:=by cases d<;>rfl
theorem Wgm(st:St)(d:Option Tmp)(x:AVal):(st.put d x).nx=st.nx:=by cases d<;>rfl
theorem Wex{o:Oper}{st ah:St}(h:∀x∈WN o.op,ev ah x=ev st x):WbL o ah=WbL o st:=by
 unfold WbL;rw[Wd6 _ h]
theorem Wnl{o:Oper}{st ac ah:St}(h:rxg T Γ A ops o st some=some ac)(he:∀t∈Wb7 ops o,We ah.env t=We st.env t)
  (hm:Wai o=true->ah.objs=st.objs/\ah.nx=st.nx) (hf:Wai o=false->∀id∈WbL o st,We ah.objs id=We st.objs id):
  ∃v pre af,Eff o v pre af st ac/\(Wai o=false->pre= []/\af=st.nx)/\
   ∃aY,rxg T Γ A ops o ah some=some aY/\(Wai o=true->Eff o v pre af ah aY)/\(Wai o=false->Eff o v [] ah.nx ah aY):=by
 have nZ:∀x∈WN o.op,ev ah x=ev st x:=λx hx=>Wdp λt ht=>he t (by
  unfold Wb7;exact Xi _ (Xez.2 ⟨x,hx,ht⟩))
 unfold rxg at h⊢;cases hg:o.guard with
 |none=>
  rw[hg]at h;exact WnI h nZ hm hf
 |some g=>
  obtain⟨j,want⟩:=g;rw[hg]at h;simp only at h⊢;cases ht:(ops[j]?).bind (·.dst)with
  |none=>rw[ht]at h;cases h
  |some t=>
   rw[ht]at h;simp only at h⊢;have eV:We ah.env t=We st.env t:=he t (by
    unfold Wb7;refine Xf _ ?_;rw[hg];simp only;rw[ht];simp)
   rw[eV];cases hx:We st.env t with
   |none=>rw[hx]at h;cases h
   |some x=>
    rw[hx]at h;have skip:∀(s s2:St) (s':St),some (s.put o.dst (.tup []))=some s'->(∀t,We s.env t=We st.env t)->s.objs=st.objs->s.nx=st.nx->(∀t,We s2.env t=We ah.env t)->s2.objs=ah.objs->s2.nx=ah.nx->
      ∃v pre af,Eff o v pre af st s'/\(Wai o=false->pre= []/\af=st.nx)/\
       ∃aY,some (s2.put o.dst (.tup []))=some aY/\(Wai o=true->Eff o v pre af ah aY)/\(Wai o=false->Eff o v [] ah.nx ah aY):=by
     intro s s2 s' hs a1 a2 a3 b1 b2 b3;injection hs with hs;subst hs;refine⟨.tup [],[],st.nx,⟨λt=>?_,by rw[Wcx,a2];rfl,by rw[Wgm,a3]⟩,λ_=>⟨rfl,rfl⟩,_,rfl,λco=>⟨λt=>?_,by rw[Wcx,b2];rfl,by rw[Wgm,b3];exact(hm co).2⟩,λ_=>⟨λt=>?_,by rw[Wcx,b2];rfl,by rw[Wgm,b3]⟩⟩
     .rw[Wb5,a1]
     .rw[Wb5,b1]
     .rw[Wb5,b1]
    have doit:∀b:Bool,x=one .bool b->rx1 T Γ A o (st.put (some t) (one .bool b)) some=some ac->
      ∃v pre af,Eff o v pre af st ac/\(Wai o=false->pre= []/\af=st.nx)/\
       ∃aY,rx1 T Γ A o (ah.put (some t) (one .bool b)) some=some aY/\(Wai o=true->Eff o v pre af ah aY)/\(Wai o=false->Eff o v [] ah.nx ah aY):=by
     intro b hb h1;subst hb;have l1:=Wcp hx;have l2:=Wcp (st:=ah) (t:=t) (x:=one .bool b) (by rw[eV];exact hx);have kt:∀x∈WN o.op,ev (st.put (some t) (one .bool b)) x=ev st x:=λx hx=>Wdp λt' _=>l1 t';have mp:∀x∈WN o.op,ev (ah.put (some t) (one .bool b)) x=ev ah x:=λx hx=>Wdp λt' _=>l2 t';obtain⟨v,pre,af,e1,e2,aY,e3,e4,e5⟩:=WnI (ah:=ah.put (some t) (one .bool b)) h1 (λx hx=>by rw[mp x hx,kt x hx,nZ x hx])
      (λco=>hm co) (λdu id aO=>hf du id (by rw[←Wex kt];exact aO))
     refine⟨v,pre,af,⟨λt'=>by rw[e1.env,l1],e1.objs,e1.nx⟩,e2,aY,e3,λco=>⟨λt'=>by rw[(e4 co).env,l2],(e4 co).objs,(e4 co).nx⟩,λco=>⟨λt'=>by rw[(e5 co).env,l2],(e5 co).objs,(e5 co).nx⟩⟩
    have main:(match asB x with
      |some b=>bif b
       then(if want then rx1 T Γ A o (st.put (some t) (one .bool true)) some else some ((st.put (some t) (one .bool true)).put o.dst (.tup [])))
       else(if want then some ((st.put (some t) (one .bool false)).put o.dst (.tup []))else rx1 T Γ A o (st.put (some t) (one .bool false)) some)
      |none=>none)=some ac->∃v pre af,Eff o v pre af st ac/\(Wai o=false->pre= []/\af=st.nx)/\
       ∃aY,(match asB x with
      |some b=>bif b
       then(if want then rx1 T Γ A o (ah.put (some t) (one .bool true)) some else some ((ah.put (some t) (one .bool true)).put o.dst (.tup [])))
       else(if want then some ((ah.put (some t) (one .bool false)).put o.dst (.tup []))else rx1 T Γ A o (ah.put (some t) (one .bool false)) some)
      |none=>none)=some aY/\(Wai o=true->Eff o v pre af ah aY)/\(Wai o=false->Eff o v [] ah.nx ah aY):=by
     intro h;cases hb:asB x with
     |none=>rw[hb]at h;cases h
     |some b=>
      rw[hb]at h;have cu:=Wpt hb;have r1:∀b',b'=b->∀t',We (st.put (some t) (one .bool b')).env t'=We st.env t':=λb' e=>by subst e;exact Wcp (by rw[hx,cu])
      have r2:∀b',b'=b->∀t',We (ah.put (some t) (one .bool b')).env t'=We ah.env t':=λb' e=>by subst e;exact Wcp (by rw[eV,hx,cu])
      cases b<;>cases want
      .exact doit false cu h
      .exact skip _ _ _ h (r1 _ rfl) (Wcx _ _ _) (Wgm _ _ _) (r2 _ rfl) (Wcx _ _ _) (Wgm _ _ _)
      .exact skip _ _ _ h (r1 _ rfl) (Wcx _ _ _) (Wgm _ _ _) (r2 _ rfl) (Wcx _ _ _) (Wgm _ _ _)
      .exact doit true cu h
    cases x with
    |s y=>exact main h
    |tup l=>
     cases l with
     |nil=>exact skip st ah ac h (λ_=>rfl) rfl rfl (λ_=>rfl) rfl rfl
     |cons y l=>exact main h
end
end Go.Sx
namespace Go.Sx
set_option linter.unusedVariables false
set_option linter.unusedSimpArgs false
structure Rc where
 i:Nat
 v:AVal
 pre:WP
 nx:Nat
 ids:List Nat
 mv:Bool
section
variable{T:Tab}{Γ:Ctx}{A:List (Nat×An)}{ops:Array Oper}
structure StepTo(T:Tab)(Γ:Ctx)(A:List (Nat×An))(ops:Array Oper)(ρ:Rc)(o:Oper)(st ac:St):Prop where
 at_:ops[ρ.i]?=some o
 isM:ρ.mv=Wai o
 lk:ρ.mv=false->ρ.ids=WbL o st
 run:rxg T Γ A ops o st some=some ac
 env:∀t,We ac.env t=if o.dst=some t then some ρ.v else We st.env t
 objs:ac.objs=if ρ.mv then ρ.pre++st.objs else st.objs
 nx:ac.nx=if ρ.mv then ρ.nx else st.nx
def WpW(T:Tab)(Γ:Ctx)(A:List (Nat×An))(ops:Array Oper):List Rc->St->St->Prop
 | [],st,ac=>st=ac
 |ρ::l,st,ac=>∃o ch,StepTo T Γ A ops ρ o st ch/\WpW T Γ A ops l ch ac
theorem WnG{i:Nat}{o:Oper}{st ac:St}(hi:ops[i]?=some o)(h:rxg T Γ A ops o st some=some ac):
  ∃ρ:Rc,ρ.i=i/\StepTo T Γ A ops ρ o st ac:=by
 obtain⟨v,pre,af,e1,e2,_⟩:=Wnl (ah:=st) h (λ_ _=>rfl) (λ_=>⟨rfl,rfl⟩) (λ_ _ _=>rfl);refine⟨⟨i,v,pre,af,WbL o st,Wai o⟩,rfl,hi,rfl,λ_=>rfl,h,e1.env,?_,?_⟩
 .simp only;cases hm:Wai o with
  |true=>simpa using e1.objs
  |false=>rw[e1.objs,(e2 hm).1];rfl
 .simp only;cases hm:Wai o with
  |true=>simpa using e1.nx
  |false=>rw[e1.nx,(e2 hm).2];rfl
theorem StepTo.move{ρ:Rc}{o:Oper}{st ac ah:St}(h:StepTo T Γ A ops ρ o st ac)(he:∀t∈Wb7 ops o,We ah.env t=We st.env t)
  (hm:ρ.mv=true->ah.objs=st.objs/\ah.nx=st.nx) (hf:ρ.mv=false->∀id∈ρ.ids,We ah.objs id=We st.objs id):
  ∃aY,StepTo T Γ A ops ρ o ah aY:=by
 obtain⟨v,pre,af,e1,e2,aY,e3,e4,e5⟩:=Wnl (ah:=ah) h.run he (λco=>hm (by rw[h.isM];exact co)) (λdu id aO=>hf (by rw[h.isM];exact du) id (by rw[h.lk (by rw[h.isM];exact du)];exact aO));have hv:∀t,o.dst=some t->v=ρ.v:=λt ht=>by
  have a:=e1.env t;have b:=h.env t;rw[if_pos ht]at a b;rw[a]at b;injection b
 have lK:ρ.mv=false->WbL o ah=WbL o st:=λ_=>Wex λx hx=>Wdp λt ht=>he t (by
  unfold Wb7;exact Xi _ (Xez.2 ⟨x,hx,ht⟩))
 cases co:Wai o with
 |true=>
  have hρ:ρ.mv=true:=by rw[h.isM];exact co
  have e4:=e4 co;obtain⟨q1,q2⟩:=hm hρ;refine⟨aY,h.at_,h.isM,λhf=>(by rw[hρ]at hf;cases hf),e3,λt=>?_,?_,?_⟩
  .rw[e4.env];split
   .rename_i ht;rw[hv t ht]
   .rfl
  .rw[e4.objs,hρ];simp only[if_true];have a:=e1.objs;have b:=h.objs;rw[hρ]at b;simp only[if_true]at b;rw[a]at b;rw[List.append_cancel_right b]
  .rw[e4.nx,hρ];simp only[if_true];have a:=e1.nx;have b:=h.nx;rw[hρ]at b;simp only[if_true]at b;rw[←a,b]
 |false=>
  have hρ:ρ.mv=false:=by rw[h.isM];exact co
  have e5:=e5 co;refine⟨aY,h.at_,h.isM,λhf=>by rw[lK hρ];exact h.lk hρ,e3,λt=>?_,?_,?_⟩
  .rw[e5.env];split
   .rename_i ht;rw[hv t ht]
   .rfl
  .rw[e5.objs,hρ];rfl
  .rw[e5.nx,hρ];rfl
def Wox(ids:List Nat)(pre:WP):Prop:=∀id∈ids,id∉Wfo pre
def WqZ(B:List (List Nat))(x y:Rc):Prop:=
 (x.mv=false->y.mv=true->WbW B x.i y.i=true\/Wox x.ids y.pre)/\
 (x.mv=true->y.mv=false->WbW B x.i y.i=true\/Wox y.ids x.pre)
theorem WcN{α:Type}:∀(l:List Nat) (k:List Nat->α),Wev l k=k l
 | [],_=>rfl
 |x::l,k=>by rw[Wev,WcN l]
theorem WiK{α:Type}:∀(l:List (List Nat)) (k:List (List Nat)->α),Wk0 l k=k l
 | [],_=>rfl
 |x::l,k=>by rw[Wk0,WcN,WiK l]
theorem WgP{ids:List Nat}{pre:WP}(h:We4 ids (Wfo pre)=true):Wox ids pre:=λid aO hk=>by
 unfold We4 at h;have:=Xaf.1 h id aO;rw[(Wah id _).2 hk]at this;cases this
theorem WlK(pre objs:WP):Wmy objs (pre++objs)=Wfo pre:=by
 unfold Wmy;simp
theorem Wh3{B:List (List Nat)}{R:Type}{k:St->Option R}{r:R}:∀(l:List Nat) (fl mu:List (Nat×List Nat)) (st:St),rdx T Γ A ops B l fl mu st k=some r->
  ∃(rs:List Rc) (ac:St),rs.map (·.i)=l/\WpW T Γ A ops rs st ac/\k ac=some r/\rs.Pairwise (WqZ B)/\
   (∀p∈fl,∀ρ∈rs,ρ.mv=true->WbW B p.1 ρ.i=true\/Wox p.2 ρ.pre)/\
   (∀p∈mu,∀ρ∈rs,ρ.mv=false->WbW B p.1 ρ.i=true\/We4 ρ.ids p.2=true)
 | [],fl,mu,st,h=>⟨[],st,rfl,rfl,h,List.Pairwise.nil,by simp,by simp⟩
 |i::l,fl,mu,st,h=>by
  simp only[rdx]at h;cases ho:ops[i]? with
  |none=>rw[ho]at h;cases h
  |some o=>
   rw[ho]at h;simp only at h;cases hm:Wai o with
   |true=>
    simp only[hm,cond_true]at h;obtain⟨ch,h1,h2⟩:=Wle h;rw[WcN]at h2;obtain⟨fX,h2⟩:=Wae h2;obtain⟨ρ,hi,hs⟩:=WnG ho h1;have hρ:ρ.mv=true:=by rw[hs.isM];exact hm
    have al:=hs.objs;rw[hρ]at al;simp only[if_true]at al;rw[al,WlK]at fX h2;obtain⟨rs,ac,q1,q2,q3,q4,q5,q6⟩:=Wh3 l _ _ _ h2;refine⟨ρ::rs,ac,by simp[hi,q1],⟨o,ch,hs,q2⟩,q3,List.Pairwise.cons (λy hy=>⟨λhf=>(by rw[hρ]at hf;cases hf),λ_ iM=>?_⟩) q4,λp hp y hy iN=>?_,λp hp y hy iM=>?_⟩
    .rcases q6 (i,Wfo ρ.pre) (Xg ..) y hy iM with h|h
     .rw[hi];exact .inl h
     .exact .inr (WgP h)
    .rcases Xm.1 hy with rfl|hy
     .have:=Xaf.1 fX p hp;rw[Xcc]at this;rw[hi];exact this.imp id WgP
     .exact q5 p hp y hy iN
    .rcases Xm.1 hy with rfl|hy
     .rw[hρ]at iM;cases iM
     .exact q6 p (Xe _ hp) y hy iM
   |false=>
    simp only[hm,cond_false]at h;rw[WcN]at h;obtain⟨fX,h⟩:=Wae h;obtain⟨ch,h1,h2⟩:=Wle h;obtain⟨ρ,hi,hs⟩:=WnG ho h1;have hρ:ρ.mv=false:=by rw[hs.isM];exact hm
    have mq:=hs.lk hρ;rw[←mq]at fX h2;obtain⟨rs,ac,q1,q2,q3,q4,q5,q6⟩:=Wh3 l _ _ _ h2;refine⟨ρ::rs,ac,by simp[hi,q1],⟨o,ch,hs,q2⟩,q3,List.Pairwise.cons (λy hy=>⟨λ_ iN=>?_,λhf=>(by rw[hρ]at hf;cases hf)⟩) q4,λp hp y hy iN=>?_,λp hp y hy iM=>?_⟩
    .rw[hi];exact q5 (i,ρ.ids) (Xg ..) y hy iN
    .rcases Xm.1 hy with rfl|hy
     .rw[hρ]at iN;cases iN
     .exact q5 p (Xe _ hp) y hy iN
    .rcases Xm.1 hy with rfl|hy
     .have:=Xaf.1 fX p hp;rw[Xcc]at this;rw[hi];exact this
     .exact q6 p hp y hy iM
def WcJ(ops:Array Oper)(i:Nat):Option Tmp:=(ops[i]?).bind (·.dst)
def WkZ(ops:Array Oper):List Rc->(Nat->Option AVal)->Nat->Option AVal
 | [],e,t=>e t
 |ρ::a,e,t=>WkZ ops a (λt'=>if WcJ ops ρ.i=some t' then some ρ.v else e t') t
def Wfx:List Rc->WP×Nat->WP×Nat
 | [],m=>m
 |ρ::a,m=>Wfx a (if ρ.mv then(ρ.pre++m.1,ρ.nx)else m)
theorem WeU:∀(rs:List Rc) (st ac:St),WpW T Γ A ops rs st ac->(∀t,We ac.env t=WkZ ops rs (We st.env) t)/\(ac.objs,ac.nx)=Wfx rs (st.objs,st.nx)
 | [],st,ac,h=>by cases h;exact⟨λ_=>rfl,rfl⟩
 |ρ::rs,st,ac,⟨o,ch,hs,h⟩=>by
  obtain⟨h1,h2⟩:=WeU rs ch ac h;have e:(We ch.env)= λt'=>if WcJ ops ρ.i=some t' then some ρ.v else We st.env t':=funext λt=>by
   rw[hs.env];unfold WcJ;rw[hs.at_];rfl
  refine⟨λt=>by rw[h1,e];rfl,?_⟩;rw[h2,Wfx];congr 1;rw[hs.objs,hs.nx];split<;>rfl
theorem Wg7:∀(a:List Rc) (ρ:Rc) (b:List Rc) (st ac:St),WpW T Γ A ops (a++ρ::b) st ac->∃o ch ah,WpW T Γ A ops a st ch/\StepTo T Γ A ops ρ o ch ah
 | [],ρ,b,st,ac,⟨o,ch,hs,h⟩=>⟨o,st,ch,rfl,hs⟩
 |x::a,ρ,b,st,ac,⟨o,ch,hs,h⟩=>by
  obtain⟨o',s1,s2,h1,h2⟩:=Wg7 a ρ b ch ac h;exact⟨o',s1,s2,⟨o,ch,hs,h1⟩,h2⟩
theorem WaU:∀(a:List Rc) (m:WP×Nat),Wfx a m=Wfx (a.filter (·.mv)) m
 | [],_=>rfl
 |ρ::a,m=>by
  rw[Wfx,WaU a,Xbm];cases h:ρ.mv with
  |true=>simp only[if_true,Wfx,h]
  |false=>simp only[Xbv,if_false]
theorem Wct:∀(a b:List Rc) (m:WP×Nat),Wfx (a++b) m=Wfx b (Wfx a m)
 | [],_,_=>rfl
 |ρ::a,b,m=>by rw[Xbd,Wfx,Wct a b];rfl
theorem WfW{pre objs:WP}{id:Nat}(h:id∉Wfo pre):We (pre++objs) id=We objs id:=by
 induction pre with
 |nil=>rfl
 |cons p pre ih=>
  obtain⟨j,ob⟩:=p;simp only[Wfo,Xag,Xm,not_or]at h;rw[Xbd,Wl,if_neg (λe=>h.1 e.symm)];exact ih h.2
theorem WfZ{id:Nat}:∀(a:List Rc) (m:WP×Nat),(∀ρ∈a,ρ.mv=true->id∉Wfo ρ.pre)->We (Wfx a m).1 id=We m.1 id
 | [],_,_=>rfl
 |ρ::a,m,h=>by
  rw[Wfx,WfZ a _ λx hx=>h x (Xe _ hx)];split
  .rename_i hm;exact WfW (h ρ (Xg ..) hm)
  .rfl
def Wh5(ops:Array Oper):Prop:=∀i j t,WcJ ops i=some t->WcJ ops j=some t->i=j
theorem Weg{t:Nat}:∀(a:List Rc) (e:Nat->Option AVal),(∀ρ∈a,WcJ ops ρ.i≠some t)->WkZ ops a e t=e t
 | [],_,_=>rfl
 |ρ::a,e,h=>by
  rw[WkZ,Weg a _ λx hx=>h x (Xe _ hx),if_neg (h ρ (Xg ..))]
theorem Wgo{t:Nat}(h1:Wh5 ops):∀(a:List Rc) (e:Nat->Option AVal),(a.map (·.i)).Nodup->∀ρ∈a,WcJ ops ρ.i=some t->WkZ ops a e t=some ρ.v
 | [],_,_,_,h,_=>by cases h
 |x::a,e,hn,ρ,hρ,ht=>by
  rw[Xag,Xz]at hn;rw[WkZ];rcases Xm.1 hρ with rfl|hρ
  .rw[Weg a _ λy hy pp=>hn.1 (by rw[h1 _ _ _ ht pp];exact Xt.2 ⟨y,hy,rfl⟩),if_pos ht]
  .exact Wgo h1 a _ hn.2 ρ hρ ht
theorem Wha{t:Nat}(h1:Wh5 ops){a b:List Rc}{e:Nat->Option AVal}(ha:(a.map (·.i)).Nodup)(hb:(b.map (·.i)).Nodup)
  (h:∀ρ,WcJ ops ρ.i=some t->(ρ∈a↔ρ∈b)):WkZ ops a e t=WkZ ops b e t:=by
 by_cases hx:∃ρ∈a,WcJ ops ρ.i=some t
 .obtain⟨ρ,hρ,ht⟩:=hx;rw[Wgo h1 a e ha ρ hρ ht,Wgo h1 b e hb ρ ((h ρ ht).1 hρ) ht]
 .rw[Weg a e λρ hρ ht=>hx ⟨ρ,hρ,ht⟩,Weg b e λρ hρ ht=>hx ⟨ρ,(h ρ ht).2 hρ,ht⟩]
end
end Go.Sx
namespace Go.Sx
set_option linter.unusedVariables false
set_option linter.unusedSimpArgs false
theorem WdP{α:Type}{x:α}:∀{a c b d:List α},(a++x::b).Nodup->a++x::b=c++x::d->a=c
 | [],[],_,_,_,_=>rfl
 | [],y::c,b,d,hn,h=>by
  simp only[Xbj,Xbd,List.cons.injEq]at h;obtain⟨rfl,h⟩:=h;rw[Xbj,Xz]at hn;exact absurd (by rw[h];simp) hn.1
 |y::a,[],b,d,hn,h=>by
  simp only[Xbj,Xbd,List.cons.injEq]at h;obtain⟨rfl,h⟩:=h;rw[Xbd,Xz]at hn;exact absurd (by simp) hn.1
 |y::a,z::c,b,d,hn,h=>by
  simp only[Xbd,List.cons.injEq]at h;obtain⟨rfl,h⟩:=h;rw[Xbd,Xz]at hn;rw[WdP hn.2 h]
def Wad(ops:Array Oper)(i:Nat):Bool:=match ops[i]? with
 |some o=>Wai o
 |none=>false
theorem Rel.same{w0:World}{F:CS}{nt:Slots}{G0 G:GH}{ν:Nat->Nu}{st ah:St}{a:Act}{w:World}(h:Rel w0 F nt G0 G ν st a w)
  (he:∀t,We ah.env t=We st.env t) (ho:ah.objs=st.objs) (hn:ah.nx=st.nx):Rel w0 F nt G0 G ν ah a w:=
 ⟨h.defers,h.ntm,h.par,λi x hx=>by rw[he]at hx;rw[hn];exact h.env i x hx,by rw[ho,hn];exact h.h,h.gx⟩
theorem Wo6:∀(rs:List Rc),(rs.map (·.i)).Nodup->∃rec:Nat->Rc,∀ρ∈rs,rec ρ.i=ρ
 | [],_=>⟨λi=>⟨i,.tup [],[],0,[],false⟩,by simp⟩
 |ρ::rs,h=>by
  rw[Xag,Xz]at h;obtain⟨rec,hr⟩:=Wo6 rs h.2;refine⟨λi=>if i=ρ.i then ρ else rec i,λx hx=>?_⟩;rcases Xm.1 hx with rfl|hx
  .simp
  .simp only;rw[if_neg (λe=>h.1 (by rw[←e];exact Xt.2 ⟨x,hx,rfl⟩))];exact hr x hx
section
variable{w0:World}{F:CS}{nt:Slots}{G0:GH}{P:Program}{T:Tab}{Γ:Ctx}{A:List (Nat×An)}{ops:Array Oper}{Q:Exit->Act->World->Prop}
theorem WmX(hT:WW P T)(hΓ:Wdu P Γ)(hd:∀o∈ops,∀d,o.dst=some d->nt.Ok d){l L:List Nat}(hl:Order ops l)(hL:Order ops L)(cu:Wh5 ops)
  (hsl:∀(i:Nat) (o:Oper) (t:Nat),ops[i]?=some o->t∈Wb7 ops o->∀j,WcJ ops j=some t->j=i\/WbW (WcO ops.toList []) j i=true\/WbW (WcO ops.toList []) i j=true)
  (hσ:l.filter (Wad ops)=L.filter (Wad ops)) {rs:List Rc} {st ac:St} (fq:rs.map (·.i)=L) (fY:WpW T Γ A ops rs st ac) (bd:rs.Pairwise (WqZ (WcO ops.toList [])))
  (hK:∀a w G ν,Rel w0 F nt G0 G ν ac a w->Q .normal a w) {a:Act} {w:World} {G:GH} {ν:Nat->Nu} (hr:Rel w0 F nt G0 G ν st a w):wpOps P ops Q l a w:=by
 have au:(rs.map (·.i)).Nodup:=by rw[fq];exact hL.nodup
 obtain⟨rec,cj⟩:=Wo6 rs au;have hLr:L.map rec=rs:=by
  rw[←fq,Xed]
  conv=>rhs;rw[←List.map_id rs]
  exact Xeg λρ hρ=>cj ρ hρ
 have eW:∀i,i∈l↔i∈L:=λi=>by rw[←hl.all,hL.all]
 have fu:∀i∈L,(rec i).i=i/\rec i∈rs:=λi hi=>by
  rw[←fq]at hi;obtain⟨ρ,hρ,rfl⟩:=Xt.1 hi;rw[cj ρ hρ];exact⟨rfl,hρ⟩
 have cp:∀i∈L,∃pre post o ch ah,L=pre++i::post/\WpW T Γ A ops (pre.map rec) st ch/\StepTo T Γ A ops (rec i) o ch ah:=λi hi=>by
  obtain⟨pre,post,e⟩:=Xdq hi;have:rs=pre.map rec++rec i::post.map rec:=by rw[←hLr,e];simp
  rw[this]at fY;obtain⟨o,ch,ah,h1,h2⟩:=Wg7 _ _ _ _ _ fY;exact⟨pre,post,o,ch,ah,e,h1,h2⟩
 have dD:∀i∈L,(rec i).mv=Wad ops i:=λi hi=>by
  obtain⟨pre,post,o,ch,ah,e,h1,h2⟩:=cp i hi;rw[h2.isM];have:=h2.at_;rw[(fu i hi).1]at this;unfold Wad;rw[this]
 have db:∀(p:List Nat),(∀i∈p,i∈L)->(p.map rec).filter (·.mv)=(p.filter (Wad ops)).map rec:=by
  intro p
  induction p with
  |nil=>intro _;rfl
  |cons i p ih=>
   intro h;have:=ih λj hj=>h j (Xe _ hj);rw[Xag,Xbm,Xbm,dD i (h i (Xg ..))];split
   .rw[Xag,this]
   .exact this
 have iO:∀(p:List Nat),(∀i∈p,i∈L)->(p.map rec).map (·.i)=p:=by
  intro p h;rw[Xed]
  conv=>rhs;rw[←List.map_id p]
  exact Xeg λi hi=>(fu i (h i hi)).1
 have dG:∀(p:List Nat),(∀i∈p,i∈L)->∀i∈L,(rec i∈p.map rec↔i∈p):=λp hp i hi=>by
  constructor
  .intro h;obtain⟨j,hj,e⟩:=Xt.1 h;have:j=i:=by rw[←(fu j (hp j hj)).1,←(fu i hi).1,e]
   rw[←this];exact hj
  .exactλh=>Xt.2 ⟨i,h,rfl⟩
 have im:∀i j pre post,L=pre++i::post->j∈post->WqZ (WcO ops.toList []) (rec i) (rec j):=λi j pre post e hj=>by
  have:rs=pre.map rec++rec i::post.map rec:=by rw[←hLr,e];simp
  rw[this,List.pairwise_append]at bd;exact(List.pairwise_cons.1 bd.2.1).1 _ (Xt.2 ⟨j,hj,rfl⟩)
 suffices main:∀(s p:List Nat),l=p++s->∀(ah:St) (a:Act) (w:World) (G:GH) (ν:Nat->Nu),Rel w0 F nt G0 G ν ah a w->
   (∀t,We ah.env t=WkZ ops (p.map rec) (We st.env) t)->(ah.objs,ah.nx)=Wfx (p.map rec) (st.objs,st.nx)->wpOps P ops Q s a w from
  main l [] rfl st a w G ν hr (λ_=>rfl) rfl
 intro s
 induction s with
 |nil=>
  intro p e ah a w G ν ew he hm;rw[Xcj]at e;subst e;obtain⟨f1,f2⟩:=WeU _ _ _ fY;have ku:∀i∈l,i∈L:=λi hi=>(eW i).1 hi;refine hK a w G ν (ew.same (λt=>?_) ?_ ?_)
  .rw[f1,he];refine Wha cu au (by rw[iO l ku];exact hl.nodup) λρ _=>?_;constructor
   .intro hρ;have hi:ρ.i∈L:=by rw[←fq];exact Xt.2 ⟨ρ,hρ,rfl⟩
    rw[←cj ρ hρ];exact(dG l ku ρ.i hi).2 ((eW _).2 hi)
   .intro hρ;obtain⟨i,hi,rfl⟩:=Xt.1 hρ;exact(fu i (ku i hi)).2
  .have:Wfx (l.map rec) (st.objs,st.nx)=Wfx rs (st.objs,st.nx):=by
    rw[WaU,db l ku,hσ,←db L (λi hi=>hi),←WaU,hLr]
   rw[this,←f2]at hm;exact(congrArg (·.1) hm).symm
  .have:Wfx (l.map rec) (st.objs,st.nx)=Wfx rs (st.objs,st.nx):=by
    rw[WaU,db l ku,hσ,←db L (λi hi=>hi),←WaU,hLr]
   rw[this,←f2]at hm;exact(congrArg (·.2) hm).symm
 |cons i s ih=>
  intro p e ah a w G ν ew he hm;have jx:i∈L:=(eW i).1 (by rw[e];simp);have kw:∀j∈p,j∈L:=λj hj=>(eW j).1 (by rw[e];exact Xi _ hj);obtain⟨pre,post,o,ch,pq,eL,h1,h2⟩:=cp i jx;have eX:∀j∈pre,j∈L:=λj hj=>by rw[eL];exact Xi _ hj
  have ls:ops[i]?=some o:=by have:=h2.at_;rw[(fu i jx).1]at this;exact this
  obtain⟨g1,g2⟩:=WeU _ _ _ h1;have gV:=hl.nodup;have gW:=hL.nodup;rw[e]at gV;rw[eL]at gW;have kx:i∉p:=λh=>(Xaa.1 gV).2.2 i h i (Xg ..) rfl;have eY:i∉pre:=λh=>(Xaa.1 gW).2.2 i h i (Xg ..) rfl;have iP:∀t∈Wb7 ops o,We ah.env t=We ch.env t:=λt ht=>by
   rw[he,g1];refine Wha cu (by rw[iO p kw];exact(Xaa.1 gV).1) (by rw[iO pre eX];exact(Xaa.1 gW).1) λρ hρt=>?_;have key:∀j∈L,WcJ ops j=some t->(j∈p↔j∈pre):=λj hj mb=>by
    rcases hsl i o t ls ht j mb with rfl|hb|hb
    .exact⟨λh=>absurd h kx,λh=>absurd h eY⟩
    .by_cases ky:j=i
     .subst ky;exact⟨λh=>absurd h kx,λh=>absurd h eY⟩
     .exact⟨λ_=>hL.bef' eL hb ky,λ_=>hl.bef' e hb ky⟩
    .exact⟨λh=>absurd (hl.bef e hb h) kx,λh=>absurd (hL.bef eL hb h) eY⟩
   constructor
   .intro hρ;obtain⟨j,hj,rfl⟩:=Xt.1 hρ;have kz:=kw j hj;rw[(fu j kz).1]at hρt;exact Xt.2 ⟨j,(key j kz hρt).1 hj,rfl⟩
   .intro hρ;obtain⟨j,hj,rfl⟩:=Xt.1 hρ;have kz:=eX j hj;rw[(fu j kz).1]at hρt;exact Xt.2 ⟨j,(key j kz hρt).2 hj,rfl⟩
  have n0:Wfx (p.map rec) (st.objs,st.nx)=Wfx ((p.filter (Wad ops)).map rec) (st.objs,st.nx):=by rw[WaU,db p kw]
  have io:Wfx (pre.map rec) (st.objs,st.nx)=Wfx ((pre.filter (Wad ops)).map rec) (st.objs,st.nx):=by rw[WaU,db pre eX]
  obtain⟨pr,h3⟩:=h2.move (ah:=ah) iP (λco=>by
   have lu:Wad ops i=true:=by rw[←dD i jx];exact co
   have:p.filter (Wad ops)=pre.filter (Wad ops):=by
    have q:=hσ;rw[e,eL,Xcp,Xcp,Xbm,Xbm,if_pos lu,if_pos lu]at q;refine WdP ?_ q;have:=hl.nodup.filter (Wad ops);rw[e,Xcp,Xbm,if_pos lu]at this;exact this
   rw[n0,this,←io,←g2]at hm;exact⟨congrArg (·.1) hm,congrArg (·.2) hm⟩) (λdu id aO=>by
   have q:(p.filter (Wad ops))<+:l.filter (Wad ops):=by rw[e,Xcp];exact Xfr _ _
   have q2:(pre.filter (Wad ops))<+:l.filter (Wad ops):=by rw[hσ,eL,Xcp];exact Xfr _ _
   have kb:ah.objs=(Wfx ((p.filter (Wad ops)).map rec) (st.objs,st.nx)).1:=by rw[←n0,←hm]
   have lh:ch.objs=(Wfx ((pre.filter (Wad ops)).map rec) (st.objs,st.nx)).1:=by rw[←io,←g2]
   rw[kb,lh];rcases List.prefix_or_prefix_of_prefix q q2 with⟨X,hX⟩|⟨X,hX⟩
   .
    rw[←hX,Xo,Wct];refine(WfZ _ _ λρ hρ hρm=>?_).symm;obtain⟨m,jy,rfl⟩:=Xt.1 hρ;have ey:m∈pre:=(Xat.1 (by rw[←hX];exact Xf _ jy:m∈pre.filter (Wad ops))).1;have iQ:m∉p:=λhmem=>by
     have mr:Wad ops m=true:=(Xat.1 (by rw[←hX];exact Xf _ jy:m∈pre.filter (Wad ops))).2;have fZ:(pre.filter (Wad ops)).Nodup:=(Xaa.1 gW).1.filter _;rw[←hX]at fZ;exact(Xaa.1 fZ).2.2 m (Xat.2 ⟨hmem,mr⟩) m jy rfl
    obtain⟨u,v,eu⟩:=Xdq ey;have hf:=im m i u (v++i::post) (by rw[eL,eu];simp) (by simp);rcases hf.2 hρm du with hb|hb
    .rw[(fu m (eX m ey)).1,(fu i jx).1]at hb;exact absurd (hl.bef' e hb (λhc=>eY (hc▸ey))) iQ
    .exact hb id aO
   .rw[←hX,Xo,Wct];refine WfZ _ _ λρ hρ hρm=>?_;obtain⟨m,jy,rfl⟩:=Xt.1 hρ;have n7:m∈p.filter (Wad ops):=by rw[←hX];exact Xf _ jy
    have gX:m∈p:=(Xat.1 n7).1;have iQ:m∉pre:=λhmem=>by
     have mr:Wad ops m=true:=(Xat.1 n7).2;have fZ:(p.filter (Wad ops)).Nodup:=(Xaa.1 gV).1.filter _;rw[←hX]at fZ;exact(Xaa.1 fZ).2.2 m (Xat.2 ⟨hmem,mr⟩) m jy rfl
    have oa:=kw m gX;have iR:m∈post:=by
     rw[eL]at oa;rcases Xk.1 oa with h|h
     .exact absurd h iQ
     .rcases Xm.1 h with h|h
      .exact absurd (h▸gX) kx
      .exact h
    have hf:=im i m pre post eL iR;rcases hf.1 du hρm with hb|hb
    .rw[(fu m (kw m gX)).1,(fu i jx).1]at hb;exact absurd (hl.bef e hb gX) kx
    .exact hb id aO)
  have pt:∀d,o.dst=some d->nt.Ok d:=hd o (Array.mem_of_getElem? ls);have lv:=Wpf (F:=F) (G0:=G0) (w0:=w0) hT hΓ pt (Q:=Q) (k:=some) (r:=pr) (K:=wpOps P ops Q s) (λpu a' w' G' ν' hr4 h4=>by
   injection h4 with h4;subst h4;refine ih (p++ [i]) (by rw[e];simp) pu a' w' G' ν' hr4 (λt=>?_) ?_
   .rw[h3.env];have hv:WkZ ops ((p++ [i]).map rec) (We st.env) t=if WcJ ops i=some t then some (rec i).v else WkZ ops (p.map rec) (We st.env) t:=by
     rw[Xo];have gen:∀(x:List Rc) (y:Rc) (e:Nat->Option AVal),WkZ ops (x++ [y]) e t=if WcJ ops y.i=some t then some y.v else WkZ ops x e t:=by
      intro x
      induction x with
      |nil=>intro y e;rfl
      |cons z x ih=>intro y e;rw[Xbd,WkZ,ih];rfl
     rw[List.map_singleton,gen,(fu i jx).1]
    rw[hv,he];have:WcJ ops i=o.dst:=by unfold WcJ;rw[ls];rfl
    rw[this]
   .rw[Xo,Wct,←hm];simp only[Xag,Xca,Wfx];rw[h3.objs,h3.nx];split<;>rfl) ew h3.run
  rw[wpOps_cons];unfold wpOp;rw[ls];simp only;split
  .rename_i hw;rw[if_pos hw]at lv;exact .inl lv
  .rename_i hw;rw[if_neg hw]at lv;exact lv
end
end Go.Sx
namespace Go.Sx
set_option linter.unusedVariables false
set_option linter.unusedSimpArgs false
theorem Wg1:∀{l:List (Nat×Nat)},WaJ (l.map (·.1))=true->∀p∈l,∀q∈l,p.1=q.1->p=q
 | [],_,p,hp,_,_,_=>by cases hp
 |x::l,h,p,hp,q,hq,e=>by
  have hn:=(Wdb _).1 h;simp only[Xag,WaJ,Xh]at h;rw[Xag,Xz]at hn;rcases Xm.1 hp with h1|h1
  .rcases Xm.1 hq with h2|h2
   .rw[h1,h2]
   .exact absurd (Xt.2 ⟨q,h2,by rw[←e,h1]⟩) hn.1
  .rcases Xm.1 hq with h2|h2
   .exact absurd (Xt.2 ⟨p,h1,by rw[e,h2]⟩) hn.1
   .exact Wg1 h.2 p h1 q h2 e
theorem Wg8:∀(l:List Oper) (n k:Nat) (o:Oper) (d:Nat),l[k]?=some o->o.dst=some d->(d,n+k)∈Wft l n
 | [],_,k,o,d,h,_=>by simp at h
 |x::l,n,k,o,d,h,hd=>by
  cases k with
  |zero=>
   simp at h;subst h;simp only[Wft,hd];exact Xg ..
  |succ k=>
   have:=Wg8 l (n+1) k o d (by simpa using h) hd;have e:n+(k+1)=n+1+k:=by omega
   rw[e];simp only[Wft];split
   .exact Xe _ this
   .exact this
theorem Wfi{ops:Array Oper}{B:List (List Nat)}{D:List (Nat×Nat)}:∀(l:List Oper) (n:Nat),WhC ops B D l n=true->∀(k:Nat) (o:Oper),l[k]?=some o->∀t∈Wb7 ops o,∀p∈D,p.1=t->
  p.2=n+k\/WbW B p.2 (n+k)=true\/WbW B (n+k) p.2=true
 | [],_,_,k,o,h=>by simp at h
 |x::l,n,h,k,o,hk=>by
  simp only[WhC,Xh]at h;cases k with
  |zero=>
   simp at hk;subst hk;intro t ht p hp e;have:=Xaf.1 (Xaf.1 h.1 t ht) p hp;simp only[Xcc,Xai]at this;rcases this with((h1|h1)|h1)|h1
   .rw[e]at h1;simp at h1
   .exact .inl (by simpa using h1)
   .exact .inr (.inl h1)
   .exact .inr (.inr h1)
  |succ k=>
   have:=Wfi l (n+1) h.2 k o (by simpa using hk);have e:n+(k+1)=n+1+k:=by omega
   rw[e];exact this
structure RegOk(ops:Array Oper):Prop where
 back:∀(k:Nat) (o:Oper),ops[k]?=some o->∀d∈Wjt o,d<k
 one:Wh5 ops
 slots:∀(i:Nat) (o:Oper) (t:Nat),ops[i]?=some o->t∈Wb7 ops o->∀j,WcJ ops j=some t->j=i\/WbW (WcO ops.toList []) j i=true\/WbW (WcO ops.toList []) i j=true
theorem Wf5{ops:Array Oper}{j t:Nat}(h:WcJ ops j=some t):(t,j)∈Wft ops.toList 0:=by
 unfold WcJ at h;obtain⟨o,ho,hd⟩:=Xbn.1 h;have:=Wg8 ops.toList 0 j o t (by simpa using ho) hd;rw[Xbe]at this;exact this
theorem WlN{ops:Array Oper}(h:Wp0 ops (WcO ops.toList [])=true):RegOk ops:=by
 simp only[Wp0,Xh]at h;obtain⟨⟨h1,h2⟩,h3⟩:=h;refine⟨λk o ho e he=>?_,λi j t hi hj=>?_,λi o t ho ht j hj=>?_⟩
 .have:=WgS (ops:=ops) ops.toList 0 h1 k o (by simpa using ho) e he;omega
 .have:=Wg1 h2 _ (Wf5 hi) _ (Wf5 hj) rfl;exact congrArg (·.2) this
 .have:=Wfi ops.toList 0 h3 i o (by simpa using ho) t ht _ (Wf5 hj) rfl;simpa using this
theorem Wg4{ops:Array Oper}:∀(l done:List Nat),WgJ ops l done=true->done.Nodup->(∀i∈done,i<ops.size)->
  (done++l).Nodup/\(∀i∈done++l,i<ops.size)/\(done++l).length=ops.size/\(∀p i s,l=p++i::s->∀o,ops[i]?=some o->∀d∈Wjt o,d∈done++p)
 | [],done,h,hn,hlt=>by
  simp only[WgJ]at h;exact⟨by simpa using hn,by simpa using hlt,by simpa using h,λp i s e=>by simp at e⟩
 |x::l,done,h,hn,hlt=>by
  simp only[WgJ,Xh,Xai]at h;obtain⟨⟨h1,h2⟩,h3⟩:=h;have hx:x∉done:=λhm=>by rw[(Wah x done).2 hm]at h1;cases h1
  cases ho:ops[x]? with
  |none=>rw[ho]at h2;cases h2
  |some o=>
   rw[ho]at h2;have iH:x<ops.size:=(Xcs.1 ho).1;obtain⟨g1,g2,g3,g4⟩:=Wg4 l (x::done) h3 (Xz.2 ⟨hx,hn⟩) (λi hi=>by
    rcases Xm.1 hi with rfl|hi
    .exact iH
    .exact hlt i hi)
   have ga:List.Perm (x::done++l) (done++x::l):=by simpa using(List.perm_middle (a:=x) (l₁:=done) (l₂:=l)).symm
   refine⟨ga.nodup_iff.1 g1,λi hi=>g2 i (ga.mem_iff.2 hi),by rw[←ga.length_eq];exact g3,λp i s e o' eR d hd=>?_⟩;cases p with
   |nil=>
    simp only[Xbj,List.cons.injEq]at e;obtain⟨rfl,_⟩:=e;rw[ho]at eR;injection eR with eR;subst eR;have:=Xaf.1 h2 d hd;simpa using(Wah d done).1 this
   |cons y p=>
    simp only[Xbd,List.cons.injEq]at e;obtain⟨rfl,e⟩:=e;have:=g4 p i s e o' eR d hd;simp only[Xbd,Xm,Xk]at this⊢;rcases this with h|h|h
    .exact .inr (.inl h)
    .exact .inl h
    .exact .inr (.inr h)
theorem WkG{l:List Nat}{n:Nat}(hn:l.Nodup)(hlt:∀i∈l,i<n)(hlen:l.length=n):∀i,i<n->i∈l:=by
 intro i hi;refine Classical.byContradiction λh=>?_;have h1:(i::l).Nodup:=Xz.2 ⟨h,hn⟩;have h2:∀j∈i::l,j∈Xcv n:=λj hj=>by
  rw[Xds];rcases Xm.1 hj with rfl|hj
  .exact hi
  .exact hlt j hj
 have key:∀(a b:List Nat),a.Nodup->(∀x∈a,x∈b)->a.length<=b.length:=by
  intro a
  induction a with
  |nil=>intro b _ _;simp
  |cons x a ih=>
   intro b iS eZ;rw[Xz]at iS;have kA:x∈b:=eZ x (Xg ..);have:=ih (b.erase x) iS.2 λy hy=>(Xfn (λe=>iS.1 (by rw[←e];exact hy))).2 (eZ y (Xe _ hy));rw[Xev kA]at this;have hpos:=Xfe kA;simp;omega
 have:=key _ _ h1 h2;rw[Xeo,Xq]at this;omega
theorem WjO{ops:Array Oper}{l:List Nat}(h:WgJ ops l []=true):Order ops l:=by
 obtain⟨h1,h2,h3,h4⟩:=Wg4 l [] h Xcz (by simp);rw[Xbj]at h1 h2 h3;exact⟨h1,λi=>⟨WkG h1 h2 h3 i,h2 i⟩,λp i s e o ho d hd=>by simpa using h4 p i s e o ho d hd⟩
theorem WgM:∀(l:List Oper) (n i:Nat),i∈Wfb l n↔n<=i/\∃o,l[i-n]?=some o/\Wai o=true
 | [],n,i=>by simp[Wfb]
 |o::l,n,i=>by
  have ih:=WgM l (n+1) i;have kB:(n<=i/\∃o',(o::l)[i-n]?=some o'/\Wai o'=true)↔(i=n/\Wai o=true)\/(n+1<=i/\∃o',l[i-(n+1)]?=some o'/\Wai o'=true):=by
   by_cases hi:i=n
   .subst hi;constructor
    .rintro⟨_,o',h1,h2⟩;rw[Xco]at h1;injection h1 with h1;subst h1;exact .inl ⟨rfl,h2⟩
    .rintro(⟨_,h⟩|⟨h,_⟩)
     .exact⟨Xj _,o,by rw[Xco];rfl,h⟩
     .omega
   .constructor
    .rintro⟨h0,o',h1,h2⟩;have e:i-n=(i-(n+1))+1:=by omega
     rw[e,Xdd]at h1;exact .inr ⟨by omega,o',h1,h2⟩
    .rintro(⟨h,_⟩|⟨h0,o',h1,h2⟩)
     .exact absurd h hi
     .have e:i-n=(i-(n+1))+1:=by omega
      exact⟨by omega,o',by rw[e,Xdd];exact h1,h2⟩
  rw[kB,←ih];simp only[Wfb];cases hm:Wai o with
  |true=>simp
  |false=>simp
theorem WiD{ops:Array Oper}{i:Nat}:i∈Wfb ops.toList 0↔Wad ops i=true:=by
 rw[WgM];unfold Wad;simp only[Xbq,true_and,Xdr,Array.getElem?_toList];cases ops[i]? with
 |none=>simp
 |some o=>simp
theorem Wk8{B:List (List Nat)}:∀(σ rem:List Nat) (n:Nat),σ.length<=n->σ.Nodup->(∀i,i∈rem↔i∈σ)->(∀p m s,σ=p++m::s->∀m'∈m::s,WbW B m' m=false)->σ∈Wpp B n rem
 | [],rem,n,hn,au,hmem,hb=>by
  have:rem= []:=Xee.2 λi hi=>by have:=(hmem i).1 hi;cases this
  subst this;cases n<;>simp[Wpp]
 |m::s,rem,0,hn,_,_,_=>by simp at hn
 |m::s,rem,n+1,hn,au,hmem,hb=>by
  have hm:m∈rem:=(hmem m).2 (Xg ..);rw[Xz]at au;cases hrem:rem with
  |nil=>rw[hrem]at hm;cases hm
  |cons x xs=>
   rw[←hrem];have pw:Wpp B (n+1) rem=(rem.filter λm=>rem.all λm'=>!WbW B m' m).flatMap λm=>(Wpp B n (rem.filter λx=>!Xam x m)).map (m:: ·):=by rw[hrem];rfl
   rw[pw];refine Xez.2 ⟨m,Xat.2 ⟨hm,Xaf.2 λm' lj=>?_⟩,Xt.2 ⟨s,?_,rfl⟩⟩
   .rw[hb [] m s rfl m' ((hmem m').1 lj)];rfl
   .refine Wk8 s _ n (by simpa using hn) au.2 (λi=>?_) (λp q s' e=>hb (m::p) q s' (by rw[e];rfl));rw[Xat,hmem,Xm];constructor
    .rintro⟨h1,h2⟩;rcases h1 with rfl|h1
     .simp at h2
     .exact h1
    .intro h;refine⟨.inr h,?_⟩;have hne:i≠m:=λe=>au.1 (e▸h);cases hb':Xam i m with
     |false=>rfl
     |true=>exact absurd (Nat.eq_of_beq_eq_true hb') hne
theorem Wpg:∀(l m:List Nat),eqN l m=true->l=m
 | [],[],_=>rfl
 | [],_::_,h=>by cases h
 |_::_,[],h=>by cases h
 |i::l,j::m,h=>by
  simp only[eqN,Xh]at h;have:i=j:=by simpa using h.1
  rw[this,Wpg l m h.2]
theorem Wnb{α:Type}{a b:Option α}{r:α}(h:Win a b=some r):a=some r/\b=some r:=by
 unfold Win at h;split at h
 .rename_i e;exact⟨h,e▸h⟩
 .cases h
section
variable{w0:World}{F:CS}{nt:Slots}{G0:GH}{P:Program}{T:Tab}{Γ:Ctx}{A:List (Nat×An)}{R:Type}{r:R}
theorem Wln{ops:Array Oper}{B:List (List Nat)}{st:St}{k:St->Option R}:∀(l:List (List Nat)),Wqm T Γ A ops B st k l=some r->∀σ∈l,∃L,WgJ ops L []=true/\L.filter (λi=>Wa7 i σ)=σ/\rdx T Γ A ops B L [] [] st k=some r
 | [],_,σ,hσ=>by cases hσ
 |τ::l,h,σ,hσ=>by
  have one:Wev (WhG ops.toList B ops.size [] τ) (λL=>bif WgJ ops L []&&eqN (L.filter λi=>Wa7 i τ) τ then rdx T Γ A ops B L [] [] st k else none)=some r->∃L,WgJ ops L []=true/\L.filter (λi=>Wa7 i τ)=τ/\rdx T Γ A ops B L [] [] st k=some r:=λh=>by
   rw[WcN]at h;obtain⟨hc,h⟩:=Wae h;simp only[Xh]at hc;exact⟨_,hc.1,Wpg _ _ hc.2,h⟩
  cases l with
  |nil=>
   simp only[Wqm]at h;rcases Xm.1 hσ with rfl|hσ
   .exact one h
   .cases hσ
  |cons x l=>
   have h:Win (Wev (WhG ops.toList B ops.size [] τ) (λL=>bif WgJ ops L []&&eqN (L.filter λi=>Wa7 i τ) τ then rdx T Γ A ops B L [] [] st k else none)) (Wqm T Γ A ops B st k (x::l))=some r:=h;obtain⟨h1,h2⟩:=Wnb h;rcases Xm.1 hσ with rfl|hσ
   .exact one h1
   .exact Wln (x::l) h2 σ hσ
theorem Wn1(hM:P.follows .mixedOrders=true)(hT:WW P T)(hΓ:Wdu P Γ){id:Nat}{ops:Array Oper}(hd:∀o∈ops,∀d,o.dst=some d->nt.Ok d){k:St->Option R}{Q:Exit->Act->World->Prop}(hK:Wm7 w0 F nt G0 k r (Q .normal)):
  Wm7 w0 F nt G0 (λst=>Wp4 T Γ A ops st k) r ((Code.region id ops true).wp P Q):=λst a w G ν hr h=>by
 simp only[Wp4,WiK]at h;obtain⟨mt,h⟩:=Wae h;have hR:=WlN mt;refine wp_region_draw λt=>?_;rw[hM];have hl:Order ops (Region.schedule true ops t):=Wgz hR.back;generalize Region.schedule true ops t=l at hl;have hσ:l.filter (Wad ops)∈Wpp (WcO ops.toList []) ops.size (Wfb ops.toList 0):=by
  refine Wk8 _ _ _ ?_ (hl.nodup.filter _) (λi=>?_) (λp m s e m' lj=>?_)
  .refine Xaz (Xdw _ _) ?_;have ct:l.length<=(Xcv ops.size).length:=by
    have key:∀(a b:List Nat),a.Nodup->(∀x∈a,x∈b)->a.length<=b.length:=by
     intro a
     induction a with
     |nil=>intro b _ _;simp
     |cons x a ih=>
      intro b iS eZ;rw[Xz]at iS;have kA:x∈b:=eZ x (Xg ..);have:=ih (b.erase x) iS.2 λy hy=>(Xfn (λe=>iS.1 (by rw[←e];exact hy))).2 (eZ y (Xe _ hy));rw[Xev kA]at this;have hpos:=Xfe kA;simp;omega
    exact key _ _ hl.nodup λx hx=>Xds.2 ((hl.all x).2 hx)
   rw[Xeo]at ct;exact ct
  .rw[WiD,Xat];constructor
   .intro h;refine⟨(hl.all i).1 ?_,h⟩;unfold Wad at h;split at h
    .rename_i o ho;exact(Xcs.1 ho).1
    .cases h
   .exactλh=>h.2
  .cases hb:WbW (WcO ops.toList []) m' m with
   |false=>rfl
   |true=>
    exfalso;have gw:m∈l:=(Xat.1 (by rw[e];simp:m∈l.filter (Wad ops))).1;obtain⟨u,v,eu⟩:=Xdq gw;have hm'u:m'∈u++ [m]:=hl.bef (p:=u++ [m]) (s:=v) (by rw[eu];simp) hb (by simp);have px:Wad ops m=true:=(Xat.1 (by rw[e];simp:m∈l.filter (Wad ops))).2;have kC:=hl.nodup.filter (Wad ops);have e2:l.filter (Wad ops)=u.filter (Wad ops)++m::v.filter (Wad ops):=by rw[eu,Xcp,Xbm,if_pos px]
    have py:p=u.filter (Wad ops):=by
     refine WdP (b:=s) (d:=v.filter (Wad ops)) (x:=m) ?_ ?_
     .rw[←e];exact kC
     .rw[←e,e2]
    rcases Xm.1 lj with rfl|hm's
    .
     have:=hl.bef (p:=u++ [m']) (s:=v) (by rw[eu];simp) hb (by simp);have hcl:WiC ops (λj=>j∈u\/(j=m'/\False)):=λi o ho hi d hd=>by
      rcases hi with hi|⟨_,hf⟩
      .exact .inl (hl.closed (p:=u) (s:=m'::v) eu i o ho hi d hd)
      .exact hf.elim
     have back:∀(j i:Nat),WbW (WcO ops.toList []) j i=true->j<i:=λj i ky=>by
      have hcl2:WiC ops (λx=>x<i\/(x=i)):=λx o ho hx d hd=>by
       have:d<x:=hR.back x o ho d hd;omega
      refine Classical.byContradiction λhn=>?_;have hlt:∀(l:List Oper) (acc:List (List Nat)),(∀(k:Nat) (o:Oper),l[k]?=some o->ops[acc.length+k]?=some o)->(∀i,∀j∈acc.getD i [],j<i)->∀i,∀j∈(WcO l acc).getD i [],j<i:=by
       intro l
       induction l with
       |nil=>intro acc _ h;exact h
       |cons o l ih=>
        intro acc hl h;refine ih _ (λk o' hk=>?_) (λi j hj=>?_)
        .have:=hl (k+1) o' (by simpa using hk);rw[Xw];have e:acc.length+(k+1)=acc.length+ [Wig acc (Wjt o) []].length+k:=by simp;omega
         rw[←e];exact this
        .rw[Xbg,Xao]at hj;split at hj
         .exact h i j (by rw[Xbg];exact hj)
         .by_cases he:i=acc.length
          .subst he;simp only[Xco,Xdc,Xfx]at hj;rcases(Wf6 _ _).1 hj with⟨k,hk,iL⟩|hj
           .have kd:k<acc.length:=hR.back acc.length o (hl 0 o (by simp)) k hk;rcases iL with rfl|iL
            .exact kd
            .have:=h k j iL;omega
           .cases hj
          .have:[Wig acc (Wjt o) []][i-acc.length]?=none:=Xbh (by simp;omega);rw[this]at hj;cases hj
      exact hn (hlt ops.toList [] (λk o hk=>by simpa using hk) (λi j hj=>by simp at hj) i j ((Wah _ _).1 ky))
     have:=back m' m' hb;omega
    .
     have hm'l:m'∈p:=by
      rw[py];rcases Xk.1 hm'u with h|h
      .refine Xat.2 ⟨h,?_⟩;exact(Xat.1 (by rw[e];simp[hm's]:m'∈l.filter (Wad ops))).2
      .simp at h;subst h;rw[e]at kC;have:=(Xz.1 (Xaa.1 kC).2.1).1;exact absurd hm's this
     rw[e]at kC;exact(Xaa.1 kC).2.2 m' hm'l m' (Xe _ hm's) rfl
 obtain⟨L,g1,g2,g3⟩:=Wln _ h _ hσ;have hL:=WjO g1;obtain⟨rs,ac,q1,q2,q3,q4,_,_⟩:=Wh3 _ _ _ _ g3;have hf:l.filter (Wad ops)=L.filter (Wad ops):=by
  rw[←g2];refine List.filter_congr λi hi=>?_;cases hm:Wad ops i with
  |true=>exact(Wah _ _).2 (Xat.2 ⟨(hl.all i).1 ((hL.all i).2 hi),hm⟩)
  |false=>
   cases he:Wa7 i (l.filter (Wad ops))with
   |false=>rfl
   |true=>
    have:=(Xat.1 ((Wah _ _).1 he)).2;rw[hm]at this;cases this
 have bb:Rel w0 F nt G0 G ν st a {w with drawn:=w.drawn+1}:=⟨hr.defers,hr.ntm,hr.par,hr.env,?_,hr.gx⟩
 .exact WmX hT hΓ hd hl hL hR.one hR.slots hf q1 q2 q4 (λa w G ν hr=>hK ac a w G ν hr q3) bb
 .exact hr.h.drew
end
end Go.Sx
namespace Go.Sx
set_option linter.unusedVariables false
set_option linter.unusedSimpArgs false
section
variable{w0:World}{F:CS}{nt:Slots}{G0:GH}{P:Program}{T:Tab}{Γ:Ctx}{A:List (Nat×An)}{R:Type}{r:R}
theorem Wj4(hM:P.follows .mixedOrders=true)(hT:WW P T)(hΓ:Wdu P Γ){n:Nat}{kept:List Nat}(hn:nt.n=n)(iT:∀p∈nt.kept,p.1∈kept){ann:Nat->List Ghost}{N:Nat}:∀(c:Code),Wcj n kept c=true->∀{k:Ex->St->Option R} {Q:Exit->Act->World->Prop},
  (∀e,Wm7 w0 F nt G0 (k e) r (Q e.to))->Wm7 w0 F nt G0 (λst=>sx T Γ ann N c st k) r (c.wp P Q)
 | .skip,_,k,Q,hK=>λst a w G ν hr h=>wp_skip (hK .normal st a w G ν hr h)
 | .exit id,_,k,Q,hK=>λst a w G ν hr h=>wp_exit (hK (.exit id) st a w G ν hr h)
 | .ret,_,k,Q,hK=>λst a w G ν hr h=>wp_ret (hK .ret st a w G ν hr h)
 | .region id ops draw,bn,k,Q,hK=>λst a w G ν hr h=>by
  have gu:Wm7 w0 F nt G0 (λac=>match WcH (ann id) ac with|some (c,bi)=>bif c then k .normal bi else none|none=>none) r (Q .normal):=λac a' w' G' ν' bb h'=>by
   simp only at h';split at h'
   .rename_i c bi hg;obtain⟨rfl,h'⟩:=Wae h';obtain⟨G2,ν2,ew⟩:=Wck _ _ _ _ _ bb hg;exact hK .normal _ _ _ _ _ ew h'
   .cases h'
  have kD:∀o∈ops,∀d,o.dst=some d->nt.Ok d:=λo ho=>Wkj hn iT (Xaf.1 bn o (by simpa using ho));cases draw with
  |true=>exact Wn1 hM hT hΓ kD gu st a w G ν hr h
  |false=>exact wp_region_list (Wo3 hT hΓ ops.toList (λo ho=>kD o (by simpa using ho)) gu st a w G ν hr h)
 | .seq x y,bn,k,Q,hK=>λst a w G ν hr h=>by
  simp only[Wcj,Xh]at bn;refine wp_seq (Wj4 hM hT hΓ hn iT x bn.1 (Q:=Exit.then (y.wp P Q) Q) (λe=>?_) st a w G ν hr h);cases e with
  |normal=>exact Wj4 hM hT hΓ hn iT y bn.2 hK
  |exit id=>exact hK (.exit id)
  |ret=>exact hK .ret
 | .cond c x y,bn,k,Q,hK=>λst a w G ν hr h=>by
  simp only[Wcj,Xh]at bn;simp only[sx]at h;split at h
  .rename_i b hb;cases hv:ev st c with
   |none=>simp[hv]at hb
   |some v=>
    simp only[hv,Xc]at hb;have hc:=WjN v _ b (Wx hr c v hv) hb;refine wp_cond hc ?_;cases b with
    |true=>exact Wj4 hM hT hΓ hn iT x bn.1 hK st a w G ν hr h
    |false=>exact Wj4 hM hT hΓ hn iT y bn.2 hK st a w G ν hr h
  .cases h
 | .block id c,bn,k,Q,hK=>λst a w G ν hr h=>by
  simp only[Wcj]at bn;refine wp_block (Wj4 hM hT hΓ hn iT c bn (Q:=Exit.inBlock id Q) (λe=>?_) st a w G ν hr h);cases e with
  |normal=>exact hK .normal
  |exit aW=>
   intro ac a' w' G' ν' bb h';simp only[Ex.to,Exit.inBlock];split
   .rename_i he;simp only[he,if_true]at h';exact hK .normal _ _ _ _ _ bb h'
   .rename_i he;simp only[he,if_false]at h';exact hK (.exit aW) _ _ _ _ _ bb h'
  |ret=>exact hK .ret
 | .loop c,bn,k,Q,hK=>λst a w G ν hr h=>by
  simp only[Wcj]at bn;refine wp_loop_rounds N ?_;have key:∀(m:Nat),Wm7 w0 F nt G0 (λst=>Wkm (Wg2 (ann (WdU c)) λst k=>sx T Γ ann N c st k) m st k) r (Code.rounds P c Q m):=by
   intro m
   induction m with
   |zero=>intro st a w G ν hr h;cases h
   |succ m ih=>
    intro st a w G ν hr h;rw[rounds_succ];have h:sx T Γ ann N c st (λe ac=>match e with
     | .normal=>match WcH (ann (WdU c)) ac with
      |some (b,bi)=>bif b then Wkm (Wg2 (ann (WdU c)) λst k=>sx T Γ ann N c st k) m bi k else none
      |none=>none
     | .exit id=>k (.exit id) ac
     | .ret=>k .ret ac)=some r:=by
     rw[←h];simp only[Wkm,Wg2];congr 1
    refine Wj4 hM hT hΓ hn iT c bn (Q:=Exit.then (Code.rounds P c Q m) Q) (λe=>?_) st a w G ν hr h;cases e with
    |normal=>
     intro ac a' w' G' ν' bb h';simp only at h';split at h'
     .rename_i b bi hg;obtain⟨rfl,h'⟩:=Wae h';obtain⟨G2,ν2,ew⟩:=Wck _ _ _ _ _ bb hg;exact ih _ _ _ _ _ ew h'
     .cases h'
    |exit id=>exact hK (.exit id)
    |ret=>exact hK .ret
  have h:(match WcH (ann (WdU c)) st with
   |some (b,ac)=>bif b then Wkm (Wg2 (ann (WdU c)) λst k=>sx T Γ ann N c st k) N ac k else none
   |none=>none)=some r:=h
  split at h
  .rename_i b ac hg;obtain⟨rfl,h⟩:=Wae h;obtain⟨G2,ν2,ew⟩:=Wck _ _ _ _ _ hr hg;exact key N _ _ _ _ _ ew h
  .cases h
 | .scope ..,_,k,Q,hK=>λst a w G ν hr h=>by cases h
 | .label ..,_,k,Q,hK=>λst a w G ν hr h=>by cases h
 | .goto ..,_,k,Q,hK=>λst a w G ν hr h=>by cases h
 | .rangeFunc ..,_,k,Q,hK=>λst a w G ν hr h=>by cases h
 | .refuse ..,_,k,Q,hK=>λst a w G ν hr h=>by cases h
end
end Go.Sx
namespace Go.Sx
set_option linter.unusedVariables false
set_option linter.unusedSimpArgs false
section
variable{w0:World}{F:CS}{nt:Slots}{G0 G G':GH}{ν:Nat->Nu}{φ:Nat->CS}{objs:WP}{nx af:Nat}{st ac:St}{a:Act}{w w':World}{P:Program}{T:Tab}{Γ:Ctx}
theorem Wfv:∀(xs:List AVal) (j i:Nat),We (WeJ j xs) i=if j<=i then xs[i-j]? else none
 | [],j,i=>by simp[WeJ,We]
 |x::xs,j,i=>by
  simp only[WeJ];rw[Wl,Wfv xs (j+1) i];by_cases h:j=i
  .subst h;simp
  .by_cases h2:j<=i
   .have h3:j+1<=i:=by omega
    rw[if_neg h,if_pos h3,if_pos h2,show i-j=(i-(j+1))+1 by omega];rfl
   .rw[if_neg h,if_neg h2,if_neg (by omega)]
theorem WgT:∀(l:List Nat),WnB (Wg0 l)=l
 | []=>rfl
 |i::l=>by
  show i::WnB (Wg0 l)=i::l;rw[WgT l]
theorem Whn:∀(ps:List PTy) (d:WdG ps) (objs:WP) (nx n:Nat),Whg ps n=true->∃ids,ids.length=n/\(WA ps d objs nx).1.take n=Wg0 ids
 |_,_,_,_,0,_=>⟨[],rfl,rfl⟩
 | [],_,_,_,_+1,h=>by cases h
 | .v _ _::_,_,_,_,_+1,h=>by cases h
 | .mut _::_,_,_,_,_+1,h=>by cases h
 | .clos _ _::_,_,_,_,_+1,h=>by cases h
 | .kv _ _::_,_,_,_,_+1,h=>by cases h
 | .rp _::_,_,_,_,_+1,h=>by cases h
 | .vj _::_,_,_,_,_+1,h=>by cases h
 | .boxal _ _::_,_,_,_,_+1,h=>by cases h
 | .box t::ps,d,objs,nx,n+1,h=>by
  obtain⟨ids,h1,h2⟩:=Whn ps d.2 ((nx,.box (unfold t d.1 (nx+1)).1)::((unfold t d.1 (nx+1)).2.1++objs)) (unfold t d.1 (nx+1)).2.2 n h;refine⟨nx::ids,by simp[h1],?_⟩;simp only[WA,List.take_succ_cons,h2];rfl
theorem Wbp:∀(ps:List PTy) (d:WdG ps) (vs:List Value) (ns:List Pc) (ks:List Nu) (objs:WP) (nx af:Nat),Wbo ps=true->WaF G w ps d vs ns ks->At ν φ nx ns->nx+ns.length<=af->
  (WA ps d objs nx).2.2=nx+ns.length/\
  (∀id ob,We (WA ps d objs nx).2.1 id=some ob->(nx<=id/\id<nx+ns.length/\Wbv G ν af w id (φ id) ob)\/We objs id=some ob)/\
  (WA ps d objs nx).1.length=vs.length/\∀(j:Nat) (x:AVal) (v:Value),(WA ps d objs nx).1[j]?=some x->vs[j]?=some v->AValRel G ν af x v
 | [],d,vs,ns,ks,objs,nx,af,_,⟨h1,h2,h3⟩,_,_=>by
  subst h1 h2;exact⟨rfl,λid ob h=>.inr h,rfl,λj x v h=>by simp[WA]at h⟩
 | .v t agg::ps,d,vs,ns,ks,objs,nx,af,cV,⟨v,vs',n1,n2,h1,h2,h3,h4⟩,hν,hx=>by
  subst h2;obtain⟨us,fA⟩:=Wkw h3;have bj:=WK _ _ _ _ fA;have hlen:(n1++n2).length=t.owns+n2.length:=by rw[Xw,bj]
  obtain⟨_,o1⟩:=W2 t d.1 nx us n1 fA hν.left;obtain⟨e1,e2,e3,e4⟩:=Wbp ps d.2 vs' n2 ks ((unfold t d.1 nx).2.1++objs) (nx+t.owns) af cV h4 (hν.right bj) (by omega);simp only[WA,Wag];refine⟨by rw[e1,hlen];omega,λid ob hl=>?_,by rw[h1];simp[e3],λj x u hj hu=>?_⟩
  .rcases e2 id ob hl with⟨g1,g2,g3⟩|g
   .exact .inl ⟨by omega,by omega,g3⟩
   .rcases Wu g with g|g
    .obtain⟨g1,g2,e,xs,rfl,g3⟩:=o1 id ob g;exact .inl ⟨g1,by omega,g3⟩
    .exact .inr g
  .rw[h1]at hu;cases j with
   |zero=>simp at hj hu;subst hj hu;exact Whu h3 hν.left (by omega)
   |succ j=>exact e4 j x u (by simpa using hj) (by simpa using hu)
 | .kv t agg::ps,d,vs,ns,ks,objs,nx,af,cV,⟨v,vs',n1,n2,ks',h1,h2,_,h3,h4⟩,hν,hx=>by
  subst h2;obtain⟨us,fA⟩:=Wkw h3;have bj:=WK _ _ _ _ fA;have hlen:(n1++n2).length=t.owns+n2.length:=by rw[Xw,bj]
  obtain⟨_,o1⟩:=W2 t d.1 nx us n1 fA hν.left;obtain⟨e1,e2,e3,e4⟩:=Wbp ps d.2 vs' n2 ks' ((unfold t d.1 nx).2.1++objs) (nx+t.owns) af cV h4 (hν.right bj) (by omega);simp only[WA,Wag];refine⟨by rw[e1,hlen];omega,λid ob hl=>?_,by rw[h1];simp[e3],λj x u hj hu=>?_⟩
  .rcases e2 id ob hl with⟨g1,g2,g3⟩|g
   .exact .inl ⟨by omega,by omega,g3⟩
   .rcases Wu g with g|g
    .obtain⟨g1,g2,e,xs,rfl,g3⟩:=o1 id ob g;exact .inl ⟨g1,by omega,g3⟩
    .exact .inr g
  .rw[h1]at hu;cases j with
   |zero=>simp at hj hu;subst hj hu;exact Whu h3 hν.left (by omega)
   |succ j=>exact e4 j x u (by simpa using hj) (by simpa using hu)
 | .box t::ps,d,vs,ns,ks,objs,nx,af,cV,⟨b,o,vs',n1,n2,ks',h1,h2,h3,⟨us,hrow,hmem,dL⟩,h6⟩,hν,hx=>by
  subst h2;have bj:=WK _ _ _ _ dL;have hlen:((⟨Wbh b o,rng b o t.size⟩:Pc)::(n1++n2)).length=1+t.owns+n2.length:=by rw[Xq,Xw,bj];omega
  obtain⟨hν0,hφ0⟩:ν nx=Wbh b o/\φ nx=rng b o t.size:=by have:=hν 0 _ rfl;simpa using this
  have hν1:At ν φ (nx+1) (n1++n2):=hν.right (n1:=[⟨Wbh b o,rng b o t.size⟩]) rfl;obtain⟨c1,o1⟩:=W2 t d.1 (nx+1) us n1 dL hν1.left;have cg:=Wbg t d.1 (nx+1);obtain⟨e1,e2,e3,e4⟩:=Wbp ps d.2 vs' n2 ks' ((nx,.box (unfold t d.1 (nx+1)).1)::((unfold t d.1 (nx+1)).2.1++objs)) (nx+1+t.owns) af cV h6 (hν1.right bj) (by omega);simp only[WA,Wag];refine⟨by rw[e1,hlen];omega,λid ob hl=>?_,by rw[h1];simp[e3],λj x u hj hu=>?_⟩
  .rcases e2 id ob hl with⟨g1,g2,g3⟩|g
   .exact .inl ⟨by omega,by omega,g3⟩
   .rw[Wl]at g;split at g
    .rename_i e;subst e;injection g with g;subst g;exact .inl ⟨Xj _,by omega,b,us,by rw[hν0];rfl,by rw[hν0,cg];exact hrow,by rw[hν0];exact hmem,c1 af (by omega),by rw[hν0,cg,hφ0];exactλ_ _ hh=>hh⟩
    .rcases Wu g with g|g
     .obtain⟨g1,g2,e,xs,rfl,g3⟩:=o1 id ob g;exact .inl ⟨by omega,by omega,g3⟩
     .exact .inr g
  .rw[h1]at hu;cases j with
   |zero=>
    simp at hj hu;subst hj hu;exact⟨⟨by omega,b,by rw[hν0];rfl,by rw[hν0];rfl⟩,rfl⟩
   |succ j=>exact e4 j x u (by simpa using hj) (by simpa using hu)
 | .vj _::_,_,_,_,_,_,_,_,_,h,_,_=>h.elim
 | .boxal t lf::ps,d,vs,ns,ks,objs,nx,af,cV,⟨b,o,b',pc,vs',n1,n2,ks',h1,h2,h3,⟨us,hrow,hmem,dL⟩,h4,h5,h7,h6⟩,hν,hx=>by
  subst h2;have bj:=WK _ _ _ _ dL;have hlen:((⟨Wbh b o,rng b o t.size⟩:Pc)::(n1++n2)).length=1+t.owns+n2.length:=by rw[Xq,Xw,bj];omega
  obtain⟨hν0,hφ0⟩:ν nx=Wbh b o/\φ nx=rng b o t.size:=by have:=hν 0 _ rfl;simpa using this
  have hν1:At ν φ (nx+1) (n1++n2):=hν.right (n1:=[⟨Wbh b o,rng b o t.size⟩]) rfl;obtain⟨c1,o1⟩:=W2 t d.1 (nx+1) us n1 dL hν1.left;have cg:=Wbg t d.1 (nx+1);have jz:lf<n1.length:=(Xn.1 h4).1;have hνl:ν (nx+1+lf)=pc.nu:=(hν1.left lf pc h4).1;obtain⟨e1,e2,e3,e4⟩:=Wbp ps d.2.2 vs' n2 ks' ((nx,.box (unfold t d.1 (nx+1)).1)::((unfold t d.1 (nx+1)).2.1++objs)) (nx+1+t.owns) af cV h6 (hν1.right bj) (by omega);simp only[WA,Wag];refine⟨by rw[e1,hlen];omega,λid ob hl=>?_,by rw[h1];simp[e3],λj x u hj hu=>?_⟩
  .rcases e2 id ob hl with⟨g1,g2,g3⟩|g
   .exact .inl ⟨by omega,by omega,g3⟩
   .rw[Wl]at g;split at g
    .rename_i e;subst e;injection g with g;subst g;exact .inl ⟨Xj _,by omega,b,us,by rw[hν0];rfl,by rw[hν0,cg];exact hrow,by rw[hν0];exact hmem,c1 af (by omega),by rw[hν0,cg,hφ0];exactλ_ _ hh=>hh⟩
    .rcases Wu g with g|g
     .obtain⟨g1,g2,e,xs,rfl,g3⟩:=o1 id ob g;exact .inl ⟨by omega,by omega,g3⟩
     .exact .inr g
  .rw[h1]at hu
   match j with
   |0=>
    simp at hj hu;subst hj hu;exact⟨⟨by omega,b,by rw[hν0];rfl,by rw[hν0];rfl⟩,rfl⟩
   |1=>
    simp at hj hu;subst hj hu;exact⟨⟨by omega,by rw[hνl];exact h7,b',by rw[hνl];exact h5,by rw[hνl];rfl⟩,rfl⟩
   |j+2=>exact e4 j x u (by simpa using hj) (by simpa using hu)
 | .rp t::ps,d,vs,ns,ks,objs,nx,af,cV,⟨b,o,us,vs',h1,h2,h3,h4⟩,hν,hx=>by
  obtain⟨e1,e2,e3,e4⟩:=Wbp ps d.2 vs' ns ks objs nx af cV h4 hν hx;simp only[WA];refine⟨e1,e2,by rw[h1];simp[e3],λj x u hj hu=>?_⟩;rw[h1]at hu;cases j with
  |zero=>
   simp at hj hu;subst hj hu;exact⟨⟨b,o,us,by rw[Xap],h2,h3⟩,rfl⟩
  |succ j=>exact e4 j x u (by simpa using hj) (by simpa using hu)
 | .mut e::ps,d,vs,ns,ks,objs,nx,af,cV,⟨pc,vs',n2,ks',h1,h2,h3,h4,h5⟩,hν,hx=>by
  subst h2;have hlen:(pc::n2).length=1+n2.length:=by rw[Xq];omega
  obtain⟨hν0,hφ0⟩:ν nx=pc.nu/\φ nx=pc.fp:=by have:=hν 0 _ rfl;simpa using this
  obtain⟨e1,e2,e3,e4⟩:=Wbp ps d.2 vs' n2 ks' ((nx,.arr e d.1)::objs) (nx+1) af cV h5 (hν.right (n1:=[pc]) rfl) (by omega);simp only[WA];refine⟨by rw[e1,hlen];omega,λid ob hl=>?_,by rw[h1];simp[e3],λj x u hj hu=>?_⟩
  .rcases e2 id ob hl with⟨g1,g2,g3⟩|g
   .exact .inl ⟨by omega,by omega,g3⟩
   .rw[Wl]at g;split at g
    .rename_i e;subst e;injection g with g;subst g;refine .inl ⟨Xj _,by omega,?_⟩;show OwnL w (TyRel G w _) _ (ν nx) d.1 (φ nx);rw[hν0,hφ0];exact h4
    .exact .inr g
  .rw[h1]at hu;cases j with
   |zero=>
    simp at hj hu;subst hj hu;exact⟨⟨by omega,by rw[hν0]⟩,WfK _⟩
   |succ j=>exact e4 j x u (by simpa using hj) (by simpa using hu)
 | .clos g n::ps,d,vs,ns,ks,objs,nx,af,cV,⟨cvs,vs',h1,h2,h3,h4⟩,hν,hx=>by
  simp only[Wbo,Xh]at cV;obtain⟨e1,e2,e3,e4⟩:=Wbp ps d (cvs++vs') ns ks objs nx af cV.2 h4 hν hx;obtain⟨ids,g1,g2⟩:=Whn ps d objs nx n cV.1;simp only[WA];rw[g2,WgT];have hlen:(WA ps d objs nx).1.length=n+vs'.length:=by rw[e3,Xw,h2]
  have mw:∀(j id:Nat),ids[j]?=some id->(WA ps d objs nx).1[j]?=some (AVal.s (.one (.ptr id 0))):=λj id hj=>by
   have hlt:j<n:=by rw[←g1];exact(Xn.1 hj).1
   have:((WA ps d objs nx).1.take n)[j]?=some (.s (.one (.ptr id 0))):=by rw[g2];simp[Wg0,hj]
   rw[List.getElem?_take,if_pos hlt]at this;exact this
  refine⟨e1,e2,by rw[h1];simp[hlen],λj x u hj hu=>?_⟩;rw[h1]at hu;cases j with
  |zero=>
   simp at hj hu;subst hj hu;refine⟨⟨cvs,rfl,by rw[h2,g1],λj id u hj hu=>?_⟩,rfl⟩;have hlt:j<cvs.length:=(Xn.1 hu).1;obtain⟨⟨q1,q2⟩,q3⟩:=e4 j _ u (mw j id hj) (by rw[List.getElem?_append_left hlt];exact hu);exact⟨q1,q3,q2⟩
  |succ j=>
   have hj':(WA ps d objs nx).1[n+j]?=some x:=by
    rw[←List.getElem?_drop];simpa using hj
   exact e4 (n+j) x u hj' (by rw[Xaq (by omega),h2,Xaw];simpa using hu)
theorem Wb1:∀(ps:List PTy) (d:WdG ps) (vs:List Value) (ns:List Pc) (ks:List Nu),WaF G w ps d vs ns ks->vs.length<=Wa4 ps
 | [],d,vs,ns,ks,⟨h1,_,_⟩=>by rw[h1];exact Xj _
 | .v t agg::ps,d,vs,ns,ks,⟨v,vs',n1,n2,h1,h2,h3,h4⟩=>by rw[h1,Xq];have:=Wb1 ps _ _ _ _ h4;simp only[Wa4];omega
 | .box t::ps,d,vs,ns,ks,⟨b,o,vs',n1,n2,ks',h1,h2,h3,h4,h6⟩=>by rw[h1,Xq];have:=Wb1 ps _ _ _ _ h6;simp only[Wa4];omega
 | .mut e::ps,d,vs,ns,ks,⟨pc,vs',n2,ks',h1,h2,h3,h4,h5⟩=>by rw[h1,Xq];have:=Wb1 ps _ _ _ _ h5;simp only[Wa4];omega
 | .clos g n::ps,d,vs,ns,ks,⟨cvs,vs',h1,h2,h3,h4⟩=>by rw[h1,Xq];have:=Wb1 ps _ _ _ _ h4;simp at this;simp only[Wa4];omega
 | .kv t agg::ps,d,vs,ns,ks,⟨v,vs',n1,n2,ks',h1,h2,fi,h3,h4⟩=>by rw[h1,Xq];have:=Wb1 ps _ _ _ _ h4;simp only[Wa4];omega
 | .rp t::ps,d,vs,ns,ks,⟨b,o,us,vs',h1,h2,h3,h4⟩=>by rw[h1,Xq];have:=Wb1 ps _ _ _ _ h4;simp only[Wa4];omega
 | .vj _::_,_,_,_,_,h=>h.elim
 | .boxal t lf::ps,d,vs,ns,ks,⟨b,o,b',pc,vs',n1,n2,ks',h1,h2,h3,h4,h5,h6,h7,h8⟩=>by rw[h1,Xq,Xq];have:=Wb1 ps _ _ _ _ h8;simp only[Wa4];omega
def Wj3(i:Nat)(vs:List Value):List (Nat×Value):=match vs with
 |v::_=>[(i,v)]
 | []=>[]
def Wm:List PTy->Nat->Nat->List Value->List (Nat×Value)
 | [],_,_,_=>[]
 |_::ps,i,k+1,vs=>Wm ps i k vs
 | .v _ _::ps,i,0,vs=>Wm ps (i+1) 0 vs.tail
 | .box _::ps,i,0,vs=>Wj3 i vs++Wm ps (i+1) 0 vs.tail
 | .mut _::ps,i,0,vs=>Wj3 i vs++Wm ps (i+1) 0 vs.tail
 | .clos _ n::ps,i,0,vs=>Wj3 i vs++Wm ps (i+1) n vs.tail
 | .kv _ _::ps,i,0,vs=>Wj3 i vs++Wm ps (i+1) 0 vs.tail
 | .rp _::ps,i,0,vs=>Wm ps (i+1) 0 vs.tail
 | .vj _::ps,i,0,vs=>Wm ps (i+1) 0 vs.tail
 | .boxal _ _::ps,i,0,vs=>Wj3 i vs++Wm ps (i+2) 0 vs.tail.tail
theorem WaK{i:Nat}{vs:List Value}{p:Nat×Value}(h:p∈Wj3 i vs):p.1=i/\vs[0]?=some p.2:=by
 unfold Wj3 at h;split at h
 .simp at h;subst h;exact⟨rfl,rfl⟩
 .cases h
theorem WC:∀(ps:List PTy) (i k:Nat) (vs:List Value),∀p∈Wm ps i k vs,p.1∈WcG ps i k
 | [],_,_,_,p,h=>by simp[Wm]at h
 | .v _ _::ps,i,k+1,vs,p,h=>WC ps i k vs p h
 | .box _::ps,i,k+1,vs,p,h=>WC ps i k vs p h
 | .mut _::ps,i,k+1,vs,p,h=>WC ps i k vs p h
 | .clos _ _::ps,i,k+1,vs,p,h=>WC ps i k vs p h
 | .v _ _::ps,i,0,vs,p,h=>WC ps (i+1) 0 vs.tail p h
 | .box _::ps,i,0,vs,p,h=>by
  simp only[Wm]at h;rcases Xk.1 h with h|h
  .rw[(WaK h).1];exact Xg ..
  .exact Xe _ (WC ps (i+1) 0 vs.tail p h)
 | .mut _::ps,i,0,vs,p,h=>by
  simp only[Wm]at h;rcases Xk.1 h with h|h
  .rw[(WaK h).1];exact Xg ..
  .exact Xe _ (WC ps (i+1) 0 vs.tail p h)
 | .clos _ n::ps,i,0,vs,p,h=>by
  simp only[Wm]at h;rcases Xk.1 h with h|h
  .rw[(WaK h).1];exact Xg ..
  .exact Xe _ (WC ps (i+1) n vs.tail p h)
 | .kv _ _::ps,i,k+1,vs,p,h=>WC ps i k vs p h
 | .kv _ _::ps,i,0,vs,p,h=>by
  simp only[Wm]at h;rcases Xk.1 h with h|h
  .rw[(WaK h).1];exact Xg ..
  .exact Xe _ (WC ps (i+1) 0 vs.tail p h)
 | .rp _::ps,i,k+1,vs,p,h=>WC ps i k vs p h
 | .rp _::ps,i,0,vs,p,h=>WC ps (i+1) 0 vs.tail p h
 | .vj _::ps,i,k+1,vs,p,h=>WC ps i k vs p h
 | .vj _::ps,i,0,vs,p,h=>WC ps (i+1) 0 vs.tail p h
 | .boxal _ _::ps,i,k+1,vs,p,h=>WC ps i k vs p h
 | .boxal _ _::ps,i,0,vs,p,h=>by
  simp only[Wm]at h;rcases Xk.1 h with h|h
  .rw[(WaK h).1];exact Xg ..
  .exact Xe _ (WC ps (i+2) 0 vs.tail.tail p h)
theorem Wy:∀(ps:List PTy) (i k:Nat) (vs:List Value),∀p∈Wm ps i k vs,i<=p.1/\vs[p.1-i]?=some p.2
 | [],_,_,_,p,h=>by simp[Wm]at h
 | .v _ _::ps,i,k+1,vs,p,h=>Wy ps i k vs p h
 | .box _::ps,i,k+1,vs,p,h=>Wy ps i k vs p h
 | .mut _::ps,i,k+1,vs,p,h=>Wy ps i k vs p h
 | .clos _ _::ps,i,k+1,vs,p,h=>Wy ps i k vs p h
 | .v _ _::ps,i,0,vs,p,h=>by
  obtain⟨h1,h2⟩:=Wy ps (i+1) 0 vs.tail p h;refine⟨by omega,?_⟩;rw[show p.1-i=(p.1-(i+1))+1 by omega,←Xbw];exact h2
 | .box _::ps,i,0,vs,p,h=>by
  simp only[Wm]at h;rcases Xk.1 h with h|h
  .obtain⟨h1,h2⟩:=WaK h;rw[h1];exact⟨Xj _,by rw[Xco];exact h2⟩
  .obtain⟨h1,h2⟩:=Wy ps (i+1) 0 vs.tail p h;refine⟨by omega,?_⟩;rw[show p.1-i=(p.1-(i+1))+1 by omega,←Xbw];exact h2
 | .mut _::ps,i,0,vs,p,h=>by
  simp only[Wm]at h;rcases Xk.1 h with h|h
  .obtain⟨h1,h2⟩:=WaK h;rw[h1];exact⟨Xj _,by rw[Xco];exact h2⟩
  .obtain⟨h1,h2⟩:=Wy ps (i+1) 0 vs.tail p h;refine⟨by omega,?_⟩;rw[show p.1-i=(p.1-(i+1))+1 by omega,←Xbw];exact h2
 | .clos _ n::ps,i,0,vs,p,h=>by
  simp only[Wm]at h;rcases Xk.1 h with h|h
  .obtain⟨h1,h2⟩:=WaK h;rw[h1];exact⟨Xj _,by rw[Xco];exact h2⟩
  .obtain⟨h1,h2⟩:=Wy ps (i+1) n vs.tail p h;refine⟨by omega,?_⟩;rw[show p.1-i=(p.1-(i+1))+1 by omega,←Xbw];exact h2
 | .kv _ _::ps,i,k+1,vs,p,h=>Wy ps i k vs p h
 | .kv _ _::ps,i,0,vs,p,h=>by
  simp only[Wm]at h;rcases Xk.1 h with h|h
  .obtain⟨h1,h2⟩:=WaK h;rw[h1];exact⟨Xj _,by rw[Xco];exact h2⟩
  .obtain⟨h1,h2⟩:=Wy ps (i+1) 0 vs.tail p h;refine⟨by omega,?_⟩;rw[show p.1-i=(p.1-(i+1))+1 by omega,←Xbw];exact h2
 | .rp _::ps,i,k+1,vs,p,h=>Wy ps i k vs p h
 | .rp _::ps,i,0,vs,p,h=>by
  obtain⟨h1,h2⟩:=Wy ps (i+1) 0 vs.tail p h;refine⟨by omega,?_⟩;rw[show p.1-i=(p.1-(i+1))+1 by omega,←Xbw];exact h2
 | .vj _::ps,i,k+1,vs,p,h=>Wy ps i k vs p h
 | .vj _::ps,i,0,vs,p,h=>by
  obtain⟨h1,h2⟩:=Wy ps (i+1) 0 vs.tail p h;refine⟨by omega,?_⟩;rw[show p.1-i=(p.1-(i+1))+1 by omega,←Xbw];exact h2
 | .boxal _ _::ps,i,k+1,vs,p,h=>Wy ps i k vs p h
 | .boxal _ _::ps,i,0,vs,p,h=>by
  simp only[Wm]at h;rcases Xk.1 h with h|h
  .obtain⟨h1,h2⟩:=WaK h;rw[h1];exact⟨Xj _,by rw[Xco];exact h2⟩
  .obtain⟨h1,h2⟩:=Wy ps (i+2) 0 vs.tail.tail p h;refine⟨by omega,?_⟩;rw[show p.1-i=(p.1-(i+2))+1+1 by omega,←Xbw,←Xbw];exact h2
def Wje(tmps:Array Value):ResultVar->Sem Value
 | .tmp t=>pure (tmps.getD t undef)
 | .cell b t=>do loadVar t (←asAddr (tmps.getD b undef))
theorem Wil(hT:WW P T)(hr:Rel w0 F nt G0 G ν st a w):∀(l:List ResultVar) (xs:List AVal),Wc9 T st l=some xs->
  ∃vs:List Value,(l.mapM (Wje a.tmps)).run P w= .ok vs w/\vs.length=xs.length/\
   ∀(j:Nat) (x:AVal) (v:Value),xs[j]?=some x->vs[j]?=some v->AValRel G ν st.nx x v
 | [],xs,h=>by
  simp only[Wc9]at h;injection h with h;subst h;exact⟨[],by simp,rfl,λj x v hj=>by simp at hj⟩
 | .tmp t::l,xs,h=>by
  simp only[Wc9]at h;split at h
  .rename_i x lm h1 h2;injection h with h;subst h;obtain⟨vs,h3,h4,h5⟩:=Wil hT hr l lm h2;obtain⟨v,hv,hx⟩:=hr.env t x h1;refine⟨v::vs,?_,by simp[h4],λj y u hj hu=>?_⟩
   .have iU:a.tmps.getD t undef=v:=by simp[Xcd,hv]
    simp only[Xej,Sem.run_bind,Wje,Sem.run_pure,Result.andThen_ok,h3,iU]
   .cases j with
    |zero=>simp at hj hu;subst hj hu;exact hx
    |succ j=>exact h5 j y u (by simpa using hj) (by simpa using hu)
  .cases h
 | .cell b t::l,xs,h=>by
  simp only[Wc9]at h;split at h
  .rename_i x lm h1 h2;injection h with h;subst h;obtain⟨vs,h3,h4,h5⟩:=Wil hT hr l lm h2;cases hb:We st.env b with
   |none=>simp[hb]at h1
   |some y=>
    simp only[hb,Xc]at h1;obtain⟨v,hv,hx⟩:=hr.env b y hb;obtain⟨u,hu,pz⟩:=Wfr hT hr.h hx h1;refine⟨u::vs,?_,by simp[h4],λj z q hj hq=>?_⟩
    .have iU:a.tmps.getD b undef=v:=by simp[Xcd,hv]
     unfold Instr.loadAt at hu;rw[Sem.run_bind]at hu;obtain⟨p,rfl⟩:∃p,v= .pointer (some p):=by
      unfold Instr.sureAddr at hu;split at hu
      .exact⟨_,rfl⟩
      .simp[stuck]at hu
     simp only[Instr.sureAddr,Sem.run_pure,Result.andThen_ok]at hu;have ha:(asAddr (.pointer (some p))).run P w= .ok p w:=rfl;simp only[Xej,Sem.run_bind,Wje,Sem.run_pure,Result.andThen_ok,iU,ha,hu,h3]
    .cases j with
     |zero=>simp at hj hq;subst hj hq;exact pz
     |succ j=>exact h5 j z q (by simpa using hj) (by simpa using hq)
  .cases h
theorem Wcu(h:HR w0 F G ν φ objs nx w)(hg:GLe G G'):∀(rs:List PTy) (xs:List AVal) (vs:List Value) (A:Outs (WeX rs)),vs.length=xs.length->
  (∀(j:Nat) (x:AVal) (v:Value),xs[j]?=some x->vs[j]?=some v->AValRel G ν nx x v)->Lent G' w φ objs A.lent->A.moved.Nodup->Wat rs xs objs=some A->
  ∃ns,Wed G' w rs A.d vs ns/\Sep (fps ns)/\(∀q∈ns,CS.le q.fp (FromL φ objs A.moved))/\(∀i∈A.moved,Live objs i)
 | [],xs,vs,A,hlen,hx,hl,au,hf=>by
  simp only[Wat]at hf;split at hf
  .injection hf with hf;subst hf;have cT:vs= []:=Xx (by simpa using hlen);exact⟨[],⟨cT,rfl⟩,List.Pairwise.nil,by simp,by simp⟩
  .cases hf
 | .v t agg::rs,xs,vs,A,hlen,hx,hl,au,hf=>by
  simp only[Wat]at hf;split at hf
  .rename_i x xs;split at hf
   .rename_i d m l A' h1 h2;injection hf with hf;subst hf
    match vs,hlen with
    |v::vs,hlen=>
     cases hc:cellsOf agg x with
     |none=>simp[hc]at h1
     |some cs=>
      simp[hc]at h1;obtain⟨k1,k2,k3⟩:=Xaa.1 au;obtain⟨n1,g1,g2,g3,g4,_⟩:=Wii h hg (hx 0 x v rfl rfl) (hl.mono (λi hi=>Xi _ hi)) k1 hc h1;obtain⟨n2,g5,g6,g7,g8⟩:=Wcu h hg rs xs vs A' (by simpa using hlen) (λj y u hj hu=>hx (j+1) y u (by simpa using hj) (by simpa using hu)) (hl.mono (λi hi=>Xf _ hi)) k2 h2;refine⟨n1++n2,⟨v,vs,n1,n2,rfl,rfl,g1,g5⟩,Wbk h g2 g6 g3 g7 (λi hi hj=>k3 i hi i hj rfl),λq hq=>?_,λi hi=>?_⟩
      .rcases Xk.1 hq with hq|hq
       .exactλb o hh=>FromL.mono (λi hi=>Xi _ hi) b o (g3 q hq b o hh)
       .exactλb o hh=>FromL.mono (λi hi=>Xf _ hi) b o (g7 q hq b o hh)
      .rcases Xk.1 hi with hi|hi
       .exact g4 i hi
       .exact g8 i hi
   .cases hf
  .cases hf
 | .box t::rs,xs,vs,A,hlen,hx,hl,au,hf=>by
  simp only[Wat]at hf;split at hf
  .rename_i id xs;split at hf
   .rename_i cs aA;split at hf
    .rename_i d m l A' h1 h2;injection hf with hf;subst hf
     match vs,hlen with
     |v::vs,hlen=>
      obtain⟨k0,k1⟩:=Xz.1 au;obtain⟨k2,k3,k4⟩:=Xaa.1 k1;obtain⟨⟨_,b,hνb,rfl⟩,_⟩:=hx 0 _ v rfl rfl;have an:Live objs id:=⟨_,aA,by simp⟩;obtain⟨b'',us,gY,hrow,hmem,aF,cU⟩:Wbv G ν nx w id (φ id) (.box cs):=h.ob _ _ aA;rw[hνb]at gY;injection gY with gY;subst gY;obtain⟨n1,g1,g2,g3,g4,_⟩:=WQ h hg t cs us d m l aF (hl.mono (λi hi=>Xi _ hi)) k2 h1;have cg:cs.length=t.size:=by rw[←aF.1];exact Wj _ _ _ _ g1
      obtain⟨n2,g5,g6,g7,g8⟩:=Wcu h hg rs xs vs A' (by simpa using hlen) (λj y u hj hu=>hx (j+1) y u (by simpa using hj) (by simpa using hu)) (hl.mono (λi hi=>Xf _ hi)) k3 h2;rw[cg]at hrow cU;refine⟨⟨Wbh b ((ν id).off+0),rng b ((ν id).off+0) t.size⟩::(n1++n2),⟨b,(ν id).off+0,vs,n1,n2,rfl,rfl,⟨us,hrow,hmem,g1⟩,g5⟩,?_,λq hq=>?_,λi hi=>?_⟩
      .refine Wbk h (n1:=[⟨Wbh b ((ν id).off+0),rng b ((ν id).off+0) t.size⟩]) (m:=[id]) (l:=m++A'.moved) (Xbi _ _) (Wbk h g2 g6 g3 g7 (λi hi hj=>k4 i hi i hj rfl)) (λq hq=>?_) (λq hq=>?_) (λi hi hj=>k0 (by rw[←Xab.1 hi];exact hj))
       .rw[Xab.1 hq];exactλb o hh=>⟨id,by simp,an,cU b o hh⟩
       .rcases Xk.1 hq with hq|hq
        .exactλb o hh=>FromL.mono (λi hi=>Xi _ hi) b o (g3 q hq b o hh)
        .exactλb o hh=>FromL.mono (λi hi=>Xf _ hi) b o (g7 q hq b o hh)
      .rcases Xm.1 hq with rfl|hq
       .exactλb o hh=>⟨id,by simp,an,cU b o hh⟩
       .rcases Xk.1 hq with hq|hq
        .exactλb o hh=>FromL.mono (λi hi=>Xe _ (Xi _ hi)) b o (g3 q hq b o hh)
        .exactλb o hh=>FromL.mono (λi hi=>Xe _ (Xf _ hi)) b o (g7 q hq b o hh)
      .rcases Xm.1 hi with rfl|hi
       .exact an
       .rcases Xk.1 hi with hi|hi
        .exact g4 i hi
        .exact g8 i hi
    .cases hf
   .cases hf
  .cases hf
 | .mut _::_,_,_,_,_,_,_,_,h=>by simp only[Wat]at h;cases h
 | .clos _ _::_,_,_,_,_,_,_,_,h=>by simp only[Wat]at h;cases h
 | .kv _ _::_,_,_,_,_,_,_,_,h=>by simp only[Wat]at h;cases h
 | .rp _::_,_,_,_,_,_,_,_,h=>by simp only[Wat]at h;cases h
 | .vj t::rs,xs,vs,A,hlen,hx,hl,au,hf=>by
  simp only[Wat]at hf;split at hf
  .rename_i cs xs;split at hf
   .rename_i hcl;split at hf
    .rename_i d m l A' h1 h2;injection hf with hf;subst hf
     match vs,hlen with
     |v::vs,hlen=>
      obtain⟨k1,k2,k3⟩:=Xaa.1 au;obtain⟨us,rfl,aF⟩:=hx 0 _ v rfl rfl;obtain⟨n1,g1,g2,g3,g4,_⟩:=WQ h hg t (cs.take t.size) (us.take t.size) d m l (aF.take t.size) (hl.mono (λi hi=>Xi _ hi)) k1 h1;obtain⟨n2,g5,g6,g7,g8⟩:=Wcu h hg rs xs vs A' (by simpa using hlen) (λj y u hj hu=>hx (j+1) y u (by simpa using hj) (by simpa using hu)) (hl.mono (λi hi=>Xf _ hi)) k2 h2;have cg:us.length=t.size+1:=by rw[aF.1,hcl]
      have hlt:t.size<us.length:=by omega
      have e0:us=us.take t.size++ [us[t.size]]:=by
       rw[←List.take_succ_eq_append_getElem hlt,Xcn (by omega)]
      have ho:=(aF.2 t.size (cs[t.size]'(by omega)) us[t.size] (Xr (by omega)) (Xr hlt)).2;refine⟨n1++n2,⟨us.take t.size,us[t.size],vs,n1,n2,by rw[←e0],ho,rfl,g1,g5⟩,Wbk h g2 g6 g3 g7 (λi hi hj=>k3 i hi i hj rfl),λq hq=>?_,λi hi=>?_⟩
      .rcases Xk.1 hq with hq|hq
       .exactλb o hh=>FromL.mono (λi hi=>Xi _ hi) b o (g3 q hq b o hh)
       .exactλb o hh=>FromL.mono (λi hi=>Xf _ hi) b o (g7 q hq b o hh)
      .rcases Xk.1 hi with hi|hi
       .exact g4 i hi
       .exact g8 i hi
    .cases hf
   .cases hf
  .cases hf
 | .boxal _ _::_,_,_,_,_,_,_,_,h=>by simp only[Wat]at h;cases h
theorem Wkg{p:PTy}{ps:List PTy}{k:Nat}(h:Whg (p::ps) (k+1)=true):(∃t,p= .box t)/\Whg ps k=true:=by
 cases p with
 |box t=>exact⟨⟨t,rfl⟩,h⟩
 |_=>cases h
theorem Wez(hr:Rel w0 F nt G0 G ν st a w){i:Nat}{u:Value}(hp:a.tmps[i]?=some u):(We st.env i).getD (.tup [])= .tup []\/AValRel G ν st.nx ((We st.env i).getD (.tup [])) u:=by
 cases he:We st.env i with
 |none=>exact .inl rfl
 |some y=>
  obtain⟨v,hv,hx⟩:=hr.env i y he;rw[hp]at hv;injection hv with hv;subst hv;exact .inr hx
theorem Waa{wb:World}{Gb:GH}(hr:Rel w0 F nt G0 G ν st a w):∀(ps:List PTy) (d:WdG ps) (vs:List Value) (ns:List Pc) (ks:List Nu) (i k:Nat),WaF Gb wb ps d vs ns ks->Wbo ps=true->Whg ps k=true->k<=vs.length->
  (∀p∈Wm ps i k (vs.drop k),a.tmps[p.1]?=some p.2)->(Wi ps i k st).length+k=vs.length/\
  ∀(j:Nat) (x:AVal) (v:Value),(Wi ps i k st)[j]?=some x->vs[k+j]?=some v->x= .tup []\/AValRel G ν st.nx x v
 | [],d,vs,ns,ks,i,k,⟨h1,_,_⟩,_,_,hk,_=>by
  subst h1;have:k=0:=by simpa using hk
  subst this;exact⟨rfl,λj x v hj=>by simp[Wi]at hj⟩
 |p::ps,d,vs,ns,ks,i,k+1,h,hc,hb,hk,hp=>by
  obtain⟨⟨t,rfl⟩,hb'⟩:=Wkg hb;obtain⟨b,o,vs',n1,n2,ks',h1,h2,h3,h4,h6⟩:=h;subst h1;have fM:Wbo ps=true:=hc;obtain⟨e1,e2⟩:=Waa hr ps d.2 vs' n2 ks' i k h6 fM hb' (by simpa using hk) (by simpa [Wm]using hp);refine⟨by simp only[Wi,Xq];omega,λj x v hj hv=>e2 j x v (by simpa [Wi]using hj) ?_⟩;rw[show k+1+j=(k+j)+1 by omega]at hv;simpa using hv
 | .v t agg::ps,d,vs,ns,ks,i,0,⟨v,vs',n1,n2,h1,h2,h3,h4⟩,hc,_,_,hp=>by
  subst h1;obtain⟨e1,e2⟩:=Waa hr ps d.2 vs' n2 ks (i+1) 0 h4 hc (by cases ps<;>rfl) (Xbq _) (by simpa [Wm]using hp);refine⟨by simp only[Wi,Xq];omega,λj x u hj hu=>?_⟩;cases j with
  |zero=>simp[Wi]at hj;exact .inl hj.symm
  |succ j=>exact e2 j x u (by simpa [Wi]using hj) (by simpa using hu)
 | .rp t::ps,d,vs,ns,ks,i,0,⟨b,o,us,vs',h1,h2,h3,h4⟩,hc,_,_,hp=>by
  subst h1;obtain⟨e1,e2⟩:=Waa hr ps d.2 vs' ns ks (i+1) 0 h4 hc (by cases ps<;>rfl) (Xbq _) (by simpa [Wm]using hp);refine⟨by simp only[Wi,Xq];omega,λj x u hj hu=>?_⟩;cases j with
  |zero=>simp[Wi]at hj;exact .inl hj.symm
  |succ j=>exact e2 j x u (by simpa [Wi]using hj) (by simpa using hu)
 | .box t::ps,d,vs,ns,ks,i,0,⟨b,o,vs',n1,n2,ks',h1,h2,h3,h4,h6⟩,hc,_,_,hp=>by
  subst h1;simp only[Wm,Xav,Xdt]at hp;obtain⟨e1,e2⟩:=Waa hr ps d.2 vs' n2 ks' (i+1) 0 h6 hc (by cases ps<;>rfl) (Xbq _) (λp dZ=>hp p (Xf _ (by simpa using dZ)));refine⟨by simp only[Wi,Xq];omega,λj x u hj hu=>?_⟩;cases j with
  |zero=>
   simp[Wi]at hj hu;subst hj hu;exact Wez hr (hp (i,_) (Xi _ (Xg ..)))
  |succ j=>exact e2 j x u (by simpa [Wi]using hj) (by simpa using hu)
 | .vj _::_,_,_,_,_,_,_,h,_,_,_,_=>h.elim
 | .boxal t lf::ps,d,vs,ns,ks,i,0,⟨b,o,b',pc,vs',n1,n2,ks',h1,h2,h3,h4,h5,h6,h7,h8⟩,hc,_,_,hp=>by
  subst h1;simp only[Wm,Xav,Xdt]at hp;obtain⟨e1,e2⟩:=Waa hr ps d.2.2 vs' n2 ks' (i+2) 0 h8 hc (by cases ps<;>rfl) (Xbq _) (λp dZ=>hp p (Xf _ (by simpa using dZ)));refine⟨by simp only[Wi,Xq];omega,λj x u hj hu=>?_⟩
  match j with
  |0=>
   simp[Wi]at hj hu;subst hj hu;exact Wez hr (hp (i,_) (Xi _ (Xg ..)))
  |1=>simp[Wi]at hj;exact .inl hj.symm
  |j+2=>exact e2 j x u (by simpa [Wi]using hj) (by simpa using hu)
 | .mut e::ps,d,vs,ns,ks,i,0,⟨pc,vs',n2,ks',h1,h2,h3,h4,h5⟩,hc,_,_,hp=>by
  subst h1;simp only[Wm,Xav,Xdt]at hp;obtain⟨e1,e2⟩:=Waa hr ps d.2 vs' n2 ks' (i+1) 0 h5 hc (by cases ps<;>rfl) (Xbq _) (λp dZ=>hp p (Xf _ (by simpa using dZ)));refine⟨by simp only[Wi,Xq];omega,λj x u hj hu=>?_⟩;cases j with
  |zero=>
   simp[Wi]at hj hu;subst hj hu;exact Wez hr (hp (i,_) (Xi _ (Xg ..)))
  |succ j=>exact e2 j x u (by simpa [Wi]using hj) (by simpa using hu)
 | .clos g n::ps,d,vs,ns,ks,i,0,⟨cvs,vs',h1,h2,h3,h4⟩,hc,_,_,hp=>by
  subst h1;simp only[Wbo,Xh]at hc;simp only[Wm,Xav,Xdt]at hp;obtain⟨e1,e2⟩:=Waa hr ps d (cvs++vs') ns ks (i+1) n h4 hc.2 hc.1 (by simp[h2]) (λp dZ=>hp p (Xf _ (by rw[List.drop_left' h2]at dZ;exact dZ)));refine⟨by simp only[Wi,Xq];simp at e1;omega,λj x u hj hu=>?_⟩;cases j with
  |zero=>
   simp[Wi]at hj hu;subst hj hu;exact Wez hr (hp (i,_) (Xi _ (Xg ..)))
  |succ j=>exact e2 j x u (by simpa [Wi]using hj) (by rw[Xaq (by omega),h2,Xaw];simpa using hu)
 | .kv t agg::ps,d,vs,ns,ks,i,0,⟨v,vs',n1,n2,ks',h1,h2,fi,h3,h4⟩,hc,_,_,hp=>by
  subst h1;simp only[Wm,Xav,Xdt]at hp;obtain⟨e1,e2⟩:=Waa hr ps d.2 vs' n2 ks' (i+1) 0 h4 hc (by cases ps<;>rfl) (Xbq _) (λp dZ=>hp p (Xf _ (by simpa using dZ)));refine⟨by simp only[Wi,Xq];omega,λj x u hj hu=>?_⟩;cases j with
  |zero=>
   simp[Wi]at hj hu;subst hj hu;exact Wez hr (hp (i,_) (Xi _ (Xg ..)))
  |succ j=>exact e2 j x u (by simpa [Wi]using hj) (by simpa using hu)
theorem WkW{G G':GH}{wb w:World}{nu kE:Nu}{e:Ty}{xs ys:List e.den}{S S':CS}(h4:OwnL wb (TyRel G wb e) e.size nu xs S)(hown:OwnL w (TyRel G' w e) e.size kE ys S')(hx:nu.hdr=kE.hdr):OwnL w (TyRel G' w e) e.size nu ys S':=by
 unfold Nu.hdr at hx;cases hb:kE.blk with
 |none=>
  cases hb':nu.blk with
  |some b=>simp[hb,hb']at hx
  |none=>
   have k1:=Wbs h4 hb';have k2:=Wbs hown hb;refine⟨by rw[k2,←h4.1,k1],h4.2.1,?_⟩;simp only[hb'];exact k2
 |some b=>
  cases hb':nu.blk with
  |none=>simp[hb,hb']at hx
  |some b'=>
   simp only[hb,hb']at hx;injection hx with x1 x2 x3;injection x1 with x1;injection x1 with x1 x4 _;have e1:=h4.2.1;have e2:=hown.2.1;have:nu=kE:=by
    obtain⟨a1,a2,a3,a4,a5⟩:=nu;obtain⟨b1,b2,b3,b4,b5⟩:=kE;simp only at hb hb' x1 x2 x3 x4 e1 e2;subst hb hb' x1 x2 x3 x4;rw[e1,e2]
   rw[this];exact hown
theorem Wdg{G G':GH}{wb w:World}:∀(t:Ty) (d0 d:t.den) (us:List Value) (n1 n2:List Pc),TyRel G wb t d0 us n1->TyRel G' w t d us n2->∃n3,TyRel G' w t d us n3/\nus n3=nus n1/\fps n3=fps n2
 | .own e,d0,d,us,n1,n2,⟨pc,h1,h2,h3⟩,⟨dv,g1,g2,g3⟩=>by
  subst h1 g1;have hx:pc.nu.hdr=dv.nu.hdr:=by rw[h2]at g2;simpa using g2
  exact⟨[⟨pc.nu,dv.fp⟩],⟨_,rfl,h2,WkW h3 g3 hx⟩,rfl,rfl⟩
 | .prod a b,d0,d,us,n1,n2,⟨v1,v2,m1,m2,h1,h2,h3,h4⟩,⟨u1,u2,k1,k2,g1,g2,g3,g4⟩=>by
  have l1:=Wj a _ _ _ h3;have l2:=Wj a _ _ _ g3;obtain⟨q1,q2⟩:=List.append_inj (h1.symm.trans g1) (by rw[l1,l2]);subst q1 q2 h2 g2;obtain⟨a1,a2,a3,a4⟩:=Wdg a _ _ _ _ _ h3 g3;obtain⟨b1,b2,b3,b4⟩:=Wdg b _ _ _ _ _ h4 g4;exact⟨a1++b1,⟨_,_,a1,b1,h1,rfl,a2,b2⟩,by unfold nus at a3 b3⊢;rw[Xo,Xo,a3,b3],by unfold fps at a4 b4⊢;rw[Xo,Xo,a4,b4]⟩
 | .int _,d0,d,us,n1,n2,h,g=>by obtain⟨h1,_⟩:=h;obtain⟨g1,g2⟩:=g;subst h1 g1;exact⟨[],⟨rfl,g2⟩,rfl,rfl⟩
 | .bool,d0,d,us,n1,n2,h,g=>by obtain⟨h1,_⟩:=h;obtain⟨g1,g2⟩:=g;subst h1 g1;exact⟨[],⟨rfl,g2⟩,rfl,rfl⟩
 | .str,d0,d,us,n1,n2,h,g=>by obtain⟨h1,_⟩:=h;obtain⟨g1,g2⟩:=g;subst h1 g1;exact⟨[],⟨rfl,g2⟩,rfl,rfl⟩
 | .slice _,d0,d,us,n1,n2,h,g=>by obtain⟨h1,_⟩:=h;obtain⟨g1,g2⟩:=g;subst h1 g1;exact⟨[],⟨rfl,g2⟩,rfl,rfl⟩
theorem WnP{G G':GH}{wb w:World}{t:Ty}{agg:Bool}{d0 d:t.den}{v:Value}{n1 n2:List Pc}(h:WgF G wb t agg d0 v n1)(g:WgF G' w t agg d v n2):∃us n3,TyRel G' w t d us n3/\nus n3=nus n1/\fps n3=fps n2:=by
 unfold WgF at h g;split at h
 .rename_i ha;rw[if_pos ha]at g;obtain⟨us,h1,h2⟩:=h;obtain⟨pA,g1,g2⟩:=g;have:us=pA:=by
   rw[h1]at g1;injection g1 with g1;have:=congrArg Array.toList g1;simpa using this
  subst this;exact⟨us,Wdg _ _ _ _ _ _ h2 g2⟩
 .rename_i ha;rw[if_neg ha]at g;exact⟨_,Wdg _ _ _ _ _ _ h g⟩
structure OOk(G':GH)(φ:Nat->CS)(objs:WP)(w:World)(ps:List PTy)(B:OutK (Wd1 ps))(ks:List Nu)(kf:List CS)(ms:List Pc):Prop where
 outs:WaW G' w ps B.d ks kf ms
 sepk:Sep kf
 sepm:Sep (fps ms)
 kf:∀S∈kf,CS.le S (FromL φ objs B.kept)
 ms:∀q∈ms,CS.le q.fp (FromL φ objs B.moved)
theorem WqJ(h:HR w0 F G ν φ objs nx w){k1 k2:List CS}{m l:List Nat}(h1:Sep k1)(h2:Sep k2)(g1:∀S∈k1,CS.le S (FromL φ objs m))(g2:∀S∈k2,CS.le S (FromL φ objs l))(hd:∀i∈m,i∉l):Sep (k1++k2):=
 Wkt h1 h2 (A:=FromL φ objs m) (B:=FromL φ objs l) g1 g2 (FromL.disj h hd)
theorem Wff{wb:World}{Gb:GH}(hg:GLe G G')(h:HR w0 F G ν φ objs nx w){t:Ty}{ps:List PTy}{id b o:Nat}{cs:List Cell}{dd:t.den}{m l:List Nat}{A:OutK (Wd1 ps)}{ks:List Nu}{kf:List CS}{ms:List Pc}
  (hx:CellRel G ν nx (.ptr id 0) (.pointer (some ⟨b,o,none⟩))) (ho:We objs id=some (.box cs)) (g1:W1 t cs objs=some (dd,m,l)) (hl:Lent G' w φ objs l) (hk:(id::A.kept).Nodup) (hm:(m++A.moved).Nodup) (hA:OOk G' φ objs w ps A ks kf ms):
  ∃nn,WdE G' w t dd b o nn/\Sep (rng b o t.size::kf)/\Sep (fps (nn++ms))/\(∀S∈rng b o t.size::kf,CS.le S (FromL φ objs (id::A.kept)))/\(∀q∈nn++ms,CS.le q.fp (FromL φ objs (m++A.moved))):=by
 obtain⟨_,b',pB,gy⟩:=hx;injection gy with gy;injection gy with gy;injection gy with gy gP _;subst gy gP;have an:Live objs id:=⟨_,ho,by simp⟩;obtain⟨b'',us,lw,hrow,hmem,aF,cU⟩:Wbv G ν nx w id (φ id) (.box cs):=h.ob _ _ ho;rw[pB]at lw;injection lw with lw;subst lw;obtain⟨k1,k2⟩:=Xz.1 hk;obtain⟨k3,k4,k5⟩:=Xaa.1 hm;obtain⟨nn,e1,e2,e3,_⟩:=WQ h hg t cs us dd m l aF hl k3 g1;have cg:cs.length=t.size:=by rw[←aF.1];exact Wj _ _ _ _ e1
 rw[cg]at hrow cU;have dt:CS.le (rng b ((ν id).off+0) t.size) (FromL φ objs [id]):=λb o hh=>⟨id,by simp,an,cU b o hh⟩;refine⟨nn,⟨us,hrow,hmem,e1⟩,?_,Wbk h e2 hA.sepm e3 hA.ms (λi hi hj=>k5 i hi i hj rfl),λS hS=>?_,λq hq=>?_⟩
 .exact WqJ h (k1:=[rng b ((ν id).off+0) t.size]) (m:=[id]) (Xbi _ _) hA.sepk (λS hS=>by rw[Xab.1 hS];exact dt) hA.kf (λi hi hj=>k1 (by rw[←Xab.1 hi];exact hj))
 .rcases Xm.1 hS with rfl|hS
  .exactλb o hh=>FromL.mono (λi hi=>by rw[Xab.1 hi];exact Xg ..) b o (dt b o hh)
  .exactλb o hh=>FromL.mono (λi hi=>Xe _ hi) b o (hA.kf S hS b o hh)
 .rcases Xk.1 hq with hq|hq
  .exactλb o hh=>FromL.mono (λi hi=>Xi _ hi) b o (e3 q hq b o hh)
  .exactλb o hh=>FromL.mono (λi hi=>Xf _ hi) b o (hA.ms q hq b o hh)
theorem Waj{wb:World}{Gb:GH}(hg:GLe G G')(h:HR w0 F G ν φ objs nx w):∀(ps:List PTy) (d:WdG ps) (vs:List Value) (ns:List Pc) (ks:List Nu) (xs:List AVal) (B:OutK (Wd1 ps)),WaF Gb wb ps d vs ns ks->xs.length=vs.length->
  (∀(j:Nat) (x:AVal) (v:Value),xs[j]?=some x->vs[j]?=some v->x= .tup []\/AValRel G ν nx x v)->Lent G' w φ objs B.lent->B.kept.Nodup->B.moved.Nodup->WH ps xs objs=some B->
  ∃kf ms,OOk G' φ objs w ps B ks kf ms
 | [],d,vs,ns,ks,xs,B,⟨_,_,hk⟩,_,_,_,_,_,hf=>by
  simp only[WH]at hf;injection hf with hf;subst hf;exact⟨[],[],⟨hk,rfl,rfl⟩,List.Pairwise.nil,List.Pairwise.nil,by simp,by simp⟩
 | .v t agg::ps,d,vs,ns,ks,xs,B,⟨v,vs',n1,n2,h1,h2,h3,h4⟩,hlen,hp,hl,hk,hm,hf=>by
  subst h1;simp only[WH]at hf;cases hA:WH ps xs.tail objs with
  |none=>simp[hA]at hf
  |some A=>
   simp[hA]at hf;subst hf
   match xs,hlen with
   |x::xs,hlen=>
    obtain⟨kf,ms,hO⟩:=Waj hg h ps d.2 vs' n2 ks xs A h4 (by simpa using hlen) (λj y u hj hu=>hp (j+1) y u (by simpa using hj) (by simpa using hu)) hl hk hm hA;exact⟨kf,ms,hO.outs,hO.sepk,hO.sepm,hO.kf,hO.ms⟩
 | .rp t::ps,d,vs,ns,ks,xs,B,⟨b,o,us,vs',h1,h2,h3,h4⟩,hlen,hp,hl,hk,hm,hf=>by
  subst h1;simp only[WH]at hf;cases hA:WH ps xs.tail objs with
  |none=>simp[hA]at hf
  |some A=>
   simp[hA]at hf;subst hf
   match xs,hlen with
   |x::xs,hlen=>
    obtain⟨kf,ms,hO⟩:=Waj hg h ps d.2 vs' ns ks xs A h4 (by simpa using hlen) (λj y u hj hu=>hp (j+1) y u (by simpa using hj) (by simpa using hu)) hl hk hm hA;exact⟨kf,ms,hO.outs,hO.sepk,hO.sepm,hO.kf,hO.ms⟩
 | .box t::ps,d,vs,ns,ks,xs,B,⟨b,o,vs',n1,n2,ks',h1,h2,h3,h4,h6⟩,hlen,hp,hl,hk,hm,hf=>by
  subst h1;simp only[WH]at hf;split at hf
  .rename_i id xs;split at hf
   .rename_i cs ho;split at hf
    .rename_i dd m l A g1 g2;injection hf with hf;subst hf;have hx:=((hp 0 _ _ rfl rfl).resolve_left (λe=>by cases e)).1;obtain⟨kf,ms,hO⟩:=Waj hg h ps d.2 vs' n2 ks' xs A h6 (by simpa using hlen) (λj y u hj hu=>hp (j+1) y u (by simpa using hj) (by simpa using hu)) (hl.mono λj hj=>Xf _ hj) (Xz.1 hk).2 (Xaa.1 hm).2.1 g2;obtain⟨nn,e1,e2,e3,e4,e5⟩:=Wff (wb:=wb) (Gb:=Gb) hg h hx ho g1 (hl.mono λj hj=>Xi _ hj) hk hm hO;exact⟨_,nn++ms,⟨b,o,ks',kf,nn,ms,h3,rfl,rfl,e1,hO.outs⟩,e2,e3,e4,e5⟩
    .cases hf
   .cases hf
  .cases hf
 | .vj _::_,_,_,_,_,_,_,h,_,_,_,_,_,_=>h.elim
 | .boxal t lf::ps,d,vs,ns,ks,xs,B,⟨b,o,b',pc,vs',n1,n2,ks',h1,h2,h3,h4,h5,h6,h7,h8⟩,hlen,hp,hl,hk,hm,hf=>by
  subst h1;simp only[WH]at hf;split at hf
  .rename_i id y xs;split at hf
   .rename_i cs ho;split at hf
    .rename_i dd m l A g1 g2;injection hf with hf;subst hf;have hx:=((hp 0 _ _ rfl rfl).resolve_left (λe=>by cases e)).1;obtain⟨kf,ms,hO⟩:=Waj hg h ps d.2.2 vs' n2 ks' xs A h8 (by simpa using hlen) (λj y u hj hu=>hp (j+2) y u (by simpa using hj) (by simpa using hu)) (hl.mono λj hj=>Xf _ hj) (Xz.1 hk).2 (Xaa.1 hm).2.1 g2;obtain⟨nn,e1,e2,e3,e4,e5⟩:=Wff (wb:=wb) (Gb:=Gb) hg h hx ho g1 (hl.mono λj hj=>Xi _ hj) hk hm hO;exact⟨_,nn++ms,⟨b,o,ks',kf,nn,ms,h3,rfl,rfl,e1,hO.outs⟩,e2,e3,e4,e5⟩
    .cases hf
   .cases hf
  .cases hf
 | .mut e::ps,d,vs,ns,ks,xs,B,⟨pc,vs',n2,ks',h1,h2,h3,h4,h5⟩,hlen,hp,hl,hk,hm,hf=>by
  subst h1;simp only[WH]at hf;split at hf
  .rename_i id xs;split at hf
   .rename_i e' ys ho;split at hf
    .rename_i dd A g1 g2;injection hf with hf;subst hf;obtain⟨eA,hd⟩:=W0 g1;subst eA;simp only at hd;subst hd;obtain⟨⟨_,hx⟩,_⟩:=(hp 0 _ _ rfl rfl).resolve_left (λe=>by cases e);have an:Live objs id:=⟨_,ho,by simp⟩;have hown:OwnL w (TyRel G w e') e'.size (ν id) ys (φ id):=h.ob _ _ ho;have hown':=WbR hg (Same.refl _ w) (λ_ _ hh=>hh) hown;obtain⟨k1,k2⟩:=Xz.1 hk;obtain⟨kf,ms,hO⟩:=Waj hg h ps d.2 vs' n2 ks' xs A h5 (by simpa using hlen) (λj y u hj hu=>hp (j+1) y u (by simpa using hj) (by simpa using hu)) hl k2 hm g2;refine⟨φ id::kf,ms,⟨⟨pc.nu,φ id⟩,ks',kf,h3,rfl,WkW h4 hown' hx,hO.outs⟩,?_,hO.sepm,λS hS=>?_,hO.ms⟩
     .exact WqJ h (k1:=[φ id]) (m:=[id]) (Xbi _ _) hO.sepk (λS hS=>by rw[Xab.1 hS];exact FromL.one (by simp) an) hO.kf (λi hi hj=>k1 (by rw[←Xab.1 hi];exact hj))
     .rcases Xm.1 hS with rfl|hS
      .exact FromL.one (Xg ..) an
      .exactλb o hh=>FromL.mono (λi hi=>Xe _ hi) b o (hO.kf S hS b o hh)
    .cases hf
   .cases hf
  .cases hf
 | .clos g n::ps,d,vs,ns,ks,xs,B,⟨cvs,vs',h1,h2,h3,h4⟩,hlen,hp,hl,hk,hm,hf=>by
  subst h1;simp only[WH]at hf;split at hf
  .rename_i g' caps xs;split at hf
   .rename_i hc;obtain⟨rfl,hcl⟩:=hc;cases hA:WH ps (Wg0 caps++xs) objs with
    |none=>simp[hA]at hf
    |some A=>
     simp[hA]at hf;subst hf;obtain⟨⟨us,mx,oc,pC⟩,_⟩:=(hp 0 _ _ rfl rfl).resolve_left (λe=>by cases e);have fA:us=cvs:=by
      injection mx with _ _ mx;have:=congrArg Array.toList mx;simpa using this.symm
     subst fA;obtain⟨kf,ms,hO⟩:=Waj hg h ps d (us++vs') ns ks (Wg0 caps++xs) A h4 (by simp[Wg0,oc];simpa using hlen) (λj y u hj hu=>by
      rw[Xao]at hj hu;simp only[Wg0,List.length_map]at hj;rw[oc]at hu;split at hj
      .rename_i hlt;rw[if_pos hlt]at hu;rw[Xah]at hj;obtain⟨id,aO,rfl⟩:=Xs.1 hj;obtain⟨q1,q3,q2⟩:=pC _ id u aO hu;exact .inr ⟨⟨q1,q2⟩,q3⟩
      .rename_i hlt;rw[if_neg hlt]at hu;exact hp (j-caps.length+1) y u (by simpa using hj) (by simpa using hu)) hl hk hm hA
     exact⟨kf,ms,hO.outs,hO.sepk,hO.sepm,hO.kf,hO.ms⟩
   .cases hf
  .cases hf
 | .kv t agg::ps,d,vs,ns,ks,xs,B,⟨v,vs',n1,n2,ks',h1,h2,fi,h3,h4⟩,hlen,hp,hl,hk,hm,hf=>by
  subst h1;simp only[WH]at hf;split at hf
  .rename_i x xs;split at hf
   .rename_i dd m l A g1 g2;split at hf
    .rename_i dE;injection hf with hf;subst hf;cases hc:cellsOf agg x with
     |none=>simp[hc]at g1
     |some cs=>
      simp[hc]at g1;obtain⟨k1,k2,k3⟩:=Xaa.1 hk;have hx:=(hp 0 _ _ rfl rfl).resolve_left (λe=>by subst e;cases hc);have bj:Lent G' w φ objs l:=hl.mono λj hj=>Xi _ hj;obtain⟨_,_,_,_,q4,_⟩:=Wii h hg hx bj k1 hc g1;obtain⟨v1,_⟩:=WjG h hg hx bj hc g1 dE;obtain⟨us,n3,r1,r2,r3⟩:=WnP h3 v1;obtain⟨kf,ms,hO⟩:=Waj hg h ps d.2 vs' n2 ks' xs A h4 (by simpa using hlen) (λj y u hj hu=>hp (j+1) y u (by simpa using hj) (by simpa using hu)) (hl.mono λj hj=>Xf _ hj) k2 hm g2;have gp:∀S∈fps n3,CS.le S (FromL φ objs m):=λS hS=>by
       rw[r3,Wkc]at hS;obtain⟨i,hi,rfl⟩:=Xt.1 hS;exact FromL.one hi (q4 i hi)
      have gs:Sep (fps n3):=by
       rw[r3,Wkc];refine List.pairwise_map.2 (k1.imp_of_mem λ{i j} hi hj hne=>?_)
       exactλb o h1 h2=>hne (h.inj i j b o (q4 i hi) (q4 j hj) h1 h2)
      refine⟨fps n3++kf,ms,⟨n3,ks',kf,us,by rw[fi,r2],rfl,r1,hO.outs⟩,WqJ h gs hO.sepk gp hO.kf (λi hi hj=>k3 i hi i hj rfl),hO.sepm,λS hS=>?_,hO.ms⟩;rcases Xk.1 hS with hS|hS
      .exactλb o hh=>FromL.mono (λi hi=>Xi _ hi) b o (gp S hS b o hh)
      .exactλb o hh=>FromL.mono (λi hi=>Xf _ hi) b o (hO.kf S hS b o hh)
    .cases hf
   .cases hf
  .cases hf
end
end Go.Sx
namespace Go.Sx
set_option linter.unusedVariables false
set_option linter.unusedSimpArgs false
section
variable{P:Program}{T:Tab}{Γ:Ctx}
theorem Woc{sg:Sig}{d:WdG sg.ps}{G:GH}{w:World}{vs:List Value}{ns:List Pc}{ks:List Nu}{n:Nat}(hn:Wa4 sg.ps<=n)(cV:Wbo sg.ps=true)(hargs:WaF G w sg.ps d vs ns ks)(hsep:Sep (fps ns))
  (hfree:∀q∈ns,∀b off,q.fp b off->G b off=none/\b<w.heap.size) (hg:∀b o v,G b o=some v->w.cell? ⟨b,o,none⟩=some v):
  ∃ν,Rel w (Of ns) ⟨n,Wm sg.ps 0 0 vs⟩ G G ν {env:=WeJ 0 (WA sg.ps d [] 0).1,objs:=(WA sg.ps d [] 0).2.1,nx:=(WA sg.ps d [] 0).2.2}
   {tmps:=vs.toArray++Xdp (n-vs.toArray.size) undef,defers:=[]} w:=by
 obtain⟨ν,hν⟩:∃ν:Nat->Nu,ν= λi=>((nus ns)[i]?).getD ⟨none,0,0,0,0⟩:=⟨_,rfl⟩;obtain⟨φ,hφ⟩:∃φ:Nat->CS,φ= λi=>((fps ns)[i]?).getD (λ_ _=>False):=⟨_,rfl⟩;have hAt:At ν φ 0 ns:=λj pc hj=>by
  have e1:(nus ns)[j]?=some pc.nu:=by unfold nus;rw[Xah,hj];rfl
  have e2:(fps ns)[j]?=some pc.fp:=by unfold fps;rw[Xah,hj];rfl
  rw[hν,hφ];simp only[Xbe,e1,e2];exact⟨rfl,rfl⟩
 obtain⟨h1,h2,h3,h4⟩:=Wbp (ν:=ν) (φ:=φ) sg.ps d vs ns ks [] 0 (0+ns.length) cV hargs hAt (Xj _);have la:=Wb1 _ _ _ _ _ hargs;have cn:∀id,Live (WA sg.ps d [] 0).2.1 id->id<ns.length:=λid ⟨ob,ho,_⟩=>by
  rcases h2 id ob ho with⟨_,h,_⟩|h
  .simpa using h
  .cases h
 have aI:∀id b o,φ id b o->∃q,ns[id]?=some q/\(fps ns)[id]?=some q.fp/\q.fp b o:=λid b o hp=>by
  rw[hφ]at hp
  try simp only at hp
  cases hq:ns[id]? with
  |none=>
   have:(fps ns)[id]?=none:=by unfold fps;rw[Xah,hq];rfl
   rw[this]at hp;exact hp.elim
  |some q=>
   have:(fps ns)[id]?=some q.fp:=by unfold fps;rw[Xah,hq];rfl
   rw[this]at hp;exact⟨q,rfl,this,hp⟩
 have od:∀(i:Nat) (v:Value),vs[i]?=some v->(vs.toArray++Xdp (n-vs.toArray.size) undef)[i]?=some v:=λi v hi=>by
  have hlt:=(Xn.1 hi).1;rw[Array.getElem?_append_left (by simpa using hlt)];simpa using hi
 refine⟨ν,rfl,by simp;omega,λp hp=>?_,λi x hx=>?_,⟨φ,?_⟩,λ_ _ _ hh=>hh,λ_ _ _ hh=>.inl hh⟩
 .obtain⟨_,g2⟩:=Wy _ _ _ _ p hp;exact od _ _ (by simpa using g2)
 .simp only at hx;rw[Wfv]at hx;simp only[Xbq,if_true,Xdr]at hx;have hlt:=(Xn.1 hx).1;rw[h3]at hlt;have hv:=Xr hlt;refine⟨_,od i _ hv,?_⟩;have:=h4 i x _ hx hv;simp only[h1];exact this
 .exact{
   g:=hg
   ob:=λid ob ho=>by
    rcases h2 id ob ho with⟨_,_,h⟩|h
    .simp only[h1];exact h
    .cases h
   gf:=λid b o hl hp=>by
    obtain⟨q,g1,_,g2⟩:=aI id b o hp;exact(hfree q (Xan g1) b o g2).1
   inj:=λid aW b o hl bK hp bU=>by
    obtain⟨q,_,g1,g2⟩:=aI id b o hp;obtain⟨q',_,pD,pE⟩:=aI aW b o bU;exact Wh0 hsep g1 pD g2 pE
   own:=λid b o hl hp=>by
    obtain⟨q,g1,_,g2⟩:=aI id b o hp;exact .inr ⟨q,Xan g1,g2⟩
   lt:=λid hl=>by simp only[h1];have:=cn id hl;omega
   bl:=λid b o hl hp=>by
    obtain⟨q,g1,_,g2⟩:=aI id b o hp;exact(hfree q (Xan g1) b o g2).2
   le:=WLe.refl _ w}
theorem Wm8(hT:WW P T){f:Func}{sg:Sig}{d:WdG sg.ps}{G:GH}{w:World}{vs:List Value}{ns:List Pc}{ks:List Nu}{n:Nat}(cV:Wbo sg.ps=true)(hargs:WaF G w sg.ps d vs ns ks)
  {st:St} {a:Act} {w':World} {G1:GH} {ν:Nat->Nu} (hr:Rel w (Of ns) ⟨n,Wm sg.ps 0 0 vs⟩ G G1 ν st a w') {xs:List AVal} (hx:Wc9 T st f.results.toList=some xs)
  {A:Outs (WeX sg.rs)} (hA:Wat sg.rs xs st.objs=some A) {B:OutK (Wd1 sg.ps)} (hB:WH sg.ps (Wi sg.ps 0 0 st) st.objs=some B)
  (au:WaJ (B.kept++(B.moved++A.moved))=true) (gQ:We4 (A.lent++B.lent) (B.kept++(B.moved++A.moved))=true):
  ∃rv kf ms bA G',(results f a.tmps).run P w'= .ok (Wgr rv) w'/\After sg (B.d,A.d) G w ns ks rv kf ms bA G' w':=by
 have au:=(Wdb _).1 au;have gQ:=WiL gQ;obtain⟨φ,hφ⟩:=hr.h;have my:=hφ.addG_le (A.lent++B.lent);have pF:=hφ.addG_w (A.lent++B.lent);have ip:Lent (Wmm G1 w' (FromL φ st.objs (A.lent++B.lent))) w' φ st.objs (A.lent++B.lent):=λid aO hl=>(Wgp _).mono (FromL.one aO hl);obtain⟨k1,k2,k3⟩:=Xaa.1 au;obtain⟨k4,k5,k6⟩:=Xaa.1 k2;obtain⟨rv,mz,mA,mB⟩:=Wil hT hr _ xs hx;obtain⟨bA,q1,q2,q3,q4⟩:=Wcu hφ my sg.rs xs rv A mA mB (ip.mono λi hi=>Xi _ hi) k5 hA;obtain⟨hsl,bJ⟩:=Waa hr sg.ps d vs ns ks 0 0 hargs cV (by cases sg.ps<;>rfl) (Xbq _) (by simpa using hr.par);obtain⟨kf,ms,hO⟩:=Waj my hφ sg.ps d vs ns ks _ B hargs hsl (λj x v hj hv=>bJ j x v hj (by simpa using hv)) (ip.mono λi hi=>Xf _ hi) k1 k4 hB;have da:∀S∈kf++fps (ms++bA),CS.le S (FromL φ st.objs (B.kept++(B.moved++A.moved))):=λS hS=>by
  rcases Xk.1 hS with hS|hS
  .exactλb o hh=>FromL.mono (λi hi=>Xi _ hi) b o (hO.kf S hS b o hh)
  .obtain⟨q,hq,rfl⟩:=Xt.1 hS;rcases Xk.1 hq with hq|hq
   .exactλb o hh=>FromL.mono (λi hi=>Xf _ (Xi _ hi)) b o (hO.ms q hq b o hh)
   .exactλb o hh=>FromL.mono (λi hi=>Xf _ (Xf _ hi)) b o (q3 q hq b o hh)
 refine⟨rv,kf,ms,bA,Wmm G1 w' (FromL φ st.objs (A.lent++B.lent)),?_,?_⟩
 .show(do let vs←f.results.mapM (Wje a.tmps);pure (if h:vs.size=1 then vs[0]else .tuple vs):Sem Value).run P w'=_;have fq:(f.results.mapM (Wje a.tmps)).run P w'= .ok rv.toArray w':=by
   rw[Array.mapM_eq_mapM_toList,Sem.run_map,mz];rfl
  rw[Sem.run_bind,fq];simp only[Result.andThen_ok,Sem.run_pure];congr 1;unfold Wgr
  match rv with
  | []=>rfl
  | [v]=>rfl
  |u::v::l=>simp
 .exact{
   res:=q1
   outs:=hO.outs
   sep:=by
    refine WqJ hφ hO.sepk (Wbk hφ hO.sepm q2 hO.ms q3 (λi hi hj=>k6 i hi i hj rfl)) hO.kf (l:=B.moved++A.moved) (λS hS=>?_) (λi hi hj=>k3 i hi i hj rfl);obtain⟨q,hq,rfl⟩:=Xt.1 hS;rcases Xk.1 hq with hq|hq
    .exactλb o hh=>FromL.mono (λi hi=>Xi _ hi) b o (hO.ms q hq b o hh)
    .exactλb o hh=>FromL.mono (λi hi=>Xf _ hi) b o (q3 q hq b o hh)
   own:=λS hS b off hh=>by
    obtain⟨i,hi,h1,h2⟩:=da S hS b off hh;refine⟨?_,(hφ.own i b off h1 h2).symm,hφ.bl i b off h1 h2⟩;rw[Wb0 (λ⟨j,hj,h3,h4⟩=>by
     have:=hφ.inj i j b off h1 h3 h2 h4;subst this;exact gQ _ hj hi)]
    exact hφ.gf i b off h1 h2
   gx:=by
    refine⟨λb o v hv=>my b o v (hr.gx.le b o v hv),λb off v hv=>?_⟩;by_cases hb:FromL φ st.objs (A.lent++B.lent) b off
    .obtain⟨j,hj,h1,h2⟩:=hb;exact .inr (hφ.own j b off h1 h2)
    .rw[Wb0 hb]at hv;exact hr.gx.new b off v hv
   g:=pF
   le:=hφ.le}
theorem WpA(hM:P.follows .mixedOrders=true)(hT:WW P T)(hΓ:Wdu P Γ){f:Func}{k:FuncId}{c:Code}(hf:P.funcs[k]?=some f)(hb:f.body=some c){sg:Sig}(bn:Wcj f.ntmps (WcG sg.ps 0 0) c=true)(cV:Wbo sg.ps=true)
  (hn:Wa4 sg.ps<=f.ntmps) {ann:Nat->List Ghost} (h:∀d o,sg.run d=some o->∃N,den T Γ ann N sg f d some=some o):Good P k sg:=by
 intro d o hrun G w vs ns ks hargs hsep hfree hg;obtain⟨N,eB⟩:=h d o hrun;unfold den at eB;simp only[hb]at eB;obtain⟨ν,pG⟩:=Woc hn cV hargs hsep hfree hg;split at eB
 case h_2=>cases eB
 rename_i c' b st0 fM pH;injection fM with fM;subst fM;obtain⟨rfl,eB⟩:=Wae eB;obtain⟨G0',ν0',hr⟩:=Wck _ _ _ _ _ pG pH;refine calls_of_wp hf hb ?_
 suffices hk:∀e,Wm7 w (Of ns) ⟨f.ntmps,Wm sg.ps 0 0 vs⟩ G (WqS T sg f.results.toList some e) o (bodyPost P f (λe w'=>∃rv kf ms bA G',e= .returned (Wgr rv)/\After sg o G w ns ks rv kf ms bA G' w') e.to)from
  Wj4 (nt:=⟨f.ntmps,Wm sg.ps 0 0 vs⟩) hM hT hΓ (n:=f.ntmps) rfl (WC sg.ps 0 0 vs) c bn hk _ _ _ _ _ hr eB
 intro e st a w' G1 ν1 gU hk;have kF:(∃xs,Wc9 T st f.results.toList=some xs/\∃A B,Wat sg.rs xs st.objs=some A/\WH sg.ps (Wi sg.ps 0 0 st) st.objs=some B/\WaJ (B.kept++(B.moved++A.moved))=true/\We4 (A.lent++B.lent) (B.kept++(B.moved++A.moved))=true/\(B.d,A.d)=o)->
   a.defers= []/\∃v,(results f a.tmps).run P w'= .ok v w'/\∃rv kf ms bA G',Ending.returned v= .returned (Wgr rv)/\After sg o G w ns ks rv kf ms bA G' w':=by
  rintro⟨xs,hx,A,B,hA,hB,h1,h2,rfl⟩;obtain⟨rv,kf,ms,bA,G',h3,h4⟩:=Wm8 hT (f:=f) cV hargs gU hx hA hB h1 h2;exact⟨gU.defers,_,h3,rv,kf,ms,bA,G',rfl,h4⟩
 have lr:(match Wc9 T st f.results.toList with
   |some xs=>match Wat sg.rs xs st.objs,WH sg.ps (Wi sg.ps 0 0 st) st.objs with
    |some A,some B=>if WaJ (B.kept++(B.moved++A.moved))&&We4 (A.lent++B.lent) (B.kept++(B.moved++A.moved))then some (B.d,A.d)else none
    |_,_=>none
   |none=>none)=some o->(∃xs,Wc9 T st f.results.toList=some xs/\∃A B,Wat sg.rs xs st.objs=some A/\WH sg.ps (Wi sg.ps 0 0 st) st.objs=some B/\WaJ (B.kept++(B.moved++A.moved))=true/\We4 (A.lent++B.lent) (B.kept++(B.moved++A.moved))=true/\(B.d,A.d)=o):=λhk=>by
  split at hk
  .rename_i xs hx;split at hk
   .rename_i A B hA hB;obtain⟨hc,hk⟩:=Wa0 hk;simp only[Xh]at hc;injection hk with hk;exact⟨xs,hx,A,B,hA,hB,hc.1,hc.2,hk⟩
   .cases hk
  .cases hk
 cases e with
 |normal=>exact kF (lr hk)
 |ret=>exact kF (lr hk)
 |exit id=>cases hk
end
end Go.Sx
namespace Go.Sx
set_option linter.unusedVariables false
set_option linter.unusedSimpArgs false
def zv1:Value->Value->Bool
 | .int k n,.int k' n'=>decide (k=k')&&decide (n=n')
 | .bool b,.bool b'=>b==b'
 | .string s,.string s'=>match s.data.toList,s'.data.toList with
  | [],[]=>true
  |_,_=>false
 | .slice none 0 0,.slice none 0 0=>true
 | .pointer none,.pointer none=>true
 |_,_=>false
theorem Woa(x y:Value)(h:zv1 x y=true):x=y:=by
 unfold zv1 at h;split at h
 .simp only[Xh,decide_eq_true_eq]at h;obtain⟨rfl,rfl⟩:=h;rfl
 .have:=eq_of_beq h;subst this;rfl
 .rename_i s s';split at h
  .rename_i e1 e2;have:s=s':=by
    cases s with|mk a=>cases s' with|mk b=>
    congr 1;apply Array.ext';simp only at e1 e2;rw[e1,e2]
   rw[this]
  .cases h
 .rfl
 .rfl
 .cases h
def WqF:List Value->List Value->Bool
 | [],[]=>true
 |x::l,y::m=>zv1 x y&&WqF l m
 |_,_=>false
theorem Wjc:∀(l m:List Value),WqF l m=true->l=m
 | [],[],_=>rfl
 | [],_::_,h=>by cases h
 |_::_,[],h=>by cases h
 |x::l,y::m,h=>by
  simp only[WqF,Xh]at h;rw[Woa x y h.1,Wjc l m h.2]
def Wey:List Field->List (Nat×TypeId)->Bool
 | [],[]=>true
 |f::l,p::m=>Xam f.offset p.1&&Xam f.type p.2&&(f.name != "_")&&Wey l m
 |_,_=>false
def Wmu(P:Program)(T:Tab)(t:TypeId)(te:TE):Bool:=match te.shape with
 | .basic=>!te.agg&&(match te.ty with
  | .int k=>match P.underlying t with|some (.int k')=>decide (k'=k)|_=>false
  | .bool=>match P.underlying t with|some .bool=>true|_=>false
  | .str=>match P.underlying t with|some .string=>true|_=>false
  |_=>false)
 | .slice e=>!te.agg&&(match P.underlying t with|some (.slice e')=>Xam e' e|_=>false)&&(match We T e with|some ce=>decide (te.ty= .slice ce.ty)|none=>false)
 | .struct fs=>te.agg&&(match P.underlying t with|some (.struct fields)=>Wey fields.toList fs|_=>false)&& !P.stoodInHeld t&& !P.eqGuardType P.depth t
 | .ptr e=>!te.agg&&(match P.underlying t with|some (.pointer e')=>Xam e' e|_=>false)
 | .arr n e=>te.agg&&(match P.underlying t with|some (.array n' e')=>Xam n' n&&Xam e' e|_=>false)&&(match We T e with|some ce=>decide (ce.ty=te.ty)&&ce.plain|none=>false)
def WkI(P:Program)(t:TypeId)(te:TE):Bool:=match P.info? t with
 |some i=>match i.zero with
  |some z=>Xam i.size te.size&&WqF z.cells.toList te.cells&&Nat.ble i.bytes 4096
  |none=>false
 |none=>false
def WiZ(P:Program)(T:Tab):Tab->Bool
 | []=>true
 |(t,te)::l=>Wmu P T t te&&WkI P t te&&WiZ P T l
theorem WdB:∀(l:List Field) (m:List (Nat×TypeId)),Wey l m=true→l.map (λf=>(f.offset,f.type))=m∧∀f∈l,f.name≠ "_"
 | [],[],_=>⟨rfl,by simp⟩
 | [],_::_,h=>by cases h
 |_::_,[],h=>by cases h
 |f::l,p::m,h=>by
  simp only[Wey,Xh,bne_iff_ne,ne_eq]at h;obtain⟨⟨⟨h1,h2⟩,h3⟩,h4⟩:=h;obtain⟨h5,h6⟩:=WdB l m h4;have h1:f.offset=p.1:=by simpa using h1
  have h2:f.type=p.2:=by simpa using h2
  refine⟨by rw[Xag,h5,h1,h2],λg hg=>?_⟩;rcases Xm.1 hg with hg|hg
  .subst hg;exact h3
  .exact h6 g hg
theorem Wkq{P:Program}{T:Tab}{t:TypeId}{te:TE}(h:Wmu P T t te=true)(hi:WkI P t te=true):TEok P T t te:=by
 obtain⟨ty,agg,shape⟩:=te;refine⟨?_,?_⟩
 .unfold Wmu at h;cases shape with
  |basic=>
   simp only[Xh,Xai]at h⊢;refine⟨h.1,?_⟩;have h:=h.2;cases ty with
   |int k=>
    simp only at h⊢;split at h
    .rename_i k' hu;simp only[decide_eq_true_eq]at h;rw[hu,h]
    .cases h
   |bool=>
    simp only at h⊢;split at h
    .assumption
    .cases h
   |str=>
    simp only at h⊢;split at h
    .assumption
    .cases h
   |slice e=>cases h
   |own e=>cases h
   |prod a b=>cases h
  |slice e=>
   simp only[Xh,Xai]at h⊢;obtain⟨⟨h1,h2⟩,h3⟩:=h;refine⟨h1,?_,?_⟩
   .split at h2
    .rename_i e' hu;rw[hu];have:e'=e:=by simpa using h2
     rw[this]
    .cases h2
   .split at h3
    .rename_i ce hl;exact⟨ce,hl,by simpa using h3⟩
    .cases h3
  |struct fs=>
   simp only[Xh,Xai]at h⊢;obtain⟨⟨⟨h1,h2⟩,h3⟩,h4⟩:=h;refine⟨h1,?_⟩;split at h2
   .rename_i fields hu;obtain⟨h5,h6⟩:=WdB _ _ h2;exact⟨fields,hu,h5,λf hf=>h6 f (by simpa using hf),h3,h4⟩
   .cases h2
  |ptr e=>
   simp only[Xh,Xai]at h⊢;refine⟨h.1,?_⟩;have h:=h.2;split at h
   .rename_i e' hu;rw[hu];have:e'=e:=by simpa using h
    rw[this]
   .cases h
  |arr n e=>
   simp only[Xh]at h⊢;obtain⟨⟨h1,h2⟩,h3⟩:=h;refine⟨h1,?_,?_⟩
   .split at h2
    .rename_i n' e' hu;simp only[Xh]at h2;have e1:n'=n:=by simpa using h2.1
     have e2:e'=e:=by simpa using h2.2
     rw[hu,e1,e2]
    .cases h2
   .split at h3
    .rename_i ce hl;simp only[Xh,decide_eq_true_eq]at h3;refine⟨ce,hl,h3.1,λm f hs=>?_⟩;have:=h3.2;unfold TE.plain at this;rw[hs]at this;cases this
    .cases h3
 .unfold WkI at hi;split at hi
  .rename_i i mC;split at hi
   .rename_i z hz;simp only[Xh]at hi;obtain⟨⟨h1,h2⟩,h3⟩:=hi;exact⟨i,z,mC,by simpa using h1,hz,Wjc _ _ h2,Xfi h3⟩
   .cases hi
  .cases hi
theorem Wqk{P:Program}{T:Tab}(h:WiZ P T T=true):WW P T:=by
 have key:∀l,WiZ P T l=true->∀t te,We l t=some te->TEok P T t te:=by
  intro l
  induction l with
  |nil=>intro _ t te hl;cases hl
  |cons p l ih=>
   intro hc t te hl;obtain⟨t',ce⟩:=p;simp only[WiZ,Xh]at hc;rw[Wl]at hl;split at hl
   .rename_i e;subst e;injection hl with hl;subst hl;exact Wkq hc.1.1 hc.1.2
   .exact ih hc.2 t te hl
 exact key T h
theorem Wa{P:Program}:Wdu P []:=λk sg h=>by cases h
theorem WoG{P:Program}{Γ:Ctx}{k:FuncId}{sg:Sig}(hg:Good P k sg)(hc:WeA P k)(h:Wdu P Γ):Wdu P ((k,sg)::Γ):=λk' pI hl=>by
 simp only[We]at hl;split at hl
 .rename_i e;have:k=k':=by simpa using e
  subst this;injection hl with hl;subst hl;exact⟨hg,hc⟩
 .exact h k' pI hl
def WoA(f:Func):Bool:=f.body.isSome&& !(f.name== "runtime.NumGoroutine")
theorem Wf4{P:Program}{k:FuncId}{f:Func}(hf:P.funcs[k]?=some f)(h:WoA f=true):WeA P k:=by
 simp only[WoA,Xh,Xai]at h;refine⟨f,hf,?_,h.2⟩;cases hb:f.body with
 |none=>rw[hb]at h;cases h.1
 |some c=>rfl
def Wkd(f:Func)(ps:List PTy):Bool:=match f.body with
 |some c=>Wcj f.ntmps (WcG ps 0 0) c&&Nat.ble (Wa4 ps) f.ntmps&&Wbo ps
 |none=>false
theorem WnN{P:Program}{T:Tab}{Γ:Ctx}(hM:P.follows .mixedOrders=true)(hT:WW P T)(hΓ:Wdu P Γ){f:Func}{k:FuncId}(hf:P.funcs[k]?=some f){sg:Sig}(bn:Wkd f sg.ps=true){ann:Nat->List Ghost}
  (h:∀d o,sg.run d=some o->∃N,den T Γ ann N sg f d some=some o):Good P k sg:=by
 unfold Wkd at bn;split at bn
 .rename_i c hb;simp only[Xh]at bn;exact WpA hM hT hΓ hf hb bn.1.1 bn.2 (Xfi bn.1.2) h
 .cases bn
end Go.Sx
namespace Go.Sx
def WdV:Code->List Code
 | .seq a b=>WdV a++WdV b
 | .cond _ a b=>WdV a++WdV b
 | .block _ c=>WdV c
 | .loop c=>c::WdV c
 |_=>[]
def WnM(f:Func):Code:=match f.body with
 |some c=>c
 |none=>.skip
def Wmn(f:Func)(i:Nat):Code:=(WdV (WnM f)).getD i .skip
noncomputable def Wpq{R:Type}(T:Tab)(Γ:Ctx)(ann:Nat->List Ghost)(N:Nat):Code->List Nat->(Ex->St->Option R)->Ex->St->Option R
 | .seq a b,p,k=>match p with
  |0::p=>Wpq T Γ ann N a p λe ac=>match e with
   | .normal=>sx T Γ ann N b ac k
   | .exit id=>k (.exit id) ac
   | .ret=>k .ret ac
  |_::p=>Wpq T Γ ann N b p k
  | []=>k
 | .cond _ x y,p,k=>match p with
  |0::p=>Wpq T Γ ann N x p k
  |_::p=>Wpq T Γ ann N y p k
  | []=>k
 | .block id c,p,k=>match p with
  |_::p=>Wpq T Γ ann N c p λe ac=>match e with
   | .exit aW=>if aW=id then k .normal ac else k (.exit aW) ac
   | .normal=>k .normal ac
   | .ret=>k .ret ac
  | []=>k
 |_,_,k=>k
def Wq1{R:Type}(gs:List Ghost)(L:St->(Ex->St->Option R)->Option R)(K:Ex->St->Option R):Ex->St->Option R:=λe st=>match e with
 | .normal=>match WcH gs st with
  |some (c,ac)=>bif c then L ac K else none
  |none=>none
 | .exit id=>K (.exit id) st
 | .ret=>K .ret st
abbrev vI(x:Int):AVal:=.s (.one (.val (.int .i64) x))
abbrev vB(x:Bool):AVal:=.s (.one (.val .bool x))
abbrev vV(t:Ty)(x:t.den):AVal:=.s (.one (.val t x))
abbrev vO(i:Nat):AVal:=.s (.one (.own i))
abbrev vP(i o:Nat):AVal:=.s (.one (.ptr i o))
abbrev Qs(s:Sig):=Wd1 s.ps×WeX s.rs
structure Fn where
 F:Func
 a:Nat->List Ghost
 s:Nat->Sig
 c:Nat->Ctx
def WI:Nat->List Ghost:=λ_=>[]
def Waw:Nat->Ctx:=λ_=>[]
noncomputable def lpM{R:Type}(T:Tab)(Γ:Ctx)(ann:Nat->List Ghost)(N:Nat)(F:Func)(i k n:Nat)(st:St)(K:Ex->St->Option R):Option R:=Wkm (Wg2 (ann k) λst k=>sx T Γ ann N (Wmn F i) st k) n st K
noncomputable def cxF(T:Tab)(Γ:Ctx)(ann:Nat->List Ghost)(N:Nat)(sg:Sig)(F:Func)(p:List Nat):Ex->St->Option (Qs sg):=Wpq (R:=Qs sg) T Γ ann N (WnM F) p (WqS T sg F.results.toList some)
noncomputable def cxL{R:Type}(T:Tab)(Γ:Ctx)(ann:Nat->List Ghost)(N:Nat)(F:Func)(i k:Nat)(p:List Nat)(n:Nat)(K:Ex->St->Option R):Ex->St->Option R:=Wpq T Γ ann N (Wmn F i) p (Wq1 (ann k) (lpM T Γ ann N F i k n) K)
end Go.Sx
namespace Go.Sx
open Go.ChangeShapes Go.WideShapes Go.ChangeAt Go.RowKit
set_option linter.unusedVariables false
set_option linter.unusedSimpArgs false
def Wfd:(t:Ty)->t.den->Prop
 | .int k,n=>(Lit.int k n).wf=true
 | .bool,_=>True
 | .str,s=>Xb s<=maxLen
 | .slice e,l=>Xb l<=maxLen/\∀x,List.Mem x l->Wfd e x
 | .own _,_=>False
 | .prod a b,d=>Wfd a d.1/\Wfd b d.2
def WeG:(t:Ty)->t.den->Nat
 | .int _,_=>1
 | .bool,_=>1
 | .str,s=>Xb s+1
 | .slice e,l=>(List.map (WeG e) l).sum+1
 | .own _,_=>0
 | .prod a b,d=>WeG a d.1+WeG b d.2
structure Bulk{H:Type}(β:DataW H->Nat):Prop where
 lit:∀l,1<=β (.lit l)
 str:∀s,s.length+1<=β (.lit (.string s))
 nil:1<=β .nil
 slice:∀es sp,(es.map β).sum+1<=β (.slice es sp)
 agg:∀ps,(ps.map β).sum<=β (.agg ps)
def WgY(T:Tab):List (Nat×TypeId)->Nat->Option (List Ty)
 | [],_=>some []
 |(o,ft)::fs,off=>match We T ft with
  |some te=>bif Xam o off&&te.plain then(WgY T fs (off+te.ty.size)).map (te.ty:: ·)else none
  |none=>none
def WcI:List Ty->Ty
 | []=>.bool
 | [t]=>t
 |t::ts=>.prod t (WcI ts)
def Wku(T:Tab):Nat->TypeId->Bool
 |0,_=>false
 |n+1,t=>match We T t with
  |some te=>match te.shape with
   | .basic=>match te.ty with
    | .int _=>true
    | .bool=>true
    | .str=>true
    | .slice _=>false
    | .own _=>false
    | .prod _ _=>false
   | .slice e=>Wku T n e&&(match We T e with|some ce=>ce.plain|none=>false)
   | .struct fs=>fs.all (λf=>Wku T n f.2)&&(match WgY T fs 0 with
    |some (t::ts)=>decide (te.ty=WcI (t::ts))
    |_=>false)
   | .ptr _=>false
   | .arr _ _=>false
  |none=>false
section
variable{P:Program}{T:Tab}{H:Type}{enc:TypeId×Value->H}{β:DataW H->Nat}{w:World}
theorem WeR{t:TypeId}{te:TE}(h:TEok P T t te):P.cellsOf t=te.size:=by
 obtain⟨i,z,hi,hs,_⟩:=h.info;unfold Program.cellsOf;rw[hi];exact hs
def Wgs(w:World):GH:=λb o=>w.cell? ⟨b,o,none⟩
theorem Wnh{b:Nat}{a:Addr}{n:Nat}{cs:List Value}(h:w.cells? b a n=some cs):cs.length=n/\∀(j:Nat) (v:Value),cs[j]?=some v->w.cell? (a.add j)=some v:=by
 unfold World.cells? at h;split at h
 .refine⟨by simpa using mapM_some_length h,λj v hj=>?_⟩;have hlt:j<n:=by
   have:=mapM_some_length h;have h2:=(Xn.1 hj).1;simp at this;omega
  have:=mapM_some_get h j j (by simp[hlt]);rw[this];exact hj
 .cases h
theorem Wlk{e:Ty}{a:Addr}(n:Nat)(hn:0<n):∀(k:Nat) (i0:Nat) (el:Nat->Option (DataW H×List MemPlace)) (f:List Value->Option (DataW H×List MemPlace)),
  (∀cs y,f cs=some y->∃d:e.den,Enc (Wgs w) e d cs/\Wfd e d/\WeG e d<=β y.1)->
  (∀i,i0<=i->i<i0+k->∃y cs,w.cells? 0 (a.add (i*n)) n=some cs/\f cs=some y/\el i=some y)->
  ∃(l:List e.den) (cs:List Value),l.length=k/\EncL (Enc (Wgs w) e) l cs/\(∀x∈l,Wfd e x)/\(∀(j:Nat) (v:Value),cs[j]?=some v->w.cell? (a.add (i0*n+j))=some v)/\
   cs.length=k*n/\(l.map (WeG e)).sum<=((Xcv k).map λi=>match el (i0+i)with|some y=>β y.1|none=>0).sum
 |0,i0,el,f,hf,he=>⟨[],[],rfl,rfl,by simp,by simp,by simp,by simp⟩
 |k+1,i0,el,f,hf,he=>by
  obtain⟨y,c1,h1,h2,h3⟩:=he i0 (Xj _) (by omega);obtain⟨d,mD,fW,hd3⟩:=hf _ _ h2;obtain⟨l,cs,g1,g2,g3,g4,g5,g6⟩:=Wlk n hn k (i0+1) el f hf (λi iV iW=>he i (by omega) (by omega));obtain⟨hl,hg⟩:=Wnh h1;refine⟨d::l,c1++cs,by simp[g1],⟨c1,cs,rfl,mD,g2⟩,λx hx=>?_,λj v hj=>?_,?_,?_⟩
  .rcases Xm.1 hx with rfl|hx
   .exact fW
   .exact g3 x hx
  .rw[Xao]at hj;split at hj
   .have:=hg j v hj;rw[Addr.add_add]at this;exact this
   .rename_i hlt;have:=g4 _ v hj;rw[hl]at this hlt;have e:(i0+1)*n+(j-n)=i0*n+j:=by rw[Xci];omega
    rw[e]at this;exact this
  .rw[Xw,hl,g5,Xci];omega
  .rw[List.range_succ_eq_map,Xag,Xag,Xck,Xck,Xed];simp only[Xap,h3];have:((λi=>match el (i0+i)with|some y=>β y.1|none=>0)∘Nat.succ)= λi=>match el (i0+1+i)with|some y=>β y.1|none=>0:=by
    funext i;simp only[Function.comp,Nat.succ_eq_add_one];rw[show i0+(i+1)=i0+1+i by omega]
   rw[this];omega
theorem WpF{β':DataW H×List MemPlace->Nat}(xs:List (DataW H×List MemPlace)):((Xcv xs.length).map λi=>match xs[0+i]? with|some y=>β' y|none=>0).sum=(xs.map β').sum:=by
 congr 1;apply List.ext_getElem
 .simp
 .intro i h1 h2;simp at h1;simp[h1]
theorem Wj5{t:Ty}{ts:List Ty}(h:ts≠ []):WcI (t::ts)= .prod t (WcI ts):=by
 cases ts with
 |nil=>exact absurd rfl h
 |cons _ _=>rfl
theorem Whm(hT:WW P T)(hβ:Bulk β)(f:TypeId->List Value->Option (DataW H×List MemPlace)){cs:List Value}:∀(fs:List (Nat×TypeId)) (off:Nat) (ts:List Ty) (ys:List (DataW H×List MemPlace)),ts≠ []->WgY T fs off=some ts->
  (∀fd∈fs,∀te cs y,We T fd.2=some te->f fd.2 cs=some y->∃d:te.ty.den,Enc (Wgs w) te.ty d cs/\Wfd te.ty d/\WeG te.ty d<=β y.1)->
  ys.length=fs.length->(∀(i:Nat) (fd:Nat×TypeId),fs[i]?=some fd->f fd.2 ((cs.drop fd.1).take (P.cellsOf fd.2))=ys[i]?)->cs.length=off+(WcI ts).size->
  ∃d:(WcI ts).den,Enc (Wgs w) (WcI ts) d (cs.drop off)/\Wfd (WcI ts) d/\WeG (WcI ts) d<=(ys.map λy=>β y.1).sum
 | [],off,ts,ys,hne,eV,_,_,_,_=>by injection eV with eV;exact absurd eV.symm hne
 |(o,ft)::fs,off,ts,ys,hne,eV,hf,hlen,oe,aF=>by
  cases ys with
  |nil=>simp at hlen
  |cons y ys=>
   simp only[WgY]at eV;split at eV
   .rename_i te hl;obtain⟨hc,eV⟩:=Wae eV;simp only[Xh]at hc;have ho:o=off:=by simpa using hc.1
    obtain⟨og,cx,rfl⟩:=Xs.1 eV;have hsz:P.cellsOf ft=te.ty.size:=by rw[WeR (hT _ _ hl),WG hc.2]
    have h0:=oe 0 (o,ft) rfl;simp only[Xdc,hsz,ho]at h0;obtain⟨d1,e1,e2,e3⟩:=hf (o,ft) (Xg ..) te _ y hl h0;cases bS:fs with
    |nil=>
     subst bS;simp only[WgY]at cx;injection cx with cx;subst cx;have mE:ys= []:=by cases ys with
      |nil=>rfl
      |cons _ _=>simp at hlen
     subst mE;have mw:(cs.drop off).take te.ty.size=cs.drop off:=Xcn (by rw[List.length_drop,aF];simp[WcI]);rw[mw]at e1;exact⟨d1,e1,e2,by rw[Xag,Xca,Xck,List.sum_nil,Xap];exact e3⟩
    |cons g gs=>
     have kG:og≠ []:=by
      rw[bS]at cx;obtain⟨o2,ft2⟩:=g;simp only[WgY]at cx;split at cx
      .obtain⟨_,cx⟩:=Wae cx;obtain⟨x,_,rfl⟩:=Xs.1 cx;simp
      .cases cx
     have oh:=Wj5 (t:=te.ty) kG;obtain⟨d2,f1,f2,f3⟩:=Whm hT hβ f (cs:=cs) fs (off+te.ty.size) og ys kG cx (λfd dg=>hf fd (Xe _ dg)) (by simpa using hlen)
      (λi fd hi=>by have:=oe (i+1) fd (by simpa using hi);simpa using this) (by rw[aF,oh,Ty.size];omega)
     rw[oh];refine⟨(d1,d2),⟨_,_,?_,e1,f1⟩,⟨e2,f2⟩,?_⟩
     .rw[←List.drop_drop];exact(List.take_append_drop _ _).symm
     .simp only[WeG,Xag,Xck];omega
   .cases eV
theorem Whx(hT:WW P T)(hβ:Bulk β):∀(n fuel:Nat) (t:TypeId) (te:TE) (cs:List Value) (x:DataW H×List MemPlace),Wku T n t=true->We T t=some te->
  DataW.trod enc P w 0 (λ_=>true) true fuel t cs=some x->∃d:te.ty.den,Enc (Wgs w) te.ty d cs/\Wfd te.ty d/\WeG te.ty d<=β x.1
 |0,_,_,_,_,_,h,_,_=>by cases h
 |n+1,fuel,t,te,cs,x,h,hl,hx=>by
  have aP:=hT _ _ hl;simp only[Wku,hl]at h;obtain⟨ty,agg,shape⟩:=te;cases shape with
  |basic=>
   have hu:=aP.und.2;cases ty with
   |int k=>
    obtain⟨m,rfl,rfl,hw⟩:=DataW.trod_int hu hx;exact⟨m,rfl,hw,hβ.lit _⟩
   |bool=>
    obtain⟨b,rfl,rfl⟩:=DataW.trod_bool hu hx;exact⟨b,rfl,trivial,hβ.lit _⟩
   |str=>
    obtain⟨s,rfl,rfl,hs⟩:=DataW.trod_string hu hx;refine⟨s.data.toList,by simp[Enc],?_,hβ.str _⟩;show s.data.toList.length<=maxLen;rw[Array.length_toList];exact hs
   |slice e=>cases h
   |own e=>cases h
   |prod a b=>cases h
  |slice e=>
   simp only[Xh]at h;obtain⟨ha,hu,ce,hle,dL⟩:=aP.und;simp only at dL;subst dL;have hp:ce.plain=true:=by have:=h.2;rw[hle]at this;exact this
   have hsz:P.cellsOf e=ce.ty.size:=by rw[WeR (hT _ _ hle),WG hp]
   rcases DataW.trod_slice hu hx with⟨rfl,rfl⟩|⟨a,len,cap,elems,rest,m,rfl,rfl,rfl,hb,pJ,jV,mF,hel,fK,_⟩
   .exact⟨([]:List ce.ty.den),⟨_,rfl,.inl ⟨rfl,rfl⟩⟩,⟨by simp,λx hx=>by cases hx⟩,by simpa [WeG]using hβ.nil⟩
   .have key:=Wlk (w:=w) (β:=β) (e:=ce.ty) (a:=a) ce.ty.size (WaP _) len 0 (λi=>elems[i]?) (λcs=>DataW.trod enc P w 0 (λ_=>true) true m e cs)
     (λcs y hy=>Whx hT hβ n m e ce cs y h.1 hle hy) (λi _ hi=>by
      rw[Xbe]at hi;have:=hel i hi;rw[hsz]at this;have hlt:i<elems.length:=by omega
      rw[Xr hlt]at this;obtain⟨cs,h1,h2⟩:=Xbn.1 this;exact⟨elems[i],cs,h1,h2,Xr hlt⟩)
    obtain⟨l,cs,g1,g2,g3,g4,g5,g6⟩:=key;refine⟨l,⟨_,rfl,?_⟩,⟨by rw[g1];omega,g3⟩,?_⟩
    .by_cases h0:len=0
     .subst h0;exact .inr (.inr ⟨a,cap,rfl,Xx g1⟩)
     .have lS:0<cs.length:=by rw[g5];exact Nat.mul_pos (by omega) (WaP _)
      have kH:=g4 0 _ (Xr lS);have kI:a.spot=none:=by
       rw[Xeb,Xap]at kH;have:=World.cell?_spot kH;simpa [Addr.add]using this
      obtain⟨b,off,spot⟩:=a;subst kI;refine .inr (.inl ⟨b,off,cap,cs,by rw[g1],by rw[g1];exact pJ,jV,g2,λj v hj=>?_⟩);have:=g4 j v hj;rw[Xeb,Xbe,Wao]at this;exact this
    .have h1:=hβ.slice (elems.map (·.1)) (rest.map (·.1));have h2:((Xcv len).map λi=>match elems[0+i]? with|some y=>β y.1|none=>0).sum=(elems.map λy=>β y.1).sum:=by
      rw[←mF];exact WpF elems
     rw[h2]at g6;rw[Xed]at h1;simp only[WeG];have h3:(List.map (β∘λx=>x.1) elems)=elems.map λy=>β y.1:=rfl;rw[h3]at h1;show(List.map (WeG ce.ty) l).sum+1<=_;omega
  |struct fs=>
   simp only[Xh]at h;obtain⟨ha,fields,hu,bS,oi,_⟩:=aP.und;have h2:=h.2;split at h2
   .rename_i t1 ts pK;have dL:ty=WcI (t1::ts):=of_decide_eq_true h2;subst dL;obtain⟨xs,m,rfl,rfl,hcl,fj,iH⟩:=DataW.trod_struct hu hx;have hsz:P.cellsOf t=(WcI (t1::ts)).size:=by rw[WeR aP];rfl
    have key:=Whm (w:=w) (P:=P) hT hβ (λt cs=>DataW.trod enc P w 0 (λ_=>true) true m t cs) (cs:=cs) fs 0 (t1::ts) xs (by simp) pK
     (λfd dg te cs y jz hy=>Whx hT hβ n m fd.2 te cs y (Xaf.1 h.1 fd dg) jz hy) (by rw[fj,←bS];simp)
     (λi fd hi=>by
      rw[←bS]at hi;rw[Xah]at hi;obtain⟨fl,du,he⟩:=Xs.1 hi;subst he;exact iH i fl (by simpa using du)) (by rw[hcl,hsz,Xbe])
    obtain⟨d,g1,g2,g3⟩:=key;rw[Xav]at g1;refine⟨d,g1,g2,Xaz g3 ?_⟩;have:=hβ.agg (xs.map (·.1));rw[Xed]at this;exact this
   .cases h2
  |ptr e=>cases h
  |arr m e=>cases h
theorem Wc2{G:GH}{w:World}:∀(t:Ty) (d:t.den) (vs:List Value),Enc G t d vs->TyRel G w t d vs []
 | .int _,_,_,h=>⟨rfl,h⟩
 | .bool,_,_,h=>⟨rfl,h⟩
 | .str,_,_,h=>⟨rfl,h⟩
 | .slice _,_,_,h=>⟨rfl,h⟩
 | .own _,_,_,h=>h.elim
 | .prod a b,d,vs,⟨c1,c2,he,h1,h2⟩=>⟨c1,c2,[],[],he,rfl,Wc2 a _ _ h1,Wc2 b _ _ h2⟩
def Wlq:(ps:List PTy)->WdG ps->Prop
 | [],_=>True
 | .v t _::ps,d=>Wfd t d.1/\Wlq ps d.2
 | .box _::_,_=>False
 | .mut _::_,_=>False
 | .clos _ _::_,_=>False
 | .kv _ _::_,_=>False
 | .rp _::_,_=>False
 | .vj _::_,_=>False
 | .boxal _ _::_,_=>False
def Wd5:(ps:List PTy)->WdG ps->Nat
 | [],_=>0
 | .v t _::ps,d=>WeG t d.1+Wd5 ps d.2
 | .box _::_,_=>0
 | .mut _::_,_=>0
 | .clos _ _::_,_=>0
 | .kv _ _::_,_=>0
 | .rp _::_,_=>0
 | .vj _::_,_=>0
 | .boxal _ _::_,_=>0
def Wp8(P:Program)(T:Tab):List TypeId->List PTy->Bool
 | [],[]=>true
 |t::ts,p::ps=>(match p with
  | .v ty agg=>(match We T t with|some te=>decide (te.ty=ty)&&(te.agg==agg)|none=>false)&&Wku T 20 t&&P.readableRec t&&Nat.blt t P.types.size&&Wp8 P T ts ps
  | .box _=>false
  | .mut _=>false
  | .clos _ _=>false
  | .kv _ _=>false
  | .rp _=>false
  | .vj _=>false
  | .boxal _ _=>false)
 |_,_=>false
theorem Wjw(hT:WW P T)(hβ:Bulk β):∀(ts:List TypeId) (ps:List PTy) (vs:List Value) (ds:List (DataW H)) (pl:List MemPlace),Wp8 P T ts ps=true->DataW.TrodAll enc P w 0 (λ_=>true) true ts vs ds pl->
  (∀(j:Nat) (t:TypeId) (v:Value),ts[j]?=some t->vs[j]?=some v->∃base,Value.okWide P w .any base t v)->
  ∃d:WdG ps,WaF (Wgs w) w ps d vs [] []/\Wlq ps d/\Wd5 ps d<=(ds.map β).sum
 | [],[],vs,ds,pl,_,h,_=>by
  obtain⟨rfl,rfl,_⟩:=trodAll_nil h;exact⟨(),⟨rfl,rfl,rfl⟩,trivial,by simp[Wd5]⟩
 | [],_::_,_,_,_,h,_,_=>by cases h
 |_::_,[],_,_,_,h,_,_=>by cases h
 |t::ts,.box _::ps,_,_,_,h,_,_=>by cases h
 |t::ts,.mut _::ps,_,_,_,h,_,_=>by cases h
 |t::ts,.clos _ _::ps,_,_,_,h,_,_=>by cases h
 |t::ts,.kv _ _::ps,_,_,_,h,_,_=>by cases h
 |t::ts,.rp _::ps,_,_,_,h,_,_=>by cases h
 |t::ts,.vj _::ps,_,_,_,h,_,_=>by cases h
 |t::ts,.boxal _ _::ps,_,_,_,h,_,_=>by cases h
 |t::ts,.v ty agg::ps,vs,ds,pl,hp,h,dy=>by
  obtain⟨v,vs',d,kJ,p,q,rfl,rfl,rfl,h0,hr⟩:=trodAll_cons h;simp only[Wp8,Xh]at hp;obtain⟨⟨⟨⟨h1,h2⟩,h3⟩,h4⟩,h5⟩:=hp;split at h1
  .rename_i te hl;simp only[Xh]at h1;have e1:te.ty=ty:=of_decide_eq_true h1.1;have e2:te.agg=agg:=eq_of_beq h1.2;subst e1 e2;obtain⟨fuel,hx⟩:=h0;obtain⟨x,kK,oj,mG⟩:=Whx hT hβ 20 fuel t te _ (d,p) h2 hl hx;obtain⟨base,bn⟩:=dy 0 t v rfl rfl;obtain⟨dd,g1,g2,g3⟩:=Wjw hT hβ ts ps vs' kJ q h5 hr (λj t v hj hv=>dy (j+1) t v (by simpa using hj) (by simpa using hv));refine⟨(x,dd),⟨v,vs',[],[],rfl,rfl,?_,g1⟩,⟨oj,g2⟩,?_⟩
   .have hu:=(hT _ _ hl).und;unfold WgF;obtain⟨ty,ag,shape⟩:=te;simp only at kK oj mG⊢;have cu:∀u:Value,u.cells= #[u]->u=v->v.cells.toList= [v]:=λu h e=>by rw[←e,h]
    cases shape with
    |basic=>
     obtain⟨ha,hu⟩:=hu;simp only at ha;subst ha;simp only[Xbv,if_false];have:v.cells.toList= [v]:=by
      cases ty with
      |int k=>obtain⟨n,rfl⟩:=okWide_int hu bn;rfl
      |bool=>obtain⟨n,rfl⟩:=okWide_bool hu bn;rfl
      |str=>obtain⟨n,rfl⟩:=okWide_string hu bn;rfl
      |slice e=>cases hu
      |own e=>cases hu
      |prod a b=>cases hu
     rw[this]at kK;exact Wc2 _ _ _ kK
    |slice e=>
     obtain⟨ha,hu,_⟩:=hu;simp only at ha;subst ha;simp only[Xbv,if_false];obtain⟨a,l,c,rfl⟩:=okWide_slice hu bn;exact Wc2 _ _ _ kK
    |struct fs=>
     obtain⟨ha,fields,hu,_⟩:=hu;simp only at ha;subst ha;simp only[if_true];obtain⟨cs,rfl,_⟩:=okWide_struct hu bn;exact⟨cs.toList,by simp,Wc2 _ _ _ kK⟩
    |ptr e=>simp only[Wku,hl]at h2;cases h2
    |arr m e=>simp only[Wku,hl]at h2;cases h2
   .have mG:WeG te.ty x<=β d:=mG;simp only[Wd5,Xag,Xck];omega
  .cases h1
theorem WiN:∀(ts:List TypeId) (vs:List Value) (ds:List (DataW H)) (pl:List MemPlace),DataW.TrodAll enc P w 0 (λ_=>true) true ts vs ds pl->ds.length=ts.length
 | [],vs,ds,pl,h=>by obtain⟨_,rfl,_⟩:=trodAll_nil h;rfl
 |t::ts,vs,ds,pl,h=>by
  obtain⟨v,vs',d,kJ,p,q,rfl,rfl,rfl,h0,hr⟩:=trodAll_cons h;simp[WiN ts vs' kJ q hr]
theorem Wjf(fa:laidOutB P=true){W W':World}(hb:Below W.heap.size W W'){sp:Nat->Bool}:∀(ts:List TypeId) (ps:List PTy) (vs:List Value) (ds:List (DataW H)) (pl:List MemPlace),Wp8 P T ts ps=true->
  DataW.TrodAll enc P W 0 (λ_=>true) true ts vs ds pl->(∀p∈pl,p.block<W.heap.size)->(∀p∈pl,sp p.block=true)->DataW.TrodAll enc P W' 0 sp true ts vs ds pl
 | [],ps,vs,ds,pl,_,h,_,_=>by
  obtain⟨rfl,rfl,rfl⟩:=trodAll_nil h;exact trodAll_mk0
 |t::ts,[],_,_,_,h,_,_,_=>by cases h
 |t::ts,.box _::ps,_,_,_,h,_,_,_=>by cases h
 |t::ts,.mut _::ps,_,_,_,h,_,_,_=>by cases h
 |t::ts,.clos _ _::ps,_,_,_,h,_,_,_=>by cases h
 |t::ts,.kv _ _::ps,_,_,_,h,_,_,_=>by cases h
 |t::ts,.rp _::ps,_,_,_,h,_,_,_=>by cases h
 |t::ts,.vj _::ps,_,_,_,h,_,_,_=>by cases h
 |t::ts,.boxal _ _::ps,_,_,_,h,_,_,_=>by cases h
 |t::ts,.v ty agg::ps,vs,ds,pl,hp,h,hlt,fK=>by
  obtain⟨v,vs',d,kJ,p,q,rfl,rfl,rfl,h0,hr⟩:=trodAll_cons h;simp only[Wp8,Xh]at hp;obtain⟨⟨⟨⟨h1,h2⟩,h3⟩,h4⟩,h5⟩:=hp;have hrow:t<P.types.size:=by rw[Xgd]at h4;exact h4
  exact⟨p,q,WideElems.Trod_stays fa h3 hrow h0 (λx hx=>hb.same (hlt x (Xi _ hx))) (λx hx=>fK x (Xi _ hx)),
   Wjf fa hb ts ps vs' kJ q h5 hr (λx hx=>hlt x (Xf _ hx)) (λx hx=>fK x (Xf _ hx)),rfl⟩
theorem Woi{f:Func}{s:ChangeSpec}{apart fresh dm again:Bool}{W W':World}{args:Array Value}{v:Value}{ds gs:List (DataW H)}{before pa pv:List MemPlace}
  (hW:DataW.Whole enc P f.params.toList s.vars apart W args.toList ds gs before)
  (eh:∀(b:Nat) (sp:Nat->Bool) (hd:Bool),DataW.TrodAll enc P W' b sp hd f.resultTypes.toList (v.resultList f.resultTypes.size) (s.fn H (ds++gs)).results [])
  (hargs:∀sp:Nat->Bool,(∀p∈before,sp p.block=true)->DataW.TrodAll enc P W' 0 sp true f.params.toList args.toList (s.fn H (ds++gs)).args pa)
  (iq:∀sp:Nat->Bool,(∀p∈before,sp p.block=true)->DataW.TrodVars enc P W' sp s.vars (s.fn H (ds++gs)).vars pv)
  (bP:before=pa++pv) (hk:W.keptBut W' (· ∈before)) (ol:∀a,a.block<W.heap.size->W'.frozen? a=W.frozen? a)
  (bn:∀(j:Nat) (t:TypeId) (r:Value),f.resultTypes[j]?=some t->(v.resultList f.resultTypes.size)[j]?=some r->Value.okWide P W' .any 0 t r):
  s.post enc P f apart fresh dm again W args v W':=by
 have dC:∀p∈before,(λb=>decide (b<W.heap.size)) p.block=true:=λp hp=>by simpa using hW.lt p hp
 refine⟨ds,gs,before,[],pa,pv,hW,eh _ _ _,hargs _ dC,iq _ dC,World.keptBut_mono (λp hp=>⟨hp,?_⟩) hk,λ_=>?_⟩
 .rw[bP,Xk]at hp;exact Or.inr hp
 .have hlt:=hW.lt;obtain⟨_,_,_,_,_,hz,hn⟩:=hW;refine⟨bn,_,_,([]++pa)++pv,⟨[]++pa,pv,trodAll_append (hargs _ (λ_ _=>rfl)) (eh _ _ _),iq _ (λ_ _=>rfl),rfl,?_,?_⟩,?_⟩
  .intro b off hp;have bU:MemPlace.cell b off∈before:=by rw[bP];simpa using hp
   rw[ol ⟨b,off,none⟩ (hlt _ bU)];exact hz b off bU
  .intro ha;have:=hn ha;rw[bP]at this;simpa using this
  .intro p hp _;rw[bP];simpa using hp
theorem law_row(hT:WW P T)(fa:laidOutB P=true){f:Func}{k:FuncId}{s:ChangeSpec}(bJ:s.vars= [])(hs:∀ds:List (DataW H),ds.length=f.params.toList.length->s.fn H ds={results:=[.lit (.bool true)],args:=ds})
  {ps:List PTy} (bP:Wp8 P T f.params.toList ps=true) {tb:TypeId} (eh:f.resultTypes= #[tb]) (om:P.underlying tb=some .bool) {run:Nat->WdG ps->Option (Wd1 ps×WeX [.v .bool false])}
  (fV:∀N,Good P k (Sig.of ps [.v .bool false] (run N))) (hβ:Bulk β) {ok:List (DataW H)->Prop} {M:Nat->Prop} (kL:∀ds m,ok ds->m<=(ds.map β).sum->M m)
  (mH:∀d:WdG ps,Wlq ps d->M (Wd5 ps d)->∃N o,run N d=some (o,(true,()))) {apart fresh dm again:Bool}
  (W:World) (base:Nat) (args:Array Value) (ds gs:List (DataW H)) (before:List MemPlace)
  (dy:∀(j:Nat) t v,f.params[j]?=some t->args[j]?=some v->Value.okWide P W .any base t v)
  (hW:DataW.Whole enc P f.params.toList s.vars apart W args.toList ds gs before) (hk:ok ds):
  Calls P k args W λe W'=>∃v,e= .returned v/\s.post enc P f apart fresh dm again W args v W':=by
 have hW':=hW;have hlt:=hW.lt;obtain⟨p,q,hA,hV,oo,ol,au⟩:=hW;rw[bJ]at hV;obtain⟨pL,hq⟩:=trodVars_none hV;subst pL hq;rw[Xcj]at oo;subst oo;obtain⟨d,h1,h2,h3⟩:=Wjw (w:=W) hT hβ f.params.toList ps args.toList ds before bP hA (λj t v hj hv=>⟨base,dy j t v (by simpa using hj) (by simpa using hv)⟩);obtain⟨N,o,ho⟩:=mH d h2 (kL ds _ hk h3);have hc:=fV N d (o,(true,())) ho (Wgs W) W args.toList [] [] h1 List.Pairwise.nil (by simp) (λb o v hv=>hv);have hargs:args.toList.toArray=args:=by simp
 rw[hargs]at hc;refine hc.mono λe W' ⟨rv,kf,ms,bA,G',he,ha⟩=>?_;have hb:Below W.heap.size W W':=⟨ha.le.os,ha.le.tape,ha.le.output,ha.le.size,λb hb=>ha.le.whole b hb (λo ⟨q,hq,_⟩=>by simp at hq)⟩;obtain⟨v,vs',n1,n2,e1,e2,e3,e4⟩:=ha.res;obtain⟨e5,_⟩:=e4;subst e5;have hv:v= .bool true:=by
  unfold WgF at e3;simp only[Xbv,if_false]at e3;have:=e3.2;simpa [Enc]using this
 subst hv;have pM:Wgr rv= .bool true:=by rw[e1];rfl
 rw[pM]at he;refine⟨.bool true,he,?_⟩;have hlen:=WiN _ _ _ _ hA;have mI:=hs (ds++ []) (by rw[Xcj];exact hlen);refine Woi (pa:=before) (pv:=[]) hW' ?_ ?_ ?_ (by simp) (hb.frame _) (λa ha=>hb.frozen ha) (ok_one eh rfl (okWide_bool_mk om _))
 .intro b sp hd;rw[mI,eh];exact trodAll_cons_mk (shut_bool om _) trodAll_mk0
 .intro sp fK;rw[mI,Xcj];exact Wjf fa hb _ _ _ _ _ bP hA hlt fK
 .intro sp fK;rw[mI,bJ];rfl
end
end Go.Sx
namespace Go.Sx
set_option linter.unusedVariables false
def sortInts(xs:List Int):List Int:=xs.mergeSort λx y=>decide (x<=y)
def Zl5(N:Nat)(xs:List Int):Option ((List Int×Unit)×Unit):=bif decide (xs.length<4611686018427387904)then some ((sortInts xs,()),())else none
theorem sortInt_some{N:Nat}{xs:List Int}{o:(List Int×Unit)×Unit}(h:Zl5 N xs=some o):xs.length<4611686018427387904/\o=((sortInts xs,()),()):=by
 unfold Zl5 at h;by_cases h':xs.length<4611686018427387904
 .rw[show decide (xs.length<4611686018427387904)=true by simpa using h']at h;simp only[cond_true]at h;injection h with h;exact⟨h',h.symm⟩
 .rw[show decide (xs.length<4611686018427387904)=false by simpa using h']at h;cases h
end Go.Sx
namespace Go.Sx
set_option linter.unusedVariables false
def WhT{α:Type}(r:α->α->Bool):List α->Bool
 | []=>true
 |x::l=>l.all (r x)&&WhT r l
def lessBy{α:Type}(cf:α->α->Int)(x y:α):Bool:=decide (cf x y<0)
def apart{α:Type}(cf:α->α->Int)(x y:α):Bool:=lessBy cf x y||lessBy cf y x
def sortBy{α:Type}(cf:α->α->Int)(xs:List α):List α:=xs.mergeSort λx y=>!lessBy cf y x
def Zjt{α:Type}(rng:α->Bool)(cf:α->α->Int)(N:Nat)(xs:List α):Option ((List α×Unit)×Unit):=
 bif xs.all rng&&(WhT (apart cf) xs&&decide (xs.length<4611686018427387904))then some ((sortBy cf xs,()),())else none
structure SwoOn{α:Type}(rng:α->Bool)(cf:α->α->Int):Prop where
 irr:∀x,rng x=true->¬cf x x<0
 tr:∀x y z,rng x=true->rng y=true->rng z=true->cf x y<0->cf y z<0->cf x z<0
 nt:∀x y z,rng x=true->rng y=true->rng z=true->¬cf x y<0->¬cf y z<0->¬cf x z<0
theorem sortBy_some{α:Type}{rng:α->Bool}{cf:α->α->Int}{N:Nat}{xs:List α}{o:(List α×Unit)×Unit}(h:Zjt rng cf N xs=some o):
  (∀x∈xs,rng x=true)/\WhT (apart cf) xs=true/\xs.length<4611686018427387904/\o=((sortBy cf xs,()),()):=by
 unfold Zjt at h;cases hb:xs.all rng&&(WhT (apart cf) xs&&decide (xs.length<4611686018427387904))
 .rw[hb]at h;cases h
 .rw[hb]at h;simp only[cond_true]at h;injection h with h;simp only[Xh,decide_eq_true_eq]at hb;exact⟨Xaf.1 hb.1,hb.2.1,hb.2.2,h.symm⟩
theorem pairs_get{α:Type}{r:α->α->Bool}:∀{l:List α},WhT r l=true->∀(i j:Nat) (hi:i<l.length) (hj:j<l.length),i<j->r l[i] l[j]=true
 | [],_,i,_,hi,_,_=>by simp at hi
 |x::l,h,0,j+1,hi,hj,hij=>by
  simp only[WhT,Xh]at h;exact Xaf.1 h.1 _ (List.getElem_mem _)
 |x::l,h,i+1,j+1,hi,hj,hij=>by
  simp only[WhT,Xh]at h;simpa using pairs_get h.2 i j (by simpa using hi) (by simpa using hj) (by omega)
def WqH(k:Int):Bool:=decide (-1000000000<=k)&&decide (k<=1000000000)
def Wqw(a:Int×Int×Int):Bool:=WqH a.1
def cfE(a b:Int×Int×Int):Int:=a.1-b.1
theorem WmG{k:Int}(h:WqH k=true):-1000000000<=k/\k<=1000000000:=by unfold WqH at h;simpa using h
theorem Wrg:SwoOn Wqw cfE:=⟨λx _=>by unfold cfE;omega,λx y z _ _ _=>by unfold cfE;omega,λx y z _ _ _=>by unfold cfE;omega⟩
end Go.Sx
