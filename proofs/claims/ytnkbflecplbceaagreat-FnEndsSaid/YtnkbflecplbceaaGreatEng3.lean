/- The abstract machine, part 3: a reflective interpreter of the program's code over data, with its soundness over the model. -/
import Derived.Test.YtnkbflecplbceaaGreatEng2
open Option renaming bind_assoc→Xgr,map→Xfl,bind_some→Xc,getD_some→Xdy,bind_eq_some_iff→Xbv,map_eq_some_iff→Xx
open Bool renaming not_true→Xaa,and_eq_true→Xh,not_eq_true'→Xao,false_eq_true→Xbm,or_eq_true→Xbw
open List renaming mem_map→Xu,mem_cons_of_mem→Xe,mem_append_left→Xk,mem_append_right→Xg,mem_cons→Xo,mem_cons_self→Xi,length_append→Xz,getD_eq_getElem?_getD→Xbc,getElem?_append→Xaz,getElem?_cons_zero→Xdq,getElem?_eq_none→Xbj,all_eq_true→Xae,append_of_mem→Xee,mem_append→Xn,range→Xdf,mem_filter→Xas,mem_range→Xeg,filter_cons→Xbh,eq_nil_of_length_eq_zero→Xy,eq_nil_iff_forall_not_mem→Xex,nodup_nil→Xdi,mem_of_getElem?→Xav,nodup_cons→Xai,nil_append→Xcd,cons_append→Xbf,length_filter_le→Xeq,length_range→Xfi,mem_flatMap→Xfr,map_cons→Xaj,map_map→Xef,map_congr_left→Xez,append_nil→Xcw,nodup_append→Xak,filter_append→Xcr,prefix_append→Xgn,map_append→Xp,map_nil→Xch,mem_erase_of_ne→Xge,length_erase_of_mem→Xfo,length_pos_of_mem→Xfy,length_cons→Xr,getElem?_cons_succ→Xdp,getElem?_eq_some_iff→Xq,getElem?_append_right→Xaw,getElem?_tail→Xcg,mapM_cons→Xfd,pairwise_singleton→Xbi,mem_singleton→Xac,take_of_length_le→Xcx,getElem?_eq_getElem→Xs,drop_zero→Xcc,tail_cons→Xeh,getElem?_map→Xam,length→Xa,sum_cons→Xca
open Nat renaming sub_self→Xcy,blt_eq→Xgv,le_refl→Xm,zero_add→Xbb,zero_le→Xbo,sub_zero→Xda,beq→Xbt,le_trans→Xcn,add_zero→Xax,add_sub_cancel_left→Xbd,le_of_ble_eq_true→Xfz,add_mul→Xcv,zero_mul→Xes
open Array renaming getD_eq_getD_getElem?→Xcm,getElem?_setIfInBounds→Xfb,getElem?_eq_getElem→Xdg,getElem?_eq_some_iff→Xde,replicate→Xec
namespace Go.Sx
set_option linter.unusedVariables false
set_option linter.unusedSimpArgs false
abbrev Out:=AVal×Objs×Nat
def Whm(x:AVal)(objs:Objs)(nx:Nat):Option Out:=some (x,objs,nx)
section
variable{T:Tab}{Γ:Ctx}{A:List (Nat×An)}
theorem Wcw{α β:Type}{c:Prop}[Decidable c]{x:Option α}{f:α→Option β}:(if c then x else none).bind f=if c then x.bind f else none:=by split<;>rfl
theorem Wfx{α β:Type}{c:Bool}{x:Option α}{f:α→Option β}:(bif c then x else none).bind f=bif c then x.bind f else none:=by cases c<;>rfl
theorem Wny{R:Type}(sg:Sig)(st:St)(xs:List AVal)(k:KV R):Wmr sg st xs k=(Wmr sg st xs Whm).bind λp=>k p.1 p.2.1 p.2.2:=by
 unfold Wmr
 split
 ·split
  ·rw[sg.law,sg.law,Xgr];rfl
  ·rfl
 ·rfl
theorem callF_bind{R:Type}(sg:Sig)(st:St)(xs:List AVal)(k:KV R):callF sg st xs k=(callF sg st xs Whm).bind λp=>k p.1 p.2.1 p.2.2:=by
 unfold callF
 cases sg.fresh with
 |true=>exact Wny _ _ _ _
 |false=>
  simp only[cond_false]
  split
  ·split
   ·exact Wny _ _ _ _
   ·exact Wny _ _ _ _
  ·rfl
theorem appendN_bind{R:Type}(st:St)(te:Ty)(s x:AVal)(k:KV R):Wkx st te s x k=(Wkx st te s x Whm).bind λp=>k p.1 p.2.1 p.2.2:=by
 unfold Wkx
 split
 ·split
  ·split
   ·split
    ·rw[Wfx];rfl
    ·rfl
   ·rfl
  ·rfl
 ·split
  ·split
   ·split
    ·rw[Wcw,Wfx];rfl
    ·rfl
   ·rfl
  ·rfl
 ·rfl
theorem nestOne_bind{R:Type}(st:St)(e:Ty)(ps:List (Nat×AVal))(k:KV R):Wic st e ps k=(Wic st e ps Whm).bind λp=>k p.1 p.2.1 p.2.2:=by
 unfold Wic
 split
 ·rw[Wcw]
  split
  ·split
   ·split
    ·rw[Wcw];rfl
    ·rfl
   ·rfl
  ·rfl
 ·rfl
theorem viewOp_bind{R:Type}(st:St)(te:Ty)(id:Nat)(l h:Option Int)(k:KV R):Wmt st te id l h k=(Wmt st te id l h Whm).bind λp=>k p.1 p.2.1 p.2.2:=by
 unfold Wmt
 split
 ·rw[Wcw,Wfx];rfl
 ·rfl
theorem appendOp_bind{R:Type}(st:St)(t t2:TypeId)(s x:AVal)(k:KV R):Wix T st t t2 s x k=(Wix T st t t2 s x Whm).bind λp=>k p.1 p.2.1 p.2.2:=by
 unfold Wix
 split
 ·split
  ·split
   ·cases flatS st s x with
    |false=>exact appendN_bind _ _ _ _ _
    |true=>
    simp only[Xaa,cond_false]
    split
    ·rw[Wfx];rfl
    ·split
     ·split
      ·rw[Wfx];rfl
      ·rfl
     ·rfl
    ·split
     ·split
      ·rw[Wfx];rfl
      ·rfl
     ·rfl
    ·rfl
   ·rfl
  ·rfl
 ·rfl
theorem pureB{R:Type}(p:Option (Bool×AVal))(objs:Objs)(nx:Nat)(k:KV R):(match p with|some (c,v)=>bif c then k v objs nx else none|none=>none)=(match p with|some (c,v)=>bif c then Whm v objs nx else none|none=>none).bind λp=>k p.1 p.2.1 p.2.2:=by
 rcases p with _|⟨c,v⟩
 ·rfl
 ·cases c<;>rfl
theorem Wpm{R:Type}(o:Oper)(st:St)(k:KV R):rxe T Γ A o st k=(rxe T Γ A o st Whm).bind λp=>k p.1 p.2.1 p.2.2:=by
 unfold rxe
 split
 ·split
  ·rw[Wcw];rfl
  ·rw[Wcw];rfl
  ·rfl
 ·split<;>rfl
 ·split
  ·split
   ·split<;>rfl
   ·rfl
  ·rfl
 ·split
  ·split
   ·split
    ·rw[Wcw]
     split
     ·exact nestOne_bind _ _ _ _
     ·rfl
    ·split
     ·rw[Wcw];rfl
     ·rfl
   ·rfl
  ·rfl
 ·split
  ·split
   ·split
    ·rw[Wcw,Wfx];rfl
    ·rw[Wcw,Wfx];rfl
   ·rfl
  ·rfl
 ·split
  ·split
   ·split<;>rfl
   ·rfl
  ·rfl
 ·split
  ·split
   ·split
    ·split
     ·rw[Wcw]
      split
      ·exact viewOp_bind _ _ _ _ _ _
      ·rfl
     ·split
      ·rw[Wcw,Wfx];rfl
      ·rw[Wcw,Wfx];rfl
      ·rfl
    ·rfl
   ·rfl
  ·exact pureB _ _ _ _
 ·split
  ·split
   ·exact appendOp_bind _ _ _ _ _ _
   ·rfl
  ·split
   ·split
    ·split
     ·rw[Wcw];rfl
     ·rfl
    ·rfl
   ·rfl
  ·exact pureB _ _ _ _
  ·split
   ·split
    ·exact callF_bind _ _ _ _
    ·rfl
   ·rfl
  ·rfl
 ·exact pureB _ _ _ _
end
section
variable{T:Tab}{Γ:Ctx}{A:List (Nat×An)}
theorem storeOp_env{st:St}{env:List (Nat×AVal)}{t:TypeId}{x v:AVal}:Whk T {env:=env,objs:=st.objs,nx:=st.nx} t x v=(Whk T st t x v).map λs=>{env:=env,objs:=s.objs,nx:=s.nx}:=by
 unfold Whk
 generalize look T t=q
 generalize Wpy v=z
 rcases q with _|te
 ·rfl
 rcases z with _|ds
 ·rcases x with(c|cs)|xs
  ·cases c<;>rfl
  ·rfl
  ·rfl
 rcases x with(c|cs)|xs
 ·cases c with
  |ptr id off=>
   show(match look st.objs id with|some (.box cs)=>_|_=>_)=Xfl _ (match look st.objs id with|some (.box cs)=>_|_=>_)
   generalize look st.objs id=ob
   rcases ob with _|ob
   ·rfl
   cases ob with
   |box cs=>
    show(if _ then _ else _)=Xfl _ (if _ then _ else _)
    split<;>rfl
   |arr e xs=>rfl
   |hole e xs i p=>rfl
   |dead=>rfl
  |eptr id i off=>
   show(match look st.objs id with|some (.arr e xs)=>_|_=>_)=Xfl _ (match look st.objs id with|some (.arr e xs)=>_|_=>_)
   generalize look st.objs id=ob
   rcases ob with _|ob
   ·rfl
   cases ob with
   |box cs=>rfl
   |hole e xs i p=>rfl
   |dead=>rfl
   |arr e xs=>
    show(if _ then _ else _)=Xfl _ (if _ then _ else _)
    by_cases hc:(decide (te.ty.size=ds.length)&&te.plain&&decide (off+ds.length≤e.size)&&e.data)=true
    ·rw[if_pos hc,if_pos hc]
     generalize Wbr e (Wka (split e (List.getD xs i e.dflt)) off ds) st.objs=r
     rcases r with _|⟨d,m,l⟩
     ·rfl
     ·cases m<;>cases l<;>rfl
    ·rw[if_neg hc,if_neg hc]
     by_cases hc2:(decide (te.ty.size=ds.length)&&te.plain&&decide (off=0)&&decide (ds.length=e.size))=true
     ·rw[if_pos hc2,if_pos hc2]
      generalize Wbr e ds st.objs=r
      rcases r with _|⟨d,m,l⟩
      ·rfl
      ·cases l with
       |nil=>
        show(if _ then _ else _)=Xfl _ (if _ then _ else _)
        split<;>rfl
       |cons _ _=>rfl
     ·rw[if_neg hc2,if_neg hc2];rfl
  |_=>rfl
 ·rfl
 ·rfl
theorem rxe_congr{R:Type}(o:Oper){st:St}{env:List (Nat×AVal)}(k:KV R)(he:∀x∈Wbf o.op,ev {env:=env,objs:=st.objs,nx:=st.nx} x=ev st x):
  rxe T Γ A o {env:=env,objs:=st.objs,nx:=st.nx} k=rxe T Γ A o st k:=by
 have hpure:(∀t x l h m,o.op≠ .slice t x l h m)→Wbd T {env:=env,objs:=st.objs,nx:=st.nx} o.op=Wbd T st o.op:=λhm=>Wrl o.op hm he (λ_ _ _ _ _ _ _=>rfl)
 obtain⟨dst,op,type,pos,after,guard⟩:=o
 simp only at he hpure
 cases op with
 |alloc t=>rfl
 |box t x=>simp only[rxe,he x (by simp[Wbf])]
 |build t parts=>simp only[rxe,Wgt (st:=st) parts.toList λp hp=>he p.2 (by simp only[Wbf];exact Xu.2 ⟨p,hp,rfl⟩)]
 |buildSlice t n parts=>
  have e1:∀e ps,Wic {env:=env,objs:=st.objs,nx:=st.nx} e ps k=Wic st e ps k:=λ_ _=>rfl
  simp only[rxe,e1,Wgt (st:=st) parts.toList λp hp=>he p.2 (by simp only[Wbf];exact Xu.2 ⟨p,hp,rfl⟩)]
 |makeSlice t n c=>simp only[rxe,he n (by simp[Wbf]),he c (by simp[Wbf])]
 |store t a x=>
  simp only[rxe,he a (by simp[Wbf]),he x (by simp[Wbf])]
  split
  ·rename_i p v _ _
   have e:=storeOp_env (T:=T) (st:={env:=st.env,objs:=Wji st.objs (Wnh st.objs p v),nx:=st.nx}) (env:=env) (t:=t) (x:=p) (v:=Wrn st.objs (Wnh st.objs p v) v)
   simp only at e
   rw[e]
   cases Whk T {env:=st.env,objs:=Wji st.objs (Wnh st.objs p v),nx:=st.nx} t p (Wrn st.objs (Wnh st.objs p v) v)<;>rfl
  ·rfl
 |slice t x lo hi m=>
  have hx:=he x (by simp[Wbf])
  have hlo:=Wwh (st:=st) (st2:={env:=env,objs:=st.objs,nx:=st.nx}) lo λy hy=>he y (by simp only[Wbf];exact Xe _ (Xk _ hy))
  have hhi:=Wwh (st:=st) (st2:={env:=env,objs:=st.objs,nx:=st.nx}) hi λy hy=>he y (by simp only[Wbf];exact Xe _ (Xg _ (Xk _ hy)))
  cases m with
  |none=>
   have hp:Wbd T {env:=env,objs:=st.objs,nx:=st.nx} (.slice t x lo hi none)=Wbd T st (.slice t x lo hi none):=by
    simp only[Wbd,hx]
    refine Wfl λv _=>?_
    simp only[Wxn,hlo,hhi]
   have e1:∀te id l h,Wmt {env:=env,objs:=st.objs,nx:=st.nx} te id l h k=Wmt st te id l h k:=λ_ _ _ _=>rfl
   simp only[rxe,hx,hlo,hhi,hp,e1]
  |some y=>rfl
 |call c=>
  have hargs:=evs_congr (st:=st) (st2:={env:=env,objs:=st.objs,nx:=st.nx}) c.args.toList λx hx=>he x (by simp only[Wbf];exact Xg _ hx)
  have hp:=hpure (λ_ _ _ _ _ h=>by cases h)
  simp only[rxe]
  split
  ·rename_i s x t t2 hc ha hat
   have h1:ev {env:=env,objs:=st.objs,nx:=st.nx} s=ev st s:=he s (by simp only[Wbf];rw[ha];exact Xg _ (by simp))
   have h2:ev {env:=env,objs:=st.objs,nx:=st.nx} x=ev st x:=he x (by simp only[Wbf];rw[ha];exact Xg _ (by simp))
   rw[h1,h2]
   rfl
  ·rename_i x t hc ha hat
   have h1:ev {env:=env,objs:=st.objs,nx:=st.nx} x=ev st x:=he x (by simp only[Wbf];rw[ha];exact Xg _ (by simp))
   rw[h1]
  ·rw[hp]
  ·rename_i f hc
   have h1:ev {env:=env,objs:=st.objs,nx:=st.nx} f=ev st f:=he f (by simp only[Wbf];rw[hc];exact Xk _ (by simp))
   rw[h1,hargs]
   rfl
  ·rfl
 |move x=>simp only[rxe,hpure (λ_ _ _ _ _ h=>by cases h)]
 |assign x=>simp only[rxe,hpure (λ_ _ _ _ _ h=>by cases h)]
 |pick c a b=>simp only[rxe,hpure (λ_ _ _ _ _ h=>by cases h)]
 |load t a=>simp only[rxe,hpure (λ_ _ _ _ _ h=>by cases h)]
 |nilCheck x=>simp only[rxe,hpure (λ_ _ _ _ _ h=>by cases h)]
 |binOp op t x y z=>simp only[rxe,hpure (λ_ _ _ _ _ h=>by cases h)]
 |unOp op t x=>simp only[rxe,hpure (λ_ _ _ _ _ h=>by cases h)]
 |convert s d x=>simp only[rxe,hpure (λ_ _ _ _ _ h=>by cases h)]
 |fieldAddr s x f=>simp only[rxe,hpure (λ_ _ _ _ _ h=>by cases h)]
 |field t x f=>simp only[rxe,hpure (λ_ _ _ _ _ h=>by cases h)]
 |indexAddr t x i=>simp only[rxe,hpure (λ_ _ _ _ _ h=>by cases h)]
 |index t x i=>simp only[rxe,hpure (λ_ _ _ _ _ h=>by cases h)]
 |extract t ix=>simp only[rxe,hpure (λ_ _ _ _ _ h=>by cases h)]
 |makeFunc f first captured=>simp only[rxe,hpure (λ_ _ _ _ _ h=>by cases h)]
 |_=>rfl
def fval(T:Tab)(o:Oper)(st:St):Option AVal:=match o.op with
 | .build t parts=>match look T t,Wgq st parts.toList with
  |some ⟨ty,true,.struct fs⟩,some ps=>
   if fs.all (λf=>match look T f.2 with|some te=>te.plain|none=>false)then
    match fillC T fs ps (Wkh ty)with
    |some cs=>some (.s (.agg cs))
    |none=>none
   else none
  |_,_=>none
 |op=>match Wbd T st op with
  |some (c,v)=>bif c then some v else none
  |none=>none
theorem pureF(p:Option (Bool×AVal))(objs:Objs)(nx:Nat):(match p with|some (c,v)=>bif c then Whm v objs nx else none|none=>none)=(match p with|some (c,v)=>bif c then some v else none|none=>none).bind λv=>Whm v objs nx:=by
 rcases p with _|⟨c,v⟩
 ·rfl
 ·cases c<;>rfl
theorem rxe_float{o:Oper}(hm:Wcn o=false)(st:St):rxe T Γ A o st Whm=(fval T o st).bind λv=>Whm v st.objs st.nx:=by
 obtain⟨dst,op,type,pos,after,guard⟩:=o
 cases op with
 |alloc t=>cases hm
 |box t x=>cases hm
 |buildSlice t n parts=>cases hm
 |makeSlice t n c=>cases hm
 |store t a x=>cases hm
 |slice t x lo hi m=>cases hm
 |build t parts=>
  simp only[rxe,fval]
  generalize look T t=q
  generalize Wgq st parts.toList=z
  rcases q with _|⟨ty,agg,shape⟩
  ·rfl
  rcases z with _|ps
  ·cases agg<;>cases shape<;>rfl
  cases agg with
  |false=>rfl
  |true=>
   cases shape with
   |struct fs=>
    show(if _ then _ else _)=Option.bind (if _ then _ else _) _
    rw[Wcw]
    cases fillC T fs ps (Wkh ty)<;>rfl
   |_=>rfl
 |call c=>
  simp only[rxe,fval]
  split
  ·rename_i hc _ _
   simp only[Wcn,hc]at hm
   cases hm
  ·rename_i hc _ _
   simp only[Wcn,hc]at hm
   cases hm
  ·exact pureF _ _ _
  ·rename_i hc
   simp only[Wcn,hc]at hm
   cases hm
  ·rename_i h0 h1 h2 h3
   have:Wbd T st (.call c)=none:=by
    simp only[Wbd]
    split
    ·rename_i hc _ _;first|exact absurd hc (h0 _)|exact absurd hc (h1 _)|exact absurd hc (h2 _)|exact absurd hc (h3 _)
    ·rename_i hc _ _;first|exact absurd hc (h0 _)|exact absurd hc (h1 _)|exact absurd hc (h2 _)|exact absurd hc (h3 _)
    ·rename_i hc _ _;first|exact absurd hc (h0 _)|exact absurd hc (h1 _)|exact absurd hc (h2 _)|exact absurd hc (h3 _)
    ·rfl
   rw[this];rfl
 |_=>first|rfl|exact pureF (Wbd T st _) st.objs st.nx
theorem fval_congr{o:Oper}(hm:Wcn o=false){st st2:St}(he:∀x∈Wbf o.op,ev st2 x=ev st x)(hl:memOp o.op=true→∀x∈Wbf o.op,∀v,ev st x=some v→Wkg st st2 v):fval T o st2=fval T o st:=by
 have hpure:(∀t x l h m,o.op≠ .slice t x l h m)→Wbd T st2 o.op=Wbd T st o.op:=λhm=>Wrl o.op hm he hl
 obtain⟨dst,op,type,pos,after,guard⟩:=o
 simp only at he hpure
 cases op with
 |slice t x lo hi m=>cases hm
 |build t parts=>simp only[fval,Wgt (st:=st) parts.toList λp hp=>he p.2 (by simp only[Wbf];exact Xu.2 ⟨p,hp,rfl⟩)]
 |_=>simp only[fval,hpure (λ_ _ _ _ _ h=>by cases h)]
theorem Wgy(objs:Objs):∀l,∃pre,kill objs l=pre++objs
 | []=>⟨[],rfl⟩
 |i::l=>by
  obtain⟨pre,h⟩:=Wgy objs l
  exact⟨(i,.dead)::pre,by simp only[kill,h];rfl⟩
theorem Wba:∀(ps:List PTy) (o:ODen ps) (ids:List Kp) (objs:Objs) (nx:Nat),∃pre,(Wbe ps o ids objs nx).1=pre++objs
 | [],_,_,objs,_=>⟨[],rfl⟩
 | .v _ _::ps,o,ids,objs,nx=>Wba ps o ids objs nx
 | .rp _::ps,o,ids,objs,nx=>Wba ps o ids objs nx
 | .box t::ps,o,ids,objs,nx=>by
  cases ids with
  |nil=>exact⟨[],rfl⟩
  |cons k ids=>
   obtain⟨pre,h⟩:=Wba ps o.2 ids ((k.id,Wrb (look objs k.id) k.off (unfold t o.1 nx).1)::((unfold t o.1 nx).2.1++objs)) (unfold t o.1 nx).2.2
   exact⟨pre++(k.id,Wrb (look objs k.id) k.off (unfold t o.1 nx).1)::(unfold t o.1 nx).2.1,by simp only[Wbe,h];simp⟩
 | .vj _::ps,o,ids,objs,nx=>Wba ps o ids objs nx
 | .boxal t _::ps,o,ids,objs,nx=>by
  cases ids with
  |nil=>exact⟨[],rfl⟩
  |cons k ids=>
   obtain⟨pre,h⟩:=Wba ps o.2 ids ((k.id,Wrb (look objs k.id) k.off (unfold t o.1 nx).1)::((unfold t o.1 nx).2.1++objs)) (unfold t o.1 nx).2.2
   exact⟨pre++(k.id,Wrb (look objs k.id) k.off (unfold t o.1 nx).1)::(unfold t o.1 nx).2.1,by simp only[Wbe,h];simp⟩
 | .mut e::ps,o,ids,objs,nx=>by
  cases ids with
  |nil=>exact⟨[],rfl⟩
  |cons k ids=>
   obtain⟨pre,h⟩:=Wba ps o.2 ids ((k.id,.arr e o.1)::objs) nx
   exact⟨pre++ [(k.id,.arr e o.1)],by simp only[Wbe,h];simp⟩
 | .clos _ _::ps,o,ids,objs,nx=>Wba ps o ids objs nx
 | .kv t _::ps,o,ids,objs,nx=>by
  obtain⟨pre,h⟩:=Wba ps o.2 (ids.drop t.owns) (Wgj t o.1 ((ids.take t.owns).map Kp.id)++objs) nx
  exact⟨pre++Wgj t o.1 ((ids.take t.owns).map Kp.id),by simp only[Wbe,h];simp⟩
theorem Wbk:∀(rs:List PTy) (d:RDen rs) (objs:Objs) (nx:Nat),∃pre,(Wdz rs d objs nx).2.1=pre++objs
 | [],_,objs,_=>⟨[],rfl⟩
 | .v t agg::rs,d,objs,nx=>by
  obtain⟨pre,h⟩:=Wbk rs d.2 ((unfold t d.1 nx).2.1++objs) (unfold t d.1 nx).2.2
  exact⟨pre++(unfold t d.1 nx).2.1,by simp only[Wdz,h];simp⟩
 | .box t::rs,d,objs,nx=>by
  obtain⟨pre,h⟩:=Wbk rs d.2 ((nx,.box (unfold t d.1 (nx+1)).1)::((unfold t d.1 (nx+1)).2.1++objs)) (unfold t d.1 (nx+1)).2.2
  exact⟨pre++(nx,.box (unfold t d.1 (nx+1)).1)::(unfold t d.1 (nx+1)).2.1,by simp only[Wdz,h];simp⟩
 | .mut _::rs,d,objs,nx=>Wbk rs d objs nx
 | .clos _ _::rs,d,objs,nx=>Wbk rs d objs nx
 | .kv _ _::rs,d,objs,nx=>Wbk rs d objs nx
 | .rp _::rs,d,objs,nx=>Wbk rs d objs nx
 | .vj t::rs,d,objs,nx=>by
  obtain⟨pre,h⟩:=Wbk rs d.2 ((unfold t d.1 nx).2.1++objs) (unfold t d.1 nx).2.2
  exact⟨pre++(unfold t d.1 nx).2.1,by simp only[Wdz,h];simp⟩
 | .boxal _ _::rs,d,objs,nx=>Wbk rs d objs nx
def Suf(objs:Objs)(r:Option Out):Prop:=∀x objs' nx,r=some (x,objs',nx)→∃pre,objs'=pre++objs
theorem Suf.none{objs:Objs}:Suf objs none:=λ_ _ _ h=>by cases h
theorem Suf.out{objs pre:Objs}{x:AVal}{nx:Nat}:Suf objs (Whm x (pre++objs) nx):=λ_ _ _ h=>by
 injection h with h
 have:=congrArg (λp:Out=>p.2.1) h
 exact⟨pre,this.symm⟩
theorem Suf.ite{objs:Objs}{c:Prop}[Decidable c]{r:Option Out}(h:Suf objs r):Suf objs (if c then r else Option.none):=by split;exact h;exact .none
theorem Suf.bif{objs:Objs}{c:Bool}{r:Option Out}(h:Suf objs r):Suf objs (bif c then r else Option.none):=by cases c;exact .none;exact h
theorem Wuy{st st':St}{t:TypeId}{x v:AVal}(h:Whk T st t x v=some st'):∃pre,st'.objs=pre++st.objs:=by
 unfold Whk at h
 split at h
 ·split at h
  ·split at h
   ·injection h with h;subst h;exact⟨[_],rfl⟩
   ·cases h
  ·cases h
 ·split at h
  ·split at h
   ·split at h
    ·injection h with h;subst h;exact⟨[_],rfl⟩
    ·cases h
   ·split at h
    ·split at h
     ·rename_i m _
      split at h
      ·injection h with h;subst h
       obtain⟨pre,hp⟩:=Wgy st.objs m
       exact⟨_::pre,by simp only[hp];rfl⟩
      ·cases h
     ·cases h
    ·cases h
  ·cases h
 ·cases h
theorem pureSuf(p:Option (Bool×AVal))(objs:Objs)(nx:Nat):Suf objs (match p with|some (c,v)=>bif c then Whm v objs nx else none|none=>none):=by
 rcases p with _|⟨c,v⟩
 ·exact .none
 ·exact Suf.bif (Suf.out (pre:=[]))
theorem Wiz(sg:Sig)(st:St)(xs:List AVal):Suf st.objs (Wmr sg st xs Whm):=by
 unfold Wmr
 split
 ·rename_i A _
  split
  ·intro x objs' nx h
   rw[sg.law]at h
   cases hr:sg.run A.d with
   |none=>rw[hr]at h;cases h
   |some out=>
    rw[hr]at h
    simp only[Xc]at h
    injection h with h
    have h2:=congrArg (λp:Out=>p.2.1) h
    simp only at h2
    obtain⟨p1,e1⟩:=Wgy st.objs A.moved
    obtain⟨p2,e2⟩:=Wba sg.ps out.1 A.kept (kill st.objs A.moved) st.nx
    obtain⟨p3,e3⟩:=Wbk sg.rs out.2 (Wbe sg.ps out.1 A.kept (kill st.objs A.moved) st.nx).1 (Wbe sg.ps out.1 A.kept (kill st.objs A.moved) st.nx).2
    refine⟨p3++(p2++p1),?_⟩
    rw[←h2,e3,e2,e1];simp
  ·exact .none
 ·exact .none
theorem Suf.over{objs:Objs}{l:List Nat}{r:Option Out}(h:Suf (kill objs l) r):Suf objs r:=λx objs' nx hr=>by
 obtain⟨p1,e1⟩:=h x objs' nx hr
 obtain⟨p2,e2⟩:=Wgy objs l
 exact⟨p1++p2,by rw[e1,e2];simp⟩
theorem callF_suffix(sg:Sig)(st:St)(xs:List AVal):Suf st.objs (callF sg st xs Whm):=by
 unfold callF
 cases sg.fresh with
 |true=>exact Wiz _ _ _
 |false=>
  simp only[cond_false]
  split
  ·split
   ·exact Wiz _ _ _
   ·exact Suf.over (Wiz sg {env:=st.env,objs:=kill st.objs _,nx:=st.nx} _)
  ·exact .none
theorem sufKill{objs:Objs}{x:AVal}{p:Nat×Ob}{l:List Nat}{nx:Nat}:Suf objs (Whm x (p::kill objs l) nx):=by
 obtain⟨pre,h⟩:=Wgy objs l
 rw[h];exact Suf.out (pre:=p::pre)
theorem Wvh(st:St)(te:Ty)(s x:AVal):Suf st.objs (Wkx st te s x Whm):=by
 unfold Wkx
 split
 ·split
  ·split
   ·split
    ·exact Suf.bif sufKill
    ·exact .none
   ·exact .none
  ·exact .none
 ·split
  ·split
   ·split
    ·exact Suf.ite (Suf.bif sufKill)
    ·exact .none
   ·exact .none
  ·exact .none
 ·exact .none
theorem Wvd(st:St)(e:Ty)(ps:List (Nat×AVal)):Suf st.objs (Wic st e ps Whm):=by
 unfold Wic
 split
 ·refine Suf.ite ?_
  split
  ·split
   ·exact Suf.ite (Suf.over sufKill)
   ·exact .none
  ·exact .none
 ·exact .none
theorem viewOp_suffix(st:St)(te:Ty)(id:Nat)(l h:Option Int):Suf st.objs (Wmt st te id l h Whm):=by
 unfold Wmt
 split
 ·exact Suf.ite (Suf.bif (Suf.out (pre:=[])))
 ·exact .none
theorem rxe_suffix(o:Oper)(st:St):Suf st.objs (rxe T Γ A o st Whm):=by
 unfold rxe
 split
 ·split
  ·exact Suf.ite (Suf.out (pre:=[_]))
  ·exact Suf.ite (Suf.out (pre:=[_]))
  ·exact .none
 ·split
  ·exact Suf.out (pre:=[_])
  ·exact .none
 ·split
  ·split
   ·split
    ·exact Suf.out (pre:=[])
    ·exact .none
   ·exact .none
  ·exact .none
 ·split
  ·split
   ·split
    ·exact Suf.ite (Wvd _ _ _)
    ·split
     ·exact Suf.ite (Suf.over (Suf.out (pre:=[_])))
     ·exact .none
   ·exact .none
  ·exact .none
 ·split
  ·split
   ·split
    ·exact Suf.ite (Suf.bif (Suf.out (pre:=[_])))
    ·exact Suf.ite (Suf.bif (Suf.out (pre:=[_])))
   ·exact .none
  ·exact .none
 ·split
  ·split
   ·rename_i st' hs
    split
    ·obtain⟨pre,h⟩:=Wuy hs
     rw[h];exact Suf.over Suf.out
    ·exact .none
   ·exact .none
  ·exact .none
 ·split
  ·split
   ·split
    ·split
     ·exact Suf.ite (viewOp_suffix _ _ _ _ _)
     ·split
      ·exact Suf.ite (Suf.bif (Suf.out (pre:=[_,_])))
      ·exact Suf.ite (Suf.bif (Suf.out (pre:=[_,_,_])))
      ·exact .none
    ·exact .none
   ·exact .none
  ·exact pureSuf _ _ _
 ·split
  ·split
   ·unfold Wix
    split
    ·split
     ·split
      ·cases flatS st _ _ with
       |false=>exact Wvh _ _ _ _
       |true=>
       simp only[Xaa,cond_false]
       split
       ·exact Suf.bif (Suf.out (pre:=[_]))
       ·split
        ·split
         ·exact Suf.bif (Suf.out (pre:=[_,_]))
         ·exact .none
        ·exact .none
       ·split
        ·split
         ·exact Suf.bif (Suf.out (pre:=[_,_]))
         ·exact .none
        ·exact .none
       ·exact .none
      ·exact .none
     ·exact .none
    ·exact .none
   ·exact .none
  ·split
   ·split
    ·split
     ·exact Suf.ite (Suf.out (pre:=[_]))
     ·exact .none
    ·exact .none
   ·exact .none
  ·exact pureSuf _ _ _
  ·split
   ·split
    ·exact callF_suffix _ _ _
    ·exact .none
   ·exact .none
  ·exact .none
 ·exact pureSuf _ _ _
end
end Go.Sx
namespace Go.Sx
set_option linter.unusedVariables false
set_option linter.unusedSimpArgs false
theorem mem_addN{x y:Nat}{l:List Nat}:y∈addN x l↔y=x∨y∈l:=by
 unfold addN
 cases h:Wez x l with
 |true=>
  have:=(Wcm x l).1 h
  simp only[cond_true]
  exact⟨.inr,λh=>h.elim (λe=>e▸this) id⟩
 |false=>simp
theorem Wwg{y:Nat}:∀(m l:List Nat),y∈addAll m l↔y∈m∨y∈l
 | [],l=>by simp[addAll]
 |x::m,l=>by
  rw[addAll,Wwg m,mem_addN,Xo]
  constructor
  ·rintro(h|h|h)
   ·exact .inl (.inr h)
   ·exact .inl (.inl h)
   ·exact .inr h
  ·rintro((h|h)|h)
   ·exact .inr (.inl h)
   ·exact .inl h
   ·exact .inr (.inr h)
theorem Wtj{acc:List (List Nat)}{y:Nat}:∀(ds l:List Nat),y∈joinB acc ds l↔(∃j∈ds,y=j∨y∈acc.getD j [])∨y∈l
 | [],l=>by simp[joinB]
 |j::ds,l=>by
  rw[joinB,Wtj ds,Wwg,mem_addN]
  constructor
  ·rintro(⟨k,hk,h⟩|h|h|h)
   ·exact .inl ⟨k,Xe _ hk,h⟩
   ·exact .inl ⟨j,Xi ..,.inr h⟩
   ·exact .inl ⟨j,Xi ..,.inl h⟩
   ·exact .inr h
  ·rintro(⟨k,hk,h⟩|h)
   ·rcases Xo.1 hk with rfl|hk
    ·exact .inr (h.elim (λh=>.inr (.inl h)) .inl)
    ·exact .inl ⟨k,hk,h⟩
   ·exact .inr (.inr (.inr h))
def Closed(ops:Array Oper)(S:Nat→Prop):Prop:=∀i o,ops[i]?=some o→S i→∀d∈deps o,S d
theorem Wvz{ops:Array Oper}{S:Nat→Prop}(hS:Closed ops S):∀(l:List Oper) (acc:List (List Nat)),(∀(k:Nat) (o:Oper),l[k]?=some o→ops[acc.length+k]?=some o)→
  (∀i,S i→∀j∈acc.getD i [],S j)→∀i,S i→∀j∈(Wki l acc).getD i [],S j
 | [],acc,_,h=>h
 |o::l,acc,hl,h=>by
  refine Wvz hS l _ (λk o' hk=>?_) (λi hi j hj=>?_)
  ·have:=hl (k+1) o' (by simpa using hk)
   rw[Xz]
   have e:acc.length+(k+1)=acc.length+ [joinB acc (deps o) []].length+k:=by simp;omega
   rw[←e];exact this
  ·rw[Xbc,Xaz]at hj
   split at hj
   ·exact h i hi j (by rw[Xbc];exact hj)
   ·rename_i hlt
    by_cases he:i=acc.length
    ·subst he
     simp only[Xcy,Xdq,Xdy]at hj
     rcases(Wtj _ _).1 hj with⟨k,hk,hjk⟩|hj
     ·have hSk:=hS _ o (hl 0 o (by simp)) hi k hk
      rcases hjk with rfl|hjk
      ·exact hSk
      ·exact h k hSk j hjk
     ·cases hj
    ·have:[joinB acc (deps o) []][i-acc.length]?=none:=Xbj (by simp;omega)
     rw[this]at hj;cases hj
theorem isBef_spec{ops:Array Oper}{S:Nat→Prop}(hS:Closed ops S){i j:Nat}(h:Whn (Wki ops.toList []) j i=true)(hi:S i):S j:=
 Wvz hS ops.toList [] (λk o hk=>by simpa using hk) (λi _ j hj=>by simp at hj) i hi j ((Wcm _ _).1 h)
theorem Wwe{ops:Array Oper}:∀(l:List Oper) (n:Nat),backw l n=true→∀(k:Nat) (o:Oper),l[k]?=some o→∀d∈deps o,d<n+k
 | [],_,_,k,o,hk=>by simp at hk
 |o'::l,n,h,k,o,hk=>by
  simp only[backw,Xh,Xae]at h
  cases k with
  |zero=>
   simp at hk;subst hk
   intro e he
   have:=h.1 e he
   rw[Xgv]at this
   omega
  |succ k=>
   have:=Wwe (ops:=ops) l (n+1) h.2 k o (by simpa using hk)
   intro e he
   have:=this e he
   omega
structure Order(ops:Array Oper)(l:List Nat):Prop where
 nodup:l.Nodup
 all:∀i,i<ops.size↔i∈l
 dep:∀p i s,l=p++i::s→∀o,ops[i]?=some o→∀d∈deps o,d∈p
theorem Order.closed{ops:Array Oper}{l:List Nat}(h:Order ops l){p s:List Nat}(e:l=p++s):Closed ops (· ∈p):=λi o ho hi d hd=>by
 obtain⟨a,b,rfl⟩:=Xee hi
 have:=h.dep a i (b++s) (by rw[e];simp) o ho d hd
 simp[this]
theorem Order.bef{ops:Array Oper}{l:List Nat}(h:Order ops l){p s:List Nat}{i j:Nat}(e:l=p++s)(hb:Whn (Wki ops.toList []) j i=true)(hi:i∈p):j∈p:=
 isBef_spec (h.closed e) hb hi
theorem Order.bef'{ops:Array Oper}{l:List Nat}(h:Order ops l){p s:List Nat}{i j:Nat}(e:l=p++i::s)(hb:Whn (Wki ops.toList []) j i=true)(hne:j≠i):j∈p:=by
 have:=h.bef (p:=p++ [i]) (s:=s) (by rw[e];simp) hb (by simp)
 rcases Xn.1 this with h|h
 ·exact h
 ·simp at h;exact absurd h hne
def unl(ops:Array Oper)(listed:Array Bool):List Nat:=(Xdf ops.size).filter λi=>!listed.getD i true
theorem Wnc{ops:Array Oper}{listed:Array Bool}{i:Nat}:i∈unl ops listed↔i<ops.size∧listed.getD i true=false:=by
 unfold unl;rw[Xas,Xeg];simp
theorem Woo{α:Type}{p q:α→Bool}:∀(l:List α),(∀x∈l,q x=true→p x=true)→(∃x∈l,p x=true∧q x=false)→(l.filter q).length<(l.filter p).length
 | [],_,⟨x,hx,_⟩=>by cases hx
 |x::l,h,⟨y,hy,hp,hq⟩=>by
  have hle:∀(l:List α),(∀x∈l,q x=true→p x=true)→(l.filter q).length≤(l.filter p).length:=by
   intro l
   induction l with
   |nil=>intro _;simp
   |cons x l ih=>
    intro h
    have:=ih λx hx=>h x (Xe _ hx)
    have hx:=h x (Xi ..)
    rw[Xbh,Xbh]
    cases hqx:q x with
    |true=>rw[hx hqx];simpa using this
    |false=>cases p x<;>simp<;>omega
  rw[Xbh,Xbh]
  rcases Xo.1 hy with rfl|hy
  ·rw[hp,hq]
   have:=hle l λx hx=>h x (Xe _ hx)
   simp;omega
  ·have:=Woo l (λx hx=>h x (Xe _ hx)) ⟨y,hy,hp,hq⟩
   have hx:=h x (Xi ..)
   cases hqx:q x with
   |true=>rw[hx hqx];simpa using this
   |false=>cases p x<;>simp<;>omega
theorem set_getD{listed:Array Bool}{i j:Nat}:(listed.setIfInBounds i true).getD j true=(if i=j then true else listed.getD j true):=by
 simp only[Xcm,Xfb]
 split
 ·split<;>rfl
 ·rfl
theorem set_getDf{listed:Array Bool}{i j:Nat}(hi:i<listed.size):(listed.setIfInBounds i true).getD j false=(if i=j then true else listed.getD j false):=by
 simp only[Xcm,Xfb]
 split
 ·simp[hi]
 ·rfl
theorem getD_tf{listed:Array Bool}{i:Nat}(hi:i<listed.size):listed.getD i true=listed.getD i false:=by
 simp[hi]
theorem mem_deps{o:Oper}{e:Edge}(he:e∈o.after)(hb:Region.binds .any e=true):e.on∈deps o:=
 Xu.2 ⟨e,Xas.2 ⟨by simpa using he,hb⟩,rfl⟩
theorem go_order{ops:Array Oper}(hb:∀(k:Nat) (o:Oper),ops[k]?=some o→∀d∈deps o,d<k):∀(fuel t:Nat) (listed:Array Bool),listed.size=ops.size→(unl ops listed).length≤fuel→
  (Region.linearise.go .any ops fuel t listed []).Nodup∧
  (∀i,i∈Region.linearise.go .any ops fuel t listed []↔i∈unl ops listed)∧
  (∀p i s,Region.linearise.go .any ops fuel t listed []=p++i::s→∀o,ops[i]?=some o→∀e∈o.after,Region.binds .any e=true→listed.getD e.on false=true∨e.on∈p)
 |0,t,listed,hs,hlen=>by
  have:unl ops listed= []:=Xy (by omega)
  simp only[Region.linearise.go,List.reverse_nil,this]
  exact⟨by simp,by simp,λp i s h=>by simp at h⟩
 |fuel+1,t,listed,hs,hlen=>by
  have hgo:Region.linearise.go .any ops (fuel+1) t listed []=match(Region.ready .any ops listed)[t%(Region.ready .any ops listed).length]? with
   |some i=>Region.linearise.go .any ops fuel (t/(Region.ready .any ops listed).length) (listed.setIfInBounds i true) [i]
   |none=>[]:=rfl
  rw[hgo]
  cases hi:(Region.ready .any ops listed)[t%(Region.ready .any ops listed).length]? with
  |none=>
   have hnil:Region.ready .any ops listed= []:=by
    cases hr:Region.ready .any ops listed with
    |nil=>rfl
    |cons x xs=>
     rw[hr]at hi
     have hlt:t%(x::xs).length<(x::xs).length:=Nat.mod_lt _ (by simp)
     simp at hi
     simp at hlt
     omega
   have hu:unl ops listed= []:=by
    have key:∀n i,i≤n→i∉unl ops listed:=by
     intro n
     induction n with
     |zero=>
      intro i hin hm
      obtain⟨h1,h2⟩:=Wnc.1 hm
      have:i∈Region.ready .any ops listed:=by
       rw[mem_ready]
       refine⟨h2,ops[i],Xdg h1,λe he hbd=>?_⟩
       have:=hb i _ (Xdg h1) e.on (mem_deps he hbd)
       omega
      rw[hnil]at this;cases this
     |succ n ih=>
      intro i hin hm
      obtain⟨h1,h2⟩:=Wnc.1 hm
      have:i∈Region.ready .any ops listed:=by
       rw[mem_ready]
       refine⟨h2,ops[i],Xdg h1,λe he hbd=>?_⟩
       have hlt:=hb i _ (Xdg h1) e.on (mem_deps he hbd)
       have hno:=ih e.on (by omega)
       have h3:e.on<ops.size:=by omega
       cases h4:listed.getD e.on true with
       |false=>exact absurd (Wnc.2 ⟨h3,h4⟩) hno
       |true=>rw[←getD_tf (by omega)];exact h4
      rw[hnil]at this;cases this
    exact Xex.2 λi=>key i i (Xm _)
   rw[hu]
   exact⟨Xdi,λ_=>Iff.rfl,λp i s h=>by simp at h⟩
  |some i=>
   have hir:=Xav hi
   obtain⟨h1,o,ho,h3⟩:=mem_ready.1 hir
   have hisz:i<ops.size:=(Xde.1 ho).1
   have hiu:i∈unl ops listed:=Wnc.2 ⟨hisz,h1⟩
   simp only[]
   rw[linearise_go_acc,List.reverse_singleton,List.singleton_append]
   have hlen2:(unl ops (listed.setIfInBounds i true)).length≤fuel:=by
    have:(unl ops (listed.setIfInBounds i true)).length<(unl ops listed).length:=by
     refine Woo _ (λx _ hx=>?_) ⟨i,Xeg.2 hisz,by simpa using h1,by rw[set_getD];simp⟩
     rw[set_getD]at hx
     split at hx
     ·simp at hx
     ·exact hx
    omega
   obtain⟨g1,g2,g3⟩:=go_order hb fuel (t/(Region.ready .any ops listed).length) (listed.setIfInBounds i true) (by simp[hs]) hlen2
   have hmem:∀j,j∈unl ops (listed.setIfInBounds i true)↔j∈unl ops listed∧j≠i:=λj=>by
    rw[Wnc,Wnc,set_getD]
    constructor
    ·rintro⟨q1,q2⟩
     split at q2
     ·cases q2
     ·rename_i hne;exact⟨⟨q1,q2⟩,λe=>hne e.symm⟩
    ·rintro⟨⟨q1,q2⟩,hne⟩
     exact⟨q1,by rw[if_neg (λe=>hne e.symm)];exact q2⟩
   refine⟨Xai.2 ⟨λhm=>?_,g1⟩,λj=>?_,λp j s e o' ho' ed hed hbd=>?_⟩
   ·exact((hmem i).1 ((g2 i).1 hm)).2 rfl
   ·rw[Xo,g2,hmem]
    constructor
    ·rintro(rfl|h)
     ·exact hiu
     ·exact h.1
    ·intro h
     by_cases he:j=i
     ·exact .inl he
     ·exact .inr ⟨h,he⟩
   ·cases p with
    |nil=>
     simp only[Xcd,List.cons.injEq]at e
     obtain⟨rfl,_⟩:=e
     rw[ho]at ho';injection ho' with ho';subst ho'
     exact .inl (h3 ed hed hbd)
    |cons x p=>
     simp only[Xbf,List.cons.injEq]at e
     obtain⟨rfl,e⟩:=e
     rcases g3 p j s e o' ho' ed hed hbd with h|h
     ·rw[set_getDf (by omega)]at h
      split at h
      ·rename_i he;exact .inr (by rw[he];simp)
      ·exact .inl h
     ·exact .inr (Xe _ h)
theorem Wtq{ops:Array Oper}{t:Nat}(hb:∀(k:Nat) (o:Oper),ops[k]?=some o→∀d∈deps o,d<k):Order ops (Region.linearise .any ops t):=by
 have hu:∀i,i∈unl ops (Xec ops.size false)↔i<ops.size:=λi=>by
  rw[Wnc]
  constructor
  ·exactλh=>h.1
  ·exactλh=>⟨h,by simp[h]⟩
 obtain⟨h1,h2,h3⟩:=go_order hb ops.size t (Xec ops.size false) (by simp) (by
  have:=Xeq (λi=>!(Xec ops.size false).getD i true) (Xdf ops.size)
  rw[Xfi]at this
  exact this)
 refine⟨h1,λi=>by unfold Region.linearise;rw[h2,hu],λp i s e o ho d hd=>?_⟩
 unfold deps at hd
 obtain⟨ed,hed,rfl⟩:=Xu.1 hd
 obtain⟨hed,hbd⟩:=Xas.1 hed
 rcases h3 p i s e o ho ed (by simpa using hed) hbd with h|h
 ·exfalso
  rw[Xcm,Array.getElem?_replicate]at h
  split at h<;>simp at h
 ·exact h
theorem Wvc{ops:Array Oper}{t:Nat}(hb:∀(k:Nat) (o:Oper),ops[k]?=some o→∀d∈deps o,d<k):Order ops (Region.schedule true ops t):=by
 unfold Region.schedule
 rw[if_pos (by simp)]
 exact Wtq hb
end Go.Sx
namespace Go.Sx
set_option linter.unusedVariables false
set_option linter.unusedSimpArgs false
def operOk(n:Nat)(kept:List Nat)(o:Oper):Bool:=match o.dst with
 |some d=>Nat.blt d n&& !Wez d kept
 |none=>true
def Wio(n:Nat)(kept:List Nat):Code→Bool
 | .region _ ops _=>ops.toList.all (operOk n kept)
 | .seq a b=>Wio n kept a&&Wio n kept b
 | .cond _ x y=>Wio n kept x&&Wio n kept y
 | .block _ c=>Wio n kept c
 | .loop c=>Wio n kept c
 |_=>true
theorem operOk_spec{nt:Slots}{n:Nat}{kept:List Nat}(hn:nt.n=n)(hk:∀p∈nt.kept,p.1∈kept){o:Oper}(h:operOk n kept o=true):∀d,o.dst=some d→nt.Ok d:=λd hd=>by
 unfold operOk at h
 rw[hd]at h
 simp only[Xh,Xao]at h
 refine⟨by have h1:=h.1;rw[Xgv]at h1;rw[hn];exact h1,λp hp e=>?_⟩
 have:=hk p hp
 rw[e]at this
 rw[(Wcm d kept).2 this]at h
 exact absurd h.2 (by simp)
def Ex.to:Ex→Exit
 | .normal=>.normal
 | .exit id=>.exit id
 | .ret=>.ret
section
variable{w0:World}{F:CS}{nt:Slots}{G0:GH}{P:Program}{T:Tab}{Γ:Ctx}{A:List (Nat×An)}{R:Type}{r:R}
def Goes(w0:World)(F:CS)(nt:Slots)(G0:GH)(k:St→Option R)(r:R)(K:Act→World→Prop):Prop:=
 ∀st a w G ν,Rel w0 F nt G0 G ν st a w→k st=some r→K a w
theorem yielded_rel{G:GH}{ν:Nat→Nu}{st:St}{a:Act}{w:World}(hr:Rel w0 F nt G0 G ν st a w){ops:Array Oper}{j:Nat}{t:Tmp}(ht:(ops[j]?).bind (·.dst)=some t){b:Bool}(hb:(look st.env t).bind asB=some b):
  a.tmps[t]?=some (.bool b)∧yielded ops a.tmps j=some b:=by
 cases hl:look st.env t with
 |none=>simp[hl]at hb
 |some x=>
  simp only[hl,Xc]at hb
  obtain⟨v,hv,hx⟩:=hr.env t x hl
  have:=asB_rel x v b hx hb
  subst this
  refine⟨hv,?_⟩
  unfold yielded
  rw[ht]
  simp[hv]
theorem rxg_wp(hT:Wbj P T)(hΓ:Wmk P Γ){ops:Array Oper}{o:Oper}(hd:∀d,o.dst=some d→nt.Ok d){k:St→Option R}{K:Act→World→Prop}{Q:Exit→Act→World→Prop}(hK:Goes w0 F nt G0 k r K)
  {st:St} {a:Act} {w:World} {G:GH} {ν:Nat→Nu} (hr:Rel w0 F nt G0 G ν st a w) (h:rxg T Γ A ops o st k=some r):
  if Region.wanted o (yielded ops a.tmps)then o.wp P a w K Q else K (a.put o.dst undef) w:=by
 unfold rxg at h
 have hundef:∀st',Rel w0 F nt G0 G ν st' a w→Rel w0 F nt G0 G ν (st'.put o.dst (.tup [])) (a.put o.dst undef) w:=λst' hr'=>
  hr'.put hd ⟨[],rfl,rfl,λj x v hj=>by simp at hj⟩
 have hone:∀b:Bool,AValRel G ν st.nx (one .bool b) (.bool b):=λb=>Wag (t:=.bool) (d:=b) (v:=.bool b) rfl
 split at h
 ·rename_i hg
  simp only[Region.wanted,hg,if_true]
  exact rx1_wp hT hΓ hr hd h (λst' a' w' G' ν' hr' hk=>hK _ _ _ _ _ hr' hk)
 ·rename_i j want hg
  split at h
  ·rename_i t ht
   split at h
   ·rename_i hl
    obtain⟨v,hv,hx⟩:=hr.env t _ hl
    have hv2:v=undef:=by
     obtain⟨vs,h1,h2,_⟩:=hx
     rw[h1,Xy h2];rfl
    subst hv2
    have hy:yielded ops a.tmps j=none:=by
     unfold yielded
     rw[ht]
     simp only[Xc,hv]
     rfl
    simp only[Region.wanted,hg,hy]
    rw[if_neg (by simp)]
    exact hK _ _ _ _ _ (hundef _ hr) h
   ·rename_i x _ hl
    split at h
    ·rename_i b hb
     obtain⟨hv,hy⟩:=yielded_rel hr ht (b:=b) (by rw[hl];exact hb)
     simp only[Region.wanted,hg,hy]
     have hre:=hr.rebind hv (hone b)
     cases b with
     |true=>
      simp only[cond_true]at h
      cases want with
      |true=>
       simp only[if_true]at h
       simp only[beq_self_eq_true,if_true]
       exact rx1_wp hT hΓ hre hd h (λst' a' w' G' ν' hr' hk=>hK _ _ _ _ _ hr' hk)
      |false=>
       simp only[Xbm,if_false]at h
       rw[if_neg (by simp)]
       exact hK _ _ _ _ _ (hundef _ hre) h
     |false=>
      simp only[cond_false]at h
      cases want with
      |true=>
       simp only[if_true]at h
       rw[if_neg (by simp)]
       exact hK _ _ _ _ _ (hundef _ hre) h
      |false=>
       simp only[Xbm,if_false]at h
       simp only[beq_self_eq_true,if_true]
       exact rx1_wp hT hΓ hre hd h (λst' a' w' G' ν' hr' hk=>hK _ _ _ _ _ hr' hk)
    ·cases h
   ·cases h
  ·cases h
theorem rxs_wp(hT:Wbj P T)(hΓ:Wmk P Γ){ops:Array Oper}:∀(l:List Oper),(∀o∈l,∀d,o.dst=some d→nt.Ok d)→∀{k:St→Option R} {Q:Exit→Act→World→Prop},Goes w0 F nt G0 k r (Q .normal)→
  Goes w0 F nt G0 (λst=>rxs T Γ A ops l st k) r (wpList P ops Q l)
 | [],_,k,Q,hK=>λst a w G ν hr h=>hK st a w G ν hr h
 |o::l,hd,k,Q,hK=>λst a w G ν hr h=>by
  have ih:=rxs_wp (ops:=ops) hT hΓ l (λo ho=>hd o (Xe _ ho)) hK
  have h:rxg T Γ A ops o st (λst'=>match opG A o st' with
   |some (c,st'')=>bif c then rxs T Γ A ops l st'' k else none
   |none=>none)=some r:=h
  have ih2:Goes w0 F nt G0 (λst'=>match opG A o st' with
   |some (c,st'')=>bif c then rxs T Γ A ops l st'' k else none
   |none=>none) r (wpList P ops Q l):=λst1 a1 w1 G1 ν1 hr1 h1=>by
   have h1:(match opG A o st1 with
    |some (c,st'')=>bif c then rxs T Γ A ops l st'' k else none
    |none=>none)=some r:=h1
   split at h1
   ·rename_i c st2 hg
    obtain⟨rfl,h1⟩:=Wcj h1
    have:∃G' ν',Rel w0 F nt G0 G' ν' st2 a1 w1:=by
     unfold opG at hg
     split at hg
     ·split at hg
      ·injection hg with hg;injection hg with _ hg;subst hg;exact⟨G1,ν1,hr1⟩
      ·exact ghost_rel hr1 hg
     ·injection hg with hg;injection hg with _ hg;subst hg;exact⟨G1,ν1,hr1⟩
     ·injection hg with hg;injection hg with _ hg;subst hg;exact⟨G1,ν1,hr1⟩
     ·injection hg with hg;injection hg with _ hg;subst hg;exact⟨G1,ν1,hr1⟩
     ·injection hg with hg;injection hg with _ hg;subst hg;exact⟨G1,ν1,hr1⟩
    obtain⟨G2,ν2,hr2⟩:=this
    exact ih st2 a1 w1 G2 ν2 hr2 h1
   ·cases h1
  have:=rxg_wp hT hΓ (hd o (Xi ..)) (Q:=Q) ih2 hr h
  unfold wpList
  split
  ·rename_i hw;rw[if_pos hw]at this;exact .inl this
  ·rename_i hw;rw[if_neg hw]at this;exact this
end
end Go.Sx
namespace Go.Sx
set_option linter.unusedVariables false
set_option linter.unusedSimpArgs false
section
variable{T:Tab}{Γ:Ctx}{A:List (Nat×An)}{ops:Array Oper}
theorem rx1_bind{R:Type}(o:Oper)(st:St)(k:St→Option R):rx1 T Γ A o st k=(rx1 T Γ A o st some).bind k:=by
 unfold rx1
 rw[Wpm,Wpm o st (λx objs nx=>some _),Xgr]
 rfl
theorem rxg_bind{R:Type}(o:Oper)(st:St)(k:St→Option R):rxg T Γ A ops o st k=(rxg T Γ A ops o st some).bind k:=by
 unfold rxg
 cases o.guard with
 |none=>exact rx1_bind o st k
 |some g=>
  obtain⟨j,want⟩:=g
  simp only
  cases(ops[j]?).bind (·.dst)with
  |none=>rfl
  |some t=>
   simp only
   cases look st.env t with
   |none=>rfl
   |some x=>
    have main:(match asB x with
      |some b=>bif b
       then(if want then rx1 T Γ A o (st.put (some t) (one .bool true)) k else k ((st.put (some t) (one .bool true)).put o.dst (.tup [])))
       else(if want then k ((st.put (some t) (one .bool false)).put o.dst (.tup []))else rx1 T Γ A o (st.put (some t) (one .bool false)) k)
      |none=>none)=(match asB x with
      |some b=>bif b
       then(if want then rx1 T Γ A o (st.put (some t) (one .bool true)) some else some ((st.put (some t) (one .bool true)).put o.dst (.tup [])))
       else(if want then some ((st.put (some t) (one .bool false)).put o.dst (.tup []))else rx1 T Γ A o (st.put (some t) (one .bool false)) some)
      |none=>none).bind k:=by
     cases asB x with
     |none=>rfl
     |some b=>
      cases b<;>cases want
      ·exact rx1_bind _ _ _
      ·rfl
      ·rfl
      ·exact rx1_bind _ _ _
    cases x with
    |s y=>exact main
    |tup l=>
     cases l with
     |nil=>rfl
     |cons y l=>exact main
theorem rxg_some{R:Type}{o:Oper}{st:St}{k:St→Option R}{r:R}(h:rxg T Γ A ops o st k=some r):∃st',rxg T Γ A ops o st some=some st'∧k st'=some r:=by
 rw[rxg_bind]at h
 exact Xbv.1 h
structure Eff(o:Oper)(v:AVal)(pre:Objs)(nx':Nat)(st st':St):Prop where
 env:∀t,look st'.env t=if o.dst=some t then some v else look st.env t
 objs:st'.objs=pre++st.objs
 nx:st'.nx=nx'
theorem Whs(st:St)(dst:Option Tmp)(x:AVal)(t:Nat):look (st.put dst x).env t=if dst=some t then some x else look st.env t:=by
 cases dst with
 |none=>simp[St.put]
 |some d=>
  simp only[St.put]
  rw[Wt]
  by_cases h:d=t
  ·subst h;simp
  ·rw[if_neg h,if_neg (by simpa using h)]
theorem Wme{st st2:St}{x:Operand}(h:∀t∈slotOf x,look st2.env t=look st.env t):ev st2 x=ev st x:=by
 cases x with
 |tmp t=>exact h t (by simp[slotOf])
 |_=>rfl
theorem Wqe{st:St}{x:Operand}{v:AVal}:∀(l:List Operand),x∈l→ev st x=some v→∀id∈Wda v,id∈Wli st l
 | [],h,_,_,_=>by cases h
 |y::l,h,hv,id,hid=>by
  simp only[Wli]
  rcases Xo.1 h with rfl|h
  ·rw[hv];exact Xk _ hid
  ·split
   ·exact Xg _ (Wqe l h hv id hid)
   ·exact Wqe l h hv id hid
theorem Wod{st st2:St}:∀(l:List Operand),(∀x∈l,ev st2 x=ev st x)→Wli st2 l=Wli st l
 | [],_=>rfl
 |x::l,h=>by simp only[Wli,h x (Xi ..),Wod l λy hy=>h y (Xe _ hy)]
theorem rx1_eff{o:Oper}{st st' st2:St}(h:rx1 T Γ A o st some=some st')(he:∀x∈Wbf o.op,ev st2 x=ev st x)
  (hm:Wcn o=true→st2.objs=st.objs∧st2.nx=st.nx) (hf:Wcn o=false→∀id∈Wgz o st,look st2.objs id=look st.objs id):
  ∃v pre nx',Eff o v pre nx' st st'∧(Wcn o=false→pre= []∧nx'=st.nx)∧
   ∃st2',rx1 T Γ A o st2 some=some st2'∧(Wcn o=true→Eff o v pre nx' st2 st2')∧(Wcn o=false→Eff o v [] st2.nx st2 st2'):=by
 unfold rx1 at*
 rw[Wpm]at h
 obtain⟨⟨v,objs',nx'⟩,h1,h2⟩:=Xbv.1 h
 injection h2 with h2;subst h2
 cases hmu:Wcn o with
 |true=>
  obtain⟨e1,e2⟩:=hm hmu
  obtain⟨pre,rfl⟩:=rxe_suffix o st v objs' nx' h1
  refine⟨v,pre,nx',⟨λt=>Whs _ _ _ _,by cases o.dst<;>rfl,by cases o.dst<;>rfl⟩,by simp,?_⟩
  have h3:rxe T Γ A o st2 Whm=some (v,pre++st.objs,nx'):=by
   obtain⟨env2,objs2,nx2⟩:=st2
   simp only at e1 e2
   subst e1 e2
   rw[rxe_congr o (env:=env2) (st:=st) Whm he]
   exact h1
  refine⟨_,?_,λ_=>⟨λt=>Whs (⟨st2.env,pre++st.objs,nx'⟩) o.dst v t,?_,?_⟩,by simp⟩
  ·rw[Wpm,h3];rfl
  ·rw[e1];cases o.dst<;>rfl
  ·cases o.dst<;>rfl
 |false=>
  rw[rxe_float hmu]at h1
  obtain⟨u,h3,h4⟩:=Xbv.1 h1
  injection h4 with h4
  have e1:u=v:=congrArg (λp:Out=>p.1) h4
  have e2:st.objs=objs':=congrArg (λp:Out=>p.2.1) h4
  have e3:st.nx=nx':=congrArg (λp:Out=>p.2.2) h4
  subst e1 e2 e3
  refine⟨u,[],st.nx,⟨λt=>Whs _ _ _ _,by cases o.dst<;>rfl,by cases o.dst<;>rfl⟩,by simp,?_⟩
  have h5:fval T o st2=some u:=by
   rw[←h3]
   refine fval_congr hmu he λhmo x hx v hv id hid=>hf hmu id ?_
   unfold Wgz
   rw[hmo]
   exact Wqe _ hx hv id hid
  refine⟨_,?_,by simp,λ_=>⟨λt=>Whs (⟨st2.env,st2.objs,st2.nx⟩) o.dst u t,?_,?_⟩⟩
  ·rw[Wpm,rxe_float hmu,h5];rfl
  ·cases o.dst<;>rfl
  ·cases o.dst<;>rfl
theorem asB_one{x:AVal}{b:Bool}(h:asB x=some b):x=one .bool b:=by
 unfold asB at h
 split at h
 ·injection h with h;subst h;rfl
 ·cases h
theorem Wje{st:St}{t:Nat}{x:AVal}(h:look st.env t=some x)(t':Nat):look (st.put (some t) x).env t'=look st.env t':=by
 rw[Whs]
 split
 ·rename_i e;injection e with e;subst e;exact h.symm
 ·rfl
theorem Wjf(st:St)(d:Option Tmp)(x:AVal):(st.put d x).objs=st.objs:=by cases d<;>rfl
theorem Wtl(st:St)(d:Option Tmp)(x:AVal):(st.put d x).nx=st.nx:=by cases d<;>rfl
theorem Woc{o:Oper}{st st2:St}(h:∀x∈Wbf o.op,ev st2 x=ev st x):Wgz o st2=Wgz o st:=by
 unfold Wgz;rw[Wod _ h]
theorem rxg_eff{o:Oper}{st st' st2:St}(h:rxg T Γ A ops o st some=some st')(he:∀t∈Wib ops o,look st2.env t=look st.env t)
  (hm:Wcn o=true→st2.objs=st.objs∧st2.nx=st.nx) (hf:Wcn o=false→∀id∈Wgz o st,look st2.objs id=look st.objs id):
  ∃v pre nx',Eff o v pre nx' st st'∧(Wcn o=false→pre= []∧nx'=st.nx)∧
   ∃st2',rxg T Γ A ops o st2 some=some st2'∧(Wcn o=true→Eff o v pre nx' st2 st2')∧(Wcn o=false→Eff o v [] st2.nx st2 st2'):=by
 have hev:∀x∈Wbf o.op,ev st2 x=ev st x:=λx hx=>Wme λt ht=>he t (by
  unfold Wib
  exact Xk _ (Xfr.2 ⟨x,hx,ht⟩))
 unfold rxg at h⊢
 cases hg:o.guard with
 |none=>
  rw[hg]at h
  exact rx1_eff h hev hm hf
 |some g=>
  obtain⟨j,want⟩:=g
  rw[hg]at h
  simp only at h⊢
  cases ht:(ops[j]?).bind (·.dst)with
  |none=>rw[ht]at h;cases h
  |some t=>
   rw[ht]at h
   simp only at h⊢
   have hts:look st2.env t=look st.env t:=he t (by
    unfold Wib
    refine Xg _ ?_
    rw[hg];simp only;rw[ht];simp)
   rw[hts]
   cases hx:look st.env t with
   |none=>rw[hx]at h;cases h
   |some x=>
    rw[hx]at h
    have skip:∀(s s2:St) (s':St),some (s.put o.dst (.tup []))=some s'→(∀t,look s.env t=look st.env t)→s.objs=st.objs→s.nx=st.nx→(∀t,look s2.env t=look st2.env t)→s2.objs=st2.objs→s2.nx=st2.nx→
      ∃v pre nx',Eff o v pre nx' st s'∧(Wcn o=false→pre= []∧nx'=st.nx)∧
       ∃st2',some (s2.put o.dst (.tup []))=some st2'∧(Wcn o=true→Eff o v pre nx' st2 st2')∧(Wcn o=false→Eff o v [] st2.nx st2 st2'):=by
     intro s s2 s' hs a1 a2 a3 b1 b2 b3
     injection hs with hs;subst hs
     refine⟨.tup [],[],st.nx,⟨λt=>?_,by rw[Wjf,a2];rfl,by rw[Wtl,a3]⟩,λ_=>⟨rfl,rfl⟩,_,rfl,λhmu=>⟨λt=>?_,by rw[Wjf,b2];rfl,by rw[Wtl,b3];exact(hm hmu).2⟩,λ_=>⟨λt=>?_,by rw[Wjf,b2];rfl,by rw[Wtl,b3]⟩⟩
     ·rw[Whs,a1]
     ·rw[Whs,b1]
     ·rw[Whs,b1]
    have doit:∀b:Bool,x=one .bool b→rx1 T Γ A o (st.put (some t) (one .bool b)) some=some st'→
      ∃v pre nx',Eff o v pre nx' st st'∧(Wcn o=false→pre= []∧nx'=st.nx)∧
       ∃st2',rx1 T Γ A o (st2.put (some t) (one .bool b)) some=some st2'∧(Wcn o=true→Eff o v pre nx' st2 st2')∧(Wcn o=false→Eff o v [] st2.nx st2 st2'):=by
     intro b hb h1
     subst hb
     have l1:=Wje hx
     have l2:=Wje (st:=st2) (t:=t) (x:=one .bool b) (by rw[hts];exact hx)
     have hev1:∀x∈Wbf o.op,ev (st.put (some t) (one .bool b)) x=ev st x:=λx hx=>Wme λt' _=>l1 t'
     have hev2:∀x∈Wbf o.op,ev (st2.put (some t) (one .bool b)) x=ev st2 x:=λx hx=>Wme λt' _=>l2 t'
     obtain⟨v,pre,nx',e1,e2,st2',e3,e4,e5⟩:=rx1_eff (st2:=st2.put (some t) (one .bool b)) h1 (λx hx=>by rw[hev2 x hx,hev1 x hx,hev x hx])
      (λhmu=>hm hmu) (λhfl id hid=>hf hfl id (by rw[←Woc hev1];exact hid))
     refine⟨v,pre,nx',⟨λt'=>by rw[e1.env,l1],e1.objs,e1.nx⟩,e2,st2',e3,λhmu=>⟨λt'=>by rw[(e4 hmu).env,l2],(e4 hmu).objs,(e4 hmu).nx⟩,λhmu=>⟨λt'=>by rw[(e5 hmu).env,l2],(e5 hmu).objs,(e5 hmu).nx⟩⟩
    have main:(match asB x with
      |some b=>bif b
       then(if want then rx1 T Γ A o (st.put (some t) (one .bool true)) some else some ((st.put (some t) (one .bool true)).put o.dst (.tup [])))
       else(if want then some ((st.put (some t) (one .bool false)).put o.dst (.tup []))else rx1 T Γ A o (st.put (some t) (one .bool false)) some)
      |none=>none)=some st'→∃v pre nx',Eff o v pre nx' st st'∧(Wcn o=false→pre= []∧nx'=st.nx)∧
       ∃st2',(match asB x with
      |some b=>bif b
       then(if want then rx1 T Γ A o (st2.put (some t) (one .bool true)) some else some ((st2.put (some t) (one .bool true)).put o.dst (.tup [])))
       else(if want then some ((st2.put (some t) (one .bool false)).put o.dst (.tup []))else rx1 T Γ A o (st2.put (some t) (one .bool false)) some)
      |none=>none)=some st2'∧(Wcn o=true→Eff o v pre nx' st2 st2')∧(Wcn o=false→Eff o v [] st2.nx st2 st2'):=by
     intro h
     cases hb:asB x with
     |none=>rw[hb]at h;cases h
     |some b=>
      rw[hb]at h
      have hone:=asB_one hb
      have r1:∀b',b'=b→∀t',look (st.put (some t) (one .bool b')).env t'=look st.env t':=λb' e=>by subst e;exact Wje (by rw[hx,hone])
      have r2:∀b',b'=b→∀t',look (st2.put (some t) (one .bool b')).env t'=look st2.env t':=λb' e=>by subst e;exact Wje (by rw[hts,hx,hone])
      cases b<;>cases want
      ·exact doit false hone h
      ·exact skip _ _ _ h (r1 _ rfl) (Wjf _ _ _) (Wtl _ _ _) (r2 _ rfl) (Wjf _ _ _) (Wtl _ _ _)
      ·exact skip _ _ _ h (r1 _ rfl) (Wjf _ _ _) (Wtl _ _ _) (r2 _ rfl) (Wjf _ _ _) (Wtl _ _ _)
      ·exact doit true hone h
    cases x with
    |s y=>exact main h
    |tup l=>
     cases l with
     |nil=>exact skip st st2 st' h (λ_=>rfl) rfl rfl (λ_=>rfl) rfl rfl
     |cons y l=>exact main h
end
end Go.Sx
namespace Go.Sx
set_option linter.unusedVariables false
set_option linter.unusedSimpArgs false
structure Rc where
 i:Nat
 v:AVal
 pre:Objs
 nx:Nat
 ids:List Nat
 mv:Bool
section
variable{T:Tab}{Γ:Ctx}{A:List (Nat×An)}{ops:Array Oper}
structure StepTo(T:Tab)(Γ:Ctx)(A:List (Nat×An))(ops:Array Oper)(ρ:Rc)(o:Oper)(st st':St):Prop where
 at_:ops[ρ.i]?=some o
 isM:ρ.mv=Wcn o
 lk:ρ.mv=false→ρ.ids=Wgz o st
 run:rxg T Γ A ops o st some=some st'
 env:∀t,look st'.env t=if o.dst=some t then some ρ.v else look st.env t
 objs:st'.objs=if ρ.mv then ρ.pre++st.objs else st.objs
 nx:st'.nx=if ρ.mv then ρ.nx else st.nx
def Runs(T:Tab)(Γ:Ctx)(A:List (Nat×An))(ops:Array Oper):List Rc→St→St→Prop
 | [],st,st'=>st=st'
 |ρ::l,st,st'=>∃o st1,StepTo T Γ A ops ρ o st st1∧Runs T Γ A ops l st1 st'
theorem step_of{i:Nat}{o:Oper}{st st':St}(hi:ops[i]?=some o)(h:rxg T Γ A ops o st some=some st'):
  ∃ρ:Rc,ρ.i=i∧StepTo T Γ A ops ρ o st st':=by
 obtain⟨v,pre,nx',e1,e2,_⟩:=rxg_eff (st2:=st) h (λ_ _=>rfl) (λ_=>⟨rfl,rfl⟩) (λ_ _ _=>rfl)
 refine⟨⟨i,v,pre,nx',Wgz o st,Wcn o⟩,rfl,hi,rfl,λ_=>rfl,h,e1.env,?_,?_⟩
 ·simp only
  cases hm:Wcn o with
  |true=>simpa using e1.objs
  |false=>rw[e1.objs,(e2 hm).1];rfl
 ·simp only
  cases hm:Wcn o with
  |true=>simpa using e1.nx
  |false=>rw[e1.nx,(e2 hm).2];rfl
theorem StepTo.move{ρ:Rc}{o:Oper}{st st' st2:St}(h:StepTo T Γ A ops ρ o st st')(he:∀t∈Wib ops o,look st2.env t=look st.env t)
  (hm:ρ.mv=true→st2.objs=st.objs∧st2.nx=st.nx) (hf:ρ.mv=false→∀id∈ρ.ids,look st2.objs id=look st.objs id):
  ∃st2',StepTo T Γ A ops ρ o st2 st2':=by
 obtain⟨v,pre,nx',e1,e2,st2',e3,e4,e5⟩:=rxg_eff (st2:=st2) h.run he (λhmu=>hm (by rw[h.isM];exact hmu)) (λhfl id hid=>hf (by rw[h.isM];exact hfl) id (by rw[h.lk (by rw[h.isM];exact hfl)];exact hid))
 have hv:∀t,o.dst=some t→v=ρ.v:=λt ht=>by
  have a:=e1.env t
  have b:=h.env t
  rw[if_pos ht]at a b
  rw[a]at b
  injection b
 have hli:ρ.mv=false→Wgz o st2=Wgz o st:=λ_=>Woc λx hx=>Wme λt ht=>he t (by
  unfold Wib
  exact Xk _ (Xfr.2 ⟨x,hx,ht⟩))
 cases hmu:Wcn o with
 |true=>
  have hρ:ρ.mv=true:=by rw[h.isM];exact hmu
  have e4:=e4 hmu
  obtain⟨q1,q2⟩:=hm hρ
  refine⟨st2',h.at_,h.isM,λhf=>(by rw[hρ]at hf;cases hf),e3,λt=>?_,?_,?_⟩
  ·rw[e4.env];split
   ·rename_i ht;rw[hv t ht]
   ·rfl
  ·rw[e4.objs,hρ]
   simp only[if_true]
   have a:=e1.objs
   have b:=h.objs
   rw[hρ]at b
   simp only[if_true]at b
   rw[a]at b
   rw[List.append_cancel_right b]
  ·rw[e4.nx,hρ]
   simp only[if_true]
   have a:=e1.nx
   have b:=h.nx
   rw[hρ]at b
   simp only[if_true]at b
   rw[←a,b]
 |false=>
  have hρ:ρ.mv=false:=by rw[h.isM];exact hmu
  have e5:=e5 hmu
  refine⟨st2',h.at_,h.isM,λhf=>by rw[hli hρ];exact h.lk hρ,e3,λt=>?_,?_,?_⟩
  ·rw[e5.env];split
   ·rename_i ht;rw[hv t ht]
   ·rfl
  ·rw[e5.objs,hρ];rfl
  ·rw[e5.nx,hρ];rfl
def Apart(ids:List Nat)(pre:Objs):Prop:=∀id∈ids,id∉Wrt pre
def Fits(B:List (List Nat))(x y:Rc):Prop:=
 (x.mv=false→y.mv=true→Whn B x.i y.i=true∨Apart x.ids y.pre)∧
 (x.mv=true→y.mv=false→Whn B x.i y.i=true∨Apart y.ids x.pre)
theorem Wkq{α:Type}:∀(l:List Nat) (k:List Nat→α),Wpn l k=k l
 | [],_=>rfl
 |x::l,k=>by rw[Wpn,Wkq l]
theorem forceB_eq{α:Type}:∀(l:List (List Nat)) (k:List (List Nat)→α),forceB l k=k l
 | [],_=>rfl
 |x::l,k=>by rw[forceB,Wkq,forceB_eq l]
theorem Wwt{ids:List Nat}{pre:Objs}(h:Wql ids (Wrt pre)=true):Apart ids pre:=λid hid hk=>by
 unfold Wql at h
 have:=Xae.1 h id hid
 rw[(Wcm id _).2 hk]at this
 cases this
theorem newIds_pre(pre objs:Objs):newIds objs (pre++objs)=Wrt pre:=by
 unfold newIds
 simp
theorem rdx_runs{B:List (List Nat)}{R:Type}{k:St→Option R}{r:R}:∀(l:List Nat) (fl mu:List (Nat×List Nat)) (st:St),rdx T Γ A ops B l fl mu st k=some r→
  ∃(rs:List Rc) (st':St),rs.map (·.i)=l∧Runs T Γ A ops rs st st'∧k st'=some r∧rs.Pairwise (Fits B)∧
   (∀p∈fl,∀ρ∈rs,ρ.mv=true→Whn B p.1 ρ.i=true∨Apart p.2 ρ.pre)∧
   (∀p∈mu,∀ρ∈rs,ρ.mv=false→Whn B p.1 ρ.i=true∨Wql ρ.ids p.2=true)
 | [],fl,mu,st,h=>⟨[],st,rfl,rfl,h,List.Pairwise.nil,by simp,by simp⟩
 |i::l,fl,mu,st,h=>by
  simp only[rdx]at h
  cases ho:ops[i]? with
  |none=>rw[ho]at h;cases h
  |some o=>
   rw[ho]at h
   simp only at h
   cases hm:Wcn o with
   |true=>
    simp only[hm,cond_true]at h
    obtain⟨st1,h1,h2⟩:=rxg_some h
    rw[Wkq]at h2
    obtain⟨hchk,h2⟩:=Wcj h2
    obtain⟨ρ,hi,hs⟩:=step_of ho h1
    have hρ:ρ.mv=true:=by rw[hs.isM];exact hm
    have hob:=hs.objs
    rw[hρ]at hob
    simp only[if_true]at hob
    rw[hob,newIds_pre]at hchk h2
    obtain⟨rs,st',q1,q2,q3,q4,q5,q6⟩:=rdx_runs l _ _ _ h2
    refine⟨ρ::rs,st',by simp[hi,q1],⟨o,st1,hs,q2⟩,q3,List.Pairwise.cons (λy hy=>⟨λhf=>(by rw[hρ]at hf;cases hf),λ_ hyf=>?_⟩) q4,λp hp y hy hym=>?_,λp hp y hy hyf=>?_⟩
    ·rcases q6 (i,Wrt ρ.pre) (Xi ..) y hy hyf with h|h
     ·rw[hi];exact .inl h
     ·exact .inr (Wwt h)
    ·rcases Xo.1 hy with rfl|hy
     ·have:=Xae.1 hchk p hp
      rw[Xbw]at this
      rw[hi]
      exact this.imp id Wwt
     ·exact q5 p hp y hy hym
    ·rcases Xo.1 hy with rfl|hy
     ·rw[hρ]at hyf;cases hyf
     ·exact q6 p (Xe _ hp) y hy hyf
   |false=>
    simp only[hm,cond_false]at h
    rw[Wkq]at h
    obtain⟨hchk,h⟩:=Wcj h
    obtain⟨st1,h1,h2⟩:=rxg_some h
    obtain⟨ρ,hi,hs⟩:=step_of ho h1
    have hρ:ρ.mv=false:=by rw[hs.isM];exact hm
    have hids:=hs.lk hρ
    rw[←hids]at hchk h2
    obtain⟨rs,st',q1,q2,q3,q4,q5,q6⟩:=rdx_runs l _ _ _ h2
    refine⟨ρ::rs,st',by simp[hi,q1],⟨o,st1,hs,q2⟩,q3,List.Pairwise.cons (λy hy=>⟨λ_ hym=>?_,λhf=>(by rw[hρ]at hf;cases hf)⟩) q4,λp hp y hy hym=>?_,λp hp y hy hyf=>?_⟩
    ·rw[hi];exact q5 (i,ρ.ids) (Xi ..) y hy hym
    ·rcases Xo.1 hy with rfl|hy
     ·rw[hρ]at hym;cases hym
     ·exact q5 p (Xe _ hp) y hy hym
    ·rcases Xo.1 hy with rfl|hy
     ·have:=Xae.1 hchk p hp
      rw[Xbw]at this
      rw[hi]
      exact this
     ·exact q6 p hp y hy hyf
def Wkf(ops:Array Oper)(i:Nat):Option Tmp:=(ops[i]?).bind (·.dst)
def valA(ops:Array Oper):List Rc→(Nat→Option AVal)→Nat→Option AVal
 | [],e,t=>e t
 |ρ::a,e,t=>valA ops a (λt'=>if Wkf ops ρ.i=some t' then some ρ.v else e t') t
def memA:List Rc→Objs×Nat→Objs×Nat
 | [],m=>m
 |ρ::a,m=>memA a (if ρ.mv then(ρ.pre++m.1,ρ.nx)else m)
theorem Wqo:∀(rs:List Rc) (st st':St),Runs T Γ A ops rs st st'→(∀t,look st'.env t=valA ops rs (look st.env) t)∧(st'.objs,st'.nx)=memA rs (st.objs,st.nx)
 | [],st,st',h=>by cases h;exact⟨λ_=>rfl,rfl⟩
 |ρ::rs,st,st',⟨o,st1,hs,h⟩=>by
  obtain⟨h1,h2⟩:=Wqo rs st1 st' h
  have e:(look st1.env)= λt'=>if Wkf ops ρ.i=some t' then some ρ.v else look st.env t':=funext λt=>by
   rw[hs.env];unfold Wkf;rw[hs.at_];rfl
  refine⟨λt=>by rw[h1,e];rfl,?_⟩
  rw[h2,memA]
  congr 1
  rw[hs.objs,hs.nx]
  split<;>rfl
theorem Wwv:∀(a:List Rc) (ρ:Rc) (b:List Rc) (st st':St),Runs T Γ A ops (a++ρ::b) st st'→∃o st1 st2,Runs T Γ A ops a st st1∧StepTo T Γ A ops ρ o st1 st2
 | [],ρ,b,st,st',⟨o,st1,hs,h⟩=>⟨o,st,st1,rfl,hs⟩
 |x::a,ρ,b,st,st',⟨o,st1,hs,h⟩=>by
  obtain⟨o',s1,s2,h1,h2⟩:=Wwv a ρ b st1 st' h
  exact⟨o',s1,s2,⟨o,st1,hs,h1⟩,h2⟩
theorem Wel:∀(a:List Rc) (m:Objs×Nat),memA a m=memA (a.filter (·.mv)) m
 | [],_=>rfl
 |ρ::a,m=>by
  rw[memA,Wel a,Xbh]
  cases h:ρ.mv with
  |true=>simp only[if_true,memA,h]
  |false=>simp only[Xbm,if_false]
theorem Wjn:∀(a b:List Rc) (m:Objs×Nat),memA (a++b) m=memA b (memA a m)
 | [],_,_=>rfl
 |ρ::a,b,m=>by rw[Xbf,memA,Wjn a b];rfl
theorem Wty{pre objs:Objs}{id:Nat}(h:id∉Wrt pre):look (pre++objs) id=look objs id:=by
 induction pre with
 |nil=>rfl
 |cons p pre ih=>
  obtain⟨j,ob⟩:=p
  simp only[Wrt,Xaj,Xo,not_or]at h
  rw[Xbf,Wt,if_neg (λe=>h.1 e.symm)]
  exact ih h.2
theorem Wul{id:Nat}:∀(a:List Rc) (m:Objs×Nat),(∀ρ∈a,ρ.mv=true→id∉Wrt ρ.pre)→look (memA a m).1 id=look m.1 id
 | [],_,_=>rfl
 |ρ::a,m,h=>by
  rw[memA,Wul a _ λx hx=>h x (Xe _ hx)]
  split
  ·rename_i hm;exact Wty (h ρ (Xi ..) hm)
  ·rfl
def OneEach(ops:Array Oper):Prop:=∀i j t,Wkf ops i=some t→Wkf ops j=some t→i=j
theorem Woe{t:Nat}:∀(a:List Rc) (e:Nat→Option AVal),(∀ρ∈a,Wkf ops ρ.i≠some t)→valA ops a e t=e t
 | [],_,_=>rfl
 |ρ::a,e,h=>by
  rw[valA,Woe a _ λx hx=>h x (Xe _ hx),if_neg (h ρ (Xi ..))]
theorem Wtz{t:Nat}(h1:OneEach ops):∀(a:List Rc) (e:Nat→Option AVal),(a.map (·.i)).Nodup→∀ρ∈a,Wkf ops ρ.i=some t→valA ops a e t=some ρ.v
 | [],_,_,_,h,_=>by cases h
 |x::a,e,hn,ρ,hρ,ht=>by
  rw[Xaj,Xai]at hn
  rw[valA]
  rcases Xo.1 hρ with rfl|hρ
  ·rw[Woe a _ λy hy hyt=>hn.1 (by rw[h1 _ _ _ ht hyt];exact Xu.2 ⟨y,hy,rfl⟩),if_pos ht]
  ·exact Wtz h1 a _ hn.2 ρ hρ ht
theorem Wxj{t:Nat}(h1:OneEach ops){a b:List Rc}{e:Nat→Option AVal}(ha:(a.map (·.i)).Nodup)(hb:(b.map (·.i)).Nodup)
  (h:∀ρ,Wkf ops ρ.i=some t→(ρ∈a↔ρ∈b)):valA ops a e t=valA ops b e t:=by
 by_cases hx:∃ρ∈a,Wkf ops ρ.i=some t
 ·obtain⟨ρ,hρ,ht⟩:=hx
  rw[Wtz h1 a e ha ρ hρ ht,Wtz h1 b e hb ρ ((h ρ ht).1 hρ) ht]
 ·rw[Woe a e λρ hρ ht=>hx ⟨ρ,hρ,ht⟩,Woe b e λρ hρ ht=>hx ⟨ρ,(h ρ ht).2 hρ,ht⟩]
end
end Go.Sx
namespace Go.Sx
set_option linter.unusedVariables false
set_option linter.unusedSimpArgs false
theorem Wnq{α:Type}{x:α}:∀{a c b d:List α},(a++x::b).Nodup→a++x::b=c++x::d→a=c
 | [],[],_,_,_,_=>rfl
 | [],y::c,b,d,hn,h=>by
  simp only[Xcd,Xbf,List.cons.injEq]at h
  obtain⟨rfl,h⟩:=h
  rw[Xcd,Xai]at hn
  exact absurd (by rw[h];simp) hn.1
 |y::a,[],b,d,hn,h=>by
  simp only[Xcd,Xbf,List.cons.injEq]at h
  obtain⟨rfl,h⟩:=h
  rw[Xbf,Xai]at hn
  exact absurd (by simp) hn.1
 |y::a,z::c,b,d,hn,h=>by
  simp only[Xbf,List.cons.injEq]at h
  obtain⟨rfl,h⟩:=h
  rw[Xbf,Xai]at hn
  rw[Wnq hn.2 h]
def Wci(ops:Array Oper)(i:Nat):Bool:=match ops[i]? with
 |some o=>Wcn o
 |none=>false
theorem Rel.same{w0:World}{F:CS}{nt:Slots}{G0 G:GH}{ν:Nat→Nu}{st st2:St}{a:Act}{w:World}(h:Rel w0 F nt G0 G ν st a w)
  (he:∀t,look st2.env t=look st.env t) (ho:st2.objs=st.objs) (hn:st2.nx=st.nx):Rel w0 F nt G0 G ν st2 a w:=
 ⟨h.defers,h.ntm,h.par,λi x hx=>by rw[he]at hx;rw[hn];exact h.env i x hx,by rw[ho,hn];exact h.h,h.gx⟩
theorem rec_of:∀(rs:List Rc),(rs.map (·.i)).Nodup→∃rec:Nat→Rc,∀ρ∈rs,rec ρ.i=ρ
 | [],_=>⟨λi=>⟨i,.tup [],[],0,[],false⟩,by simp⟩
 |ρ::rs,h=>by
  rw[Xaj,Xai]at h
  obtain⟨rec,hr⟩:=rec_of rs h.2
  refine⟨λi=>if i=ρ.i then ρ else rec i,λx hx=>?_⟩
  rcases Xo.1 hx with rfl|hx
  ·simp
  ·simp only
   rw[if_neg (λe=>h.1 (by rw[←e];exact Xu.2 ⟨x,hx,rfl⟩))]
   exact hr x hx
section
variable{w0:World}{F:CS}{nt:Slots}{G0:GH}{P:Program}{T:Tab}{Γ:Ctx}{A:List (Nat×An)}{ops:Array Oper}{Q:Exit→Act→World→Prop}
theorem any_order(hT:Wbj P T)(hΓ:Wmk P Γ)(hd:∀o∈ops,∀d,o.dst=some d→nt.Ok d){l L:List Nat}(hl:Order ops l)(hL:Order ops L)(hone:OneEach ops)
  (hsl:∀(i:Nat) (o:Oper) (t:Nat),ops[i]?=some o→t∈Wib ops o→∀j,Wkf ops j=some t→j=i∨Whn (Wki ops.toList []) j i=true∨Whn (Wki ops.toList []) i j=true)
  (hσ:l.filter (Wci ops)=L.filter (Wci ops)) {rs:List Rc} {st st':St} (hmap:rs.map (·.i)=L) (hruns:Runs T Γ A ops rs st st') (hfit:rs.Pairwise (Fits (Wki ops.toList [])))
  (hK:∀a w G ν,Rel w0 F nt G0 G ν st' a w→Q .normal a w) {a:Act} {w:World} {G:GH} {ν:Nat→Nu} (hr:Rel w0 F nt G0 G ν st a w):wpOps P ops Q l a w:=by
 have hnd:(rs.map (·.i)).Nodup:=by rw[hmap];exact hL.nodup
 obtain⟨rec,hrec⟩:=rec_of rs hnd
 have hLr:L.map rec=rs:=by
  rw[←hmap,Xef]
  conv=>rhs;rw[←List.map_id rs]
  exact Xez λρ hρ=>hrec ρ hρ
 have hmemL:∀i,i∈l↔i∈L:=λi=>by rw[←hl.all,hL.all]
 have hri:∀i∈L,(rec i).i=i∧rec i∈rs:=λi hi=>by
  rw[←hmap]at hi
  obtain⟨ρ,hρ,rfl⟩:=Xu.1 hi
  rw[hrec ρ hρ];exact⟨rfl,hρ⟩
 have hstep:∀i∈L,∃pre post o st1 st2,L=pre++i::post∧Runs T Γ A ops (pre.map rec) st st1∧StepTo T Γ A ops (rec i) o st1 st2:=λi hi=>by
  obtain⟨pre,post,e⟩:=Xee hi
  have:rs=pre.map rec++rec i::post.map rec:=by rw[←hLr,e];simp
  rw[this]at hruns
  obtain⟨o,st1,st2,h1,h2⟩:=Wwv _ _ _ _ _ hruns
  exact⟨pre,post,o,st1,st2,e,h1,h2⟩
 have hmv:∀i∈L,(rec i).mv=Wci ops i:=λi hi=>by
  obtain⟨pre,post,o,st1,st2,e,h1,h2⟩:=hstep i hi
  rw[h2.isM]
  have:=h2.at_
  rw[(hri i hi).1]at this
  unfold Wci;rw[this]
 have hfilt:∀(p:List Nat),(∀i∈p,i∈L)→(p.map rec).filter (·.mv)=(p.filter (Wci ops)).map rec:=by
  intro p
  induction p with
  |nil=>intro _;rfl
  |cons i p ih=>
   intro h
   have:=ih λj hj=>h j (Xe _ hj)
   rw[Xaj,Xbh,Xbh,hmv i (h i (Xi ..))]
   split
   ·rw[Xaj,this]
   ·exact this
 have hidx:∀(p:List Nat),(∀i∈p,i∈L)→(p.map rec).map (·.i)=p:=by
  intro p h
  rw[Xef]
  conv=>rhs;rw[←List.map_id p]
  exact Xez λi hi=>(hri i (h i hi)).1
 have hin:∀(p:List Nat),(∀i∈p,i∈L)→∀i∈L,(rec i∈p.map rec↔i∈p):=λp hp i hi=>by
  constructor
  ·intro h
   obtain⟨j,hj,e⟩:=Xu.1 h
   have:j=i:=by rw[←(hri j (hp j hj)).1,←(hri i hi).1,e]
   rw[←this];exact hj
  ·exactλh=>Xu.2 ⟨i,h,rfl⟩
 have hpair:∀i j pre post,L=pre++i::post→j∈post→Fits (Wki ops.toList []) (rec i) (rec j):=λi j pre post e hj=>by
  have:rs=pre.map rec++rec i::post.map rec:=by rw[←hLr,e];simp
  rw[this,List.pairwise_append]at hfit
  exact(List.pairwise_cons.1 hfit.2.1).1 _ (Xu.2 ⟨j,hj,rfl⟩)
 suffices main:∀(s p:List Nat),l=p++s→∀(st2:St) (a:Act) (w:World) (G:GH) (ν:Nat→Nu),Rel w0 F nt G0 G ν st2 a w→
   (∀t,look st2.env t=valA ops (p.map rec) (look st.env) t)→(st2.objs,st2.nx)=memA (p.map rec) (st.objs,st.nx)→wpOps P ops Q s a w from
  main l [] rfl st a w G ν hr (λ_=>rfl) rfl
 intro s
 induction s with
 |nil=>
  intro p e st2 a w G ν hr2 he hm
  rw[Xcw]at e;subst e
  obtain⟨f1,f2⟩:=Wqo _ _ _ hruns
  have hlL:∀i∈l,i∈L:=λi hi=>(hmemL i).1 hi
  refine hK a w G ν (hr2.same (λt=>?_) ?_ ?_)
  ·rw[f1,he]
   refine Wxj hone hnd (by rw[hidx l hlL];exact hl.nodup) λρ _=>?_
   constructor
   ·intro hρ
    have hi:ρ.i∈L:=by rw[←hmap];exact Xu.2 ⟨ρ,hρ,rfl⟩
    rw[←hrec ρ hρ]
    exact(hin l hlL ρ.i hi).2 ((hmemL _).2 hi)
   ·intro hρ
    obtain⟨i,hi,rfl⟩:=Xu.1 hρ
    exact(hri i (hlL i hi)).2
  ·have:memA (l.map rec) (st.objs,st.nx)=memA rs (st.objs,st.nx):=by
    rw[Wel,hfilt l hlL,hσ,←hfilt L (λi hi=>hi),←Wel,hLr]
   rw[this,←f2]at hm
   exact(congrArg (·.1) hm).symm
  ·have:memA (l.map rec) (st.objs,st.nx)=memA rs (st.objs,st.nx):=by
    rw[Wel,hfilt l hlL,hσ,←hfilt L (λi hi=>hi),←Wel,hLr]
   rw[this,←f2]at hm
   exact(congrArg (·.2) hm).symm
 |cons i s ih=>
  intro p e st2 a w G ν hr2 he hm
  have hiL:i∈L:=(hmemL i).1 (by rw[e];simp)
  have hpL:∀j∈p,j∈L:=λj hj=>(hmemL j).1 (by rw[e];exact Xk _ hj)
  obtain⟨pre,post,o,st1,st1',eL,h1,h2⟩:=hstep i hiL
  have hpreL:∀j∈pre,j∈L:=λj hj=>by rw[eL];exact Xk _ hj
  have hoi:ops[i]?=some o:=by have:=h2.at_;rw[(hri i hiL).1]at this;exact this
  obtain⟨g1,g2⟩:=Wqo _ _ _ h1
  have hndl:=hl.nodup
  have hndL:=hL.nodup
  rw[e]at hndl
  rw[eL]at hndL
  have hip:i∉p:=λh=>(Xak.1 hndl).2.2 i h i (Xi ..) rfl
  have hipre:i∉pre:=λh=>(Xak.1 hndL).2.2 i h i (Xi ..) rfl
  have hslots:∀t∈Wib ops o,look st2.env t=look st1.env t:=λt ht=>by
   rw[he,g1]
   refine Wxj hone (by rw[hidx p hpL];exact(Xak.1 hndl).1) (by rw[hidx pre hpreL];exact(Xak.1 hndL).1) λρ hρt=>?_
   have key:∀j∈L,Wkf ops j=some t→(j∈p↔j∈pre):=λj hj hjt=>by
    rcases hsl i o t hoi ht j hjt with rfl|hb|hb
    ·exact⟨λh=>absurd h hip,λh=>absurd h hipre⟩
    ·by_cases hji:j=i
     ·subst hji;exact⟨λh=>absurd h hip,λh=>absurd h hipre⟩
     ·exact⟨λ_=>hL.bef' eL hb hji,λ_=>hl.bef' e hb hji⟩
    ·exact⟨λh=>absurd (hl.bef e hb h) hip,λh=>absurd (hL.bef eL hb h) hipre⟩
   constructor
   ·intro hρ
    obtain⟨j,hj,rfl⟩:=Xu.1 hρ
    have hjL:=hpL j hj
    rw[(hri j hjL).1]at hρt
    exact Xu.2 ⟨j,(key j hjL hρt).1 hj,rfl⟩
   ·intro hρ
    obtain⟨j,hj,rfl⟩:=Xu.1 hρ
    have hjL:=hpreL j hj
    rw[(hri j hjL).1]at hρt
    exact Xu.2 ⟨j,(key j hjL hρt).2 hj,rfl⟩
  have hmp:memA (p.map rec) (st.objs,st.nx)=memA ((p.filter (Wci ops)).map rec) (st.objs,st.nx):=by rw[Wel,hfilt p hpL]
  have hmpre:memA (pre.map rec) (st.objs,st.nx)=memA ((pre.filter (Wci ops)).map rec) (st.objs,st.nx):=by rw[Wel,hfilt pre hpreL]
  obtain⟨st3,h3⟩:=h2.move (st2:=st2) hslots (λhmu=>by
   have hmi:Wci ops i=true:=by rw[←hmv i hiL];exact hmu
   have:p.filter (Wci ops)=pre.filter (Wci ops):=by
    have q:=hσ
    rw[e,eL,Xcr,Xcr,Xbh,Xbh,if_pos hmi,if_pos hmi]at q
    refine Wnq ?_ q
    have:=hl.nodup.filter (Wci ops)
    rw[e,Xcr,Xbh,if_pos hmi]at this
    exact this
   rw[hmp,this,←hmpre,←g2]at hm
   exact⟨congrArg (·.1) hm,congrArg (·.2) hm⟩) (λhfl id hid=>by
   have q:(p.filter (Wci ops))<+:l.filter (Wci ops):=by rw[e,Xcr];exact Xgn _ _
   have q2:(pre.filter (Wci ops))<+:l.filter (Wci ops):=by rw[hσ,eL,Xcr];exact Xgn _ _
   have hm1:st2.objs=(memA ((p.filter (Wci ops)).map rec) (st.objs,st.nx)).1:=by rw[←hmp,←hm]
   have hm2:st1.objs=(memA ((pre.filter (Wci ops)).map rec) (st.objs,st.nx)).1:=by rw[←hmpre,←g2]
   rw[hm1,hm2]
   rcases List.prefix_or_prefix_of_prefix q q2 with⟨X,hX⟩|⟨X,hX⟩
   ·
    rw[←hX,Xp,Wjn]
    refine(Wul _ _ λρ hρ hρm=>?_).symm
    obtain⟨m,hmX,rfl⟩:=Xu.1 hρ
    have hmpre2:m∈pre:=(Xas.1 (by rw[←hX];exact Xg _ hmX:m∈pre.filter (Wci ops))).1
    have hmnp:m∉p:=λhmem=>by
     have hma:Wci ops m=true:=(Xas.1 (by rw[←hX];exact Xg _ hmX:m∈pre.filter (Wci ops))).2
     have hnd2:(pre.filter (Wci ops)).Nodup:=(Xak.1 hndL).1.filter _
     rw[←hX]at hnd2
     exact(Xak.1 hnd2).2.2 m (Xas.2 ⟨hmem,hma⟩) m hmX rfl
    obtain⟨u,v,eu⟩:=Xee hmpre2
    have hf:=hpair m i u (v++i::post) (by rw[eL,eu];simp) (by simp)
    rcases hf.2 hρm hfl with hb|hb
    ·rw[(hri m (hpreL m hmpre2)).1,(hri i hiL).1]at hb
     exact absurd (hl.bef' e hb (λhc=>hipre (hc▸hmpre2))) hmnp
    ·exact hb id hid
   ·rw[←hX,Xp,Wjn]
    refine Wul _ _ λρ hρ hρm=>?_
    obtain⟨m,hmX,rfl⟩:=Xu.1 hρ
    have hmf:m∈p.filter (Wci ops):=by rw[←hX];exact Xg _ hmX
    have hmp2:m∈p:=(Xas.1 hmf).1
    have hmnp:m∉pre:=λhmem=>by
     have hma:Wci ops m=true:=(Xas.1 hmf).2
     have hnd2:(p.filter (Wci ops)).Nodup:=(Xak.1 hndl).1.filter _
     rw[←hX]at hnd2
     exact(Xak.1 hnd2).2.2 m (Xas.2 ⟨hmem,hma⟩) m hmX rfl
    have hmL:=hpL m hmp2
    have hmpost:m∈post:=by
     rw[eL]at hmL
     rcases Xn.1 hmL with h|h
     ·exact absurd h hmnp
     ·rcases Xo.1 h with h|h
      ·exact absurd (h▸hmp2) hip
      ·exact h
    have hf:=hpair i m pre post eL hmpost
    rcases hf.1 hfl hρm with hb|hb
    ·rw[(hri m (hpL m hmp2)).1,(hri i hiL).1]at hb
     exact absurd (hl.bef e hb hmp2) hip
    ·exact hb id hid)
  have hod:∀d,o.dst=some d→nt.Ok d:=hd o (Array.mem_of_getElem? hoi)
  have hwp:=rxg_wp (F:=F) (G0:=G0) (w0:=w0) hT hΓ hod (Q:=Q) (k:=some) (r:=st3) (K:=wpOps P ops Q s) (λst4 a' w' G' ν' hr4 h4=>by
   injection h4 with h4;subst h4
   refine ih (p++ [i]) (by rw[e];simp) st4 a' w' G' ν' hr4 (λt=>?_) ?_
   ·rw[h3.env]
    have hv:valA ops ((p++ [i]).map rec) (look st.env) t=if Wkf ops i=some t then some (rec i).v else valA ops (p.map rec) (look st.env) t:=by
     rw[Xp]
     have gen:∀(x:List Rc) (y:Rc) (e:Nat→Option AVal),valA ops (x++ [y]) e t=if Wkf ops y.i=some t then some y.v else valA ops x e t:=by
      intro x
      induction x with
      |nil=>intro y e;rfl
      |cons z x ih=>intro y e;rw[Xbf,valA,ih];rfl
     rw[List.map_singleton,gen,(hri i hiL).1]
    rw[hv,he]
    have:Wkf ops i=o.dst:=by unfold Wkf;rw[hoi];rfl
    rw[this]
   ·rw[Xp,Wjn,←hm]
    simp only[Xaj,Xch,memA]
    rw[h3.objs,h3.nx]
    split<;>rfl) hr2 h3.run
  rw[wpOps_cons]
  unfold wpOp
  rw[hoi]
  simp only
  split
  ·rename_i hw;rw[if_pos hw]at hwp;exact .inl hwp
  ·rename_i hw;rw[if_neg hw]at hwp;exact hwp
end
end Go.Sx
namespace Go.Sx
set_option linter.unusedVariables false
set_option linter.unusedSimpArgs false
theorem Wwm:∀{l:List (Nat×Nat)},Wdw (l.map (·.1))=true→∀p∈l,∀q∈l,p.1=q.1→p=q
 | [],_,p,hp,_,_,_=>by cases hp
 |x::l,h,p,hp,q,hq,e=>by
  have hn:=(Wmh _).1 h
  simp only[Xaj,Wdw,Xh]at h
  rw[Xaj,Xai]at hn
  rcases Xo.1 hp with h1|h1
  ·rcases Xo.1 hq with h2|h2
   ·rw[h1,h2]
   ·exact absurd (Xu.2 ⟨q,h2,by rw[←e,h1]⟩) hn.1
  ·rcases Xo.1 hq with h2|h2
   ·exact absurd (Xu.2 ⟨p,h1,by rw[e,h2]⟩) hn.1
   ·exact Wwm h.2 p h1 q h2 e
theorem Wvq:∀(l:List Oper) (n k:Nat) (o:Oper) (d:Nat),l[k]?=some o→o.dst=some d→(d,n+k)∈Wqs l n
 | [],_,k,o,d,h,_=>by simp at h
 |x::l,n,k,o,d,h,hd=>by
  cases k with
  |zero=>
   simp at h;subst h
   simp only[Wqs,hd]
   exact Xi ..
  |succ k=>
   have:=Wvq l (n+1) k o d (by simpa using h) hd
   have e:n+(k+1)=n+1+k:=by omega
   rw[e]
   simp only[Wqs]
   split
   ·exact Xe _ this
   ·exact this
theorem Wqw{ops:Array Oper}{B:List (List Nat)}{D:List (Nat×Nat)}:∀(l:List Oper) (n:Nat),Wxs ops B D l n=true→∀(k:Nat) (o:Oper),l[k]?=some o→∀t∈Wib ops o,∀p∈D,p.1=t→
  p.2=n+k∨Whn B p.2 (n+k)=true∨Whn B (n+k) p.2=true
 | [],_,_,k,o,h=>by simp at h
 |x::l,n,h,k,o,hk=>by
  simp only[Wxs,Xh]at h
  cases k with
  |zero=>
   simp at hk;subst hk
   intro t ht p hp e
   have:=Xae.1 (Xae.1 h.1 t ht) p hp
   simp only[Xbw,Xao]at this
   rcases this with((h1|h1)|h1)|h1
   ·rw[e]at h1;simp at h1
   ·exact .inl (by simpa using h1)
   ·exact .inr (.inl h1)
   ·exact .inr (.inr h1)
  |succ k=>
   have:=Wqw l (n+1) h.2 k o (by simpa using hk)
   have e:n+(k+1)=n+1+k:=by omega
   rw[e]
   exact this
structure RegOk(ops:Array Oper):Prop where
 back:∀(k:Nat) (o:Oper),ops[k]?=some o→∀d∈deps o,d<k
 one:OneEach ops
 slots:∀(i:Nat) (o:Oper) (t:Nat),ops[i]?=some o→t∈Wib ops o→∀j,Wkf ops j=some t→j=i∨Whn (Wki ops.toList []) j i=true∨Whn (Wki ops.toList []) i j=true
theorem Wtx{ops:Array Oper}{j t:Nat}(h:Wkf ops j=some t):(t,j)∈Wqs ops.toList 0:=by
 unfold Wkf at h
 obtain⟨o,ho,hd⟩:=Xbv.1 h
 have:=Wvq ops.toList 0 j o t (by simpa using ho) hd
 rw[Xbb]at this
 exact this
theorem regOk_spec{ops:Array Oper}(h:regOk ops (Wki ops.toList [])=true):RegOk ops:=by
 simp only[regOk,Xh]at h
 obtain⟨⟨h1,h2⟩,h3⟩:=h
 refine⟨λk o ho e he=>?_,λi j t hi hj=>?_,λi o t ho ht j hj=>?_⟩
 ·have:=Wwe (ops:=ops) ops.toList 0 h1 k o (by simpa using ho) e he
  omega
 ·have:=Wwm h2 _ (Wtx hi) _ (Wtx hj) rfl
  exact congrArg (·.2) this
 ·have:=Wqw ops.toList 0 h3 i o (by simpa using ho) t ht _ (Wtx hj) rfl
  simpa using this
theorem Wwd{ops:Array Oper}:∀(l done:List Nat),Wuu ops l done=true→done.Nodup→(∀i∈done,i<ops.size)→
  (done++l).Nodup∧(∀i∈done++l,i<ops.size)∧(done++l).length=ops.size∧(∀p i s,l=p++i::s→∀o,ops[i]?=some o→∀d∈deps o,d∈done++p)
 | [],done,h,hn,hlt=>by
  simp only[Wuu]at h
  exact⟨by simpa using hn,by simpa using hlt,by simpa using h,λp i s e=>by simp at e⟩
 |x::l,done,h,hn,hlt=>by
  simp only[Wuu,Xh,Xao]at h
  obtain⟨⟨h1,h2⟩,h3⟩:=h
  have hx:x∉done:=λhm=>by rw[(Wcm x done).2 hm]at h1;cases h1
  cases ho:ops[x]? with
  |none=>rw[ho]at h2;cases h2
  |some o=>
   rw[ho]at h2
   have hxs:x<ops.size:=(Xde.1 ho).1
   obtain⟨g1,g2,g3,g4⟩:=Wwd l (x::done) h3 (Xai.2 ⟨hx,hn⟩) (λi hi=>by
    rcases Xo.1 hi with rfl|hi
    ·exact hxs
    ·exact hlt i hi)
   have hperm:List.Perm (x::done++l) (done++x::l):=by simpa using(List.perm_middle (a:=x) (l₁:=done) (l₂:=l)).symm
   refine⟨hperm.nodup_iff.1 g1,λi hi=>g2 i (hperm.mem_iff.2 hi),by rw[←hperm.length_eq];exact g3,λp i s e o' ho' d hd=>?_⟩
   cases p with
   |nil=>
    simp only[Xcd,List.cons.injEq]at e
    obtain⟨rfl,_⟩:=e
    rw[ho]at ho';injection ho' with ho';subst ho'
    have:=Xae.1 h2 d hd
    simpa using(Wcm d done).1 this
   |cons y p=>
    simp only[Xbf,List.cons.injEq]at e
    obtain⟨rfl,e⟩:=e
    have:=g4 p i s e o' ho' d hd
    simp only[Xbf,Xo,Xn]at this⊢
    rcases this with h|h|h
    ·exact .inr (.inl h)
    ·exact .inl h
    ·exact .inr (.inr h)
theorem full_of_len{l:List Nat}{n:Nat}(hn:l.Nodup)(hlt:∀i∈l,i<n)(hlen:l.length=n):∀i,i<n→i∈l:=by
 intro i hi
 refine Classical.byContradiction λh=>?_
 have h1:(i::l).Nodup:=Xai.2 ⟨h,hn⟩
 have h2:∀j∈i::l,j∈Xdf n:=λj hj=>by
  rw[Xeg]
  rcases Xo.1 hj with rfl|hj
  ·exact hi
  ·exact hlt j hj
 have key:∀(a b:List Nat),a.Nodup→(∀x∈a,x∈b)→a.length≤b.length:=by
  intro a
  induction a with
  |nil=>intro b _ _;simp
  |cons x a ih=>
   intro b hna hab
   rw[Xai]at hna
   have hxb:x∈b:=hab x (Xi ..)
   have:=ih (b.erase x) hna.2 λy hy=>(Xge (λe=>hna.1 (by rw[←e];exact hy))).2 (hab y (Xe _ hy))
   rw[Xfo hxb]at this
   have hpos:=Xfy hxb
   simp;omega
 have:=key _ _ h1 h2
 rw[Xfi,Xr]at this
 omega
theorem ordOk_order{ops:Array Oper}{l:List Nat}(h:Wuu ops l []=true):Order ops l:=by
 obtain⟨h1,h2,h3,h4⟩:=Wwd l [] h Xdi (by simp)
 rw[Xcd]at h1 h2 h3
 exact⟨h1,λi=>⟨full_of_len h1 h2 h3 i,h2 i⟩,λp i s e o ho d hd=>by simpa using h4 p i s e o ho d hd⟩
theorem Wvw:∀(l:List Oper) (n i:Nat),i∈Wre l n↔n≤i∧∃o,l[i-n]?=some o∧Wcn o=true
 | [],n,i=>by simp[Wre]
 |o::l,n,i=>by
  have ih:=Wvw l (n+1) i
  have hcase:(n≤i∧∃o',(o::l)[i-n]?=some o'∧Wcn o'=true)↔(i=n∧Wcn o=true)∨(n+1≤i∧∃o',l[i-(n+1)]?=some o'∧Wcn o'=true):=by
   by_cases hi:i=n
   ·subst hi
    constructor
    ·rintro⟨_,o',h1,h2⟩
     rw[Xcy]at h1
     injection h1 with h1;subst h1
     exact .inl ⟨rfl,h2⟩
    ·rintro(⟨_,h⟩|⟨h,_⟩)
     ·exact⟨Xm _,o,by rw[Xcy];rfl,h⟩
     ·omega
   ·constructor
    ·rintro⟨h0,o',h1,h2⟩
     have e:i-n=(i-(n+1))+1:=by omega
     rw[e,Xdp]at h1
     exact .inr ⟨by omega,o',h1,h2⟩
    ·rintro(⟨h,_⟩|⟨h0,o',h1,h2⟩)
     ·exact absurd h hi
     ·have e:i-n=(i-(n+1))+1:=by omega
      exact⟨by omega,o',by rw[e,Xdp];exact h1,h2⟩
  rw[hcase,←ih]
  simp only[Wre]
  cases hm:Wcn o with
  |true=>simp
  |false=>simp
theorem mutsOf_mutAt{ops:Array Oper}{i:Nat}:i∈Wre ops.toList 0↔Wci ops i=true:=by
 rw[Wvw]
 unfold Wci
 simp only[Xbo,true_and,Xda,Array.getElem?_toList]
 cases ops[i]? with
 |none=>simp
 |some o=>simp
theorem exts_all{B:List (List Nat)}:∀(σ rem:List Nat) (n:Nat),σ.length≤n→σ.Nodup→(∀i,i∈rem↔i∈σ)→(∀p m s,σ=p++m::s→∀m'∈m::s,Whn B m' m=false)→σ∈exts B n rem
 | [],rem,n,hn,hnd,hmem,hb=>by
  have:rem= []:=Xex.2 λi hi=>by have:=(hmem i).1 hi;cases this
  subst this
  cases n<;>simp[exts]
 |m::s,rem,0,hn,_,_,_=>by simp at hn
 |m::s,rem,n+1,hn,hnd,hmem,hb=>by
  have hm:m∈rem:=(hmem m).2 (Xi ..)
  rw[Xai]at hnd
  cases hrem:rem with
  |nil=>rw[hrem]at hm;cases hm
  |cons x xs=>
   rw[←hrem]
   have hex:exts B (n+1) rem=(rem.filter λm=>rem.all λm'=>!Whn B m' m).flatMap λm=>(exts B n (rem.filter λx=>!Xbt x m)).map (m:: ·):=by rw[hrem];rfl
   rw[hex]
   refine Xfr.2 ⟨m,Xas.2 ⟨hm,Xae.2 λm' hm'=>?_⟩,Xu.2 ⟨s,?_,rfl⟩⟩
   ·rw[hb [] m s rfl m' ((hmem m').1 hm')];rfl
   ·refine exts_all s _ n (by simpa using hn) hnd.2 (λi=>?_) (λp q s' e=>hb (m::p) q s' (by rw[e];rfl))
    rw[Xas,hmem,Xo]
    constructor
    ·rintro⟨h1,h2⟩
     rcases h1 with rfl|h1
     ·simp at h2
     ·exact h1
    ·intro h
     refine⟨.inr h,?_⟩
     have hne:i≠m:=λe=>hnd.1 (e▸h)
     cases hb':Xbt i m with
     |false=>rfl
     |true=>exact absurd (Nat.eq_of_beq_eq_true hb') hne
theorem eqN_eq:∀(l m:List Nat),eqN l m=true→l=m
 | [],[],_=>rfl
 | [],_::_,h=>by cases h
 |_::_,[],h=>by cases h
 |i::l,j::m,h=>by
  simp only[eqN,Xh]at h
  have:i=j:=by simpa using h.1
  rw[this,eqN_eq l m h.2]
theorem both_some{α:Type}{a b:Option α}{r:α}(h:both a b=some r):a=some r∧b=some r:=by
 unfold both at h
 split at h
 ·rename_i e;exact⟨h,e▸h⟩
 ·cases h
section
variable{w0:World}{F:CS}{nt:Slots}{G0:GH}{P:Program}{T:Tab}{Γ:Ctx}{A:List (Nat×An)}{R:Type}{r:R}
theorem rdxs_mem{ops:Array Oper}{B:List (List Nat)}{st:St}{k:St→Option R}:∀(l:List (List Nat)),rdxs T Γ A ops B st k l=some r→∀σ∈l,∃L,Wuu ops L []=true∧L.filter (λi=>Wez i σ)=σ∧rdx T Γ A ops B L [] [] st k=some r
 | [],_,σ,hσ=>by cases hσ
 |τ::l,h,σ,hσ=>by
  have one:Wpn (Wxz ops.toList B ops.size [] τ) (λL=>bif Wuu ops L []&&eqN (L.filter λi=>Wez i τ) τ then rdx T Γ A ops B L [] [] st k else none)=some r→∃L,Wuu ops L []=true∧L.filter (λi=>Wez i τ)=τ∧rdx T Γ A ops B L [] [] st k=some r:=λh=>by
   rw[Wkq]at h
   obtain⟨hc,h⟩:=Wcj h
   simp only[Xh]at hc
   exact⟨_,hc.1,eqN_eq _ _ hc.2,h⟩
  cases l with
  |nil=>
   simp only[rdxs]at h
   rcases Xo.1 hσ with rfl|hσ
   ·exact one h
   ·cases hσ
  |cons x l=>
   have h:both (Wpn (Wxz ops.toList B ops.size [] τ) (λL=>bif Wuu ops L []&&eqN (L.filter λi=>Wez i τ) τ then rdx T Γ A ops B L [] [] st k else none)) (rdxs T Γ A ops B st k (x::l))=some r:=h
   obtain⟨h1,h2⟩:=both_some h
   rcases Xo.1 hσ with rfl|hσ
   ·exact one h1
   ·exact rdxs_mem (x::l) h2 σ hσ
theorem drawx_wp(hM:P.follows .mixedOrders=true)(hT:Wbj P T)(hΓ:Wmk P Γ){id:Nat}{ops:Array Oper}(hd:∀o∈ops,∀d,o.dst=some d→nt.Ok d){k:St→Option R}{Q:Exit→Act→World→Prop}(hK:Goes w0 F nt G0 k r (Q .normal)):
  Goes w0 F nt G0 (λst=>drawx T Γ A ops st k) r ((Code.region id ops true).wp P Q):=λst a w G ν hr h=>by
 simp only[drawx,forceB_eq]at h
 obtain⟨hreg,h⟩:=Wcj h
 have hR:=regOk_spec hreg
 refine wp_region_draw λt=>?_
 rw[hM]
 have hl:Order ops (Region.schedule true ops t):=Wvc hR.back
 generalize Region.schedule true ops t=l at hl
 have hσ:l.filter (Wci ops)∈exts (Wki ops.toList []) ops.size (Wre ops.toList 0):=by
  refine exts_all _ _ _ ?_ (hl.nodup.filter _) (λi=>?_) (λp m s e m' hm'=>?_)
  ·refine Xcn (Xeq _ _) ?_
   have hsub:l.length≤(Xdf ops.size).length:=by
    have key:∀(a b:List Nat),a.Nodup→(∀x∈a,x∈b)→a.length≤b.length:=by
     intro a
     induction a with
     |nil=>intro b _ _;simp
     |cons x a ih=>
      intro b hna hab
      rw[Xai]at hna
      have hxb:x∈b:=hab x (Xi ..)
      have:=ih (b.erase x) hna.2 λy hy=>(Xge (λe=>hna.1 (by rw[←e];exact hy))).2 (hab y (Xe _ hy))
      rw[Xfo hxb]at this
      have hpos:=Xfy hxb
      simp;omega
    exact key _ _ hl.nodup λx hx=>Xeg.2 ((hl.all x).2 hx)
   rw[Xfi]at hsub
   exact hsub
  ·rw[mutsOf_mutAt,Xas]
   constructor
   ·intro h
    refine⟨(hl.all i).1 ?_,h⟩
    unfold Wci at h
    split at h
    ·rename_i o ho;exact(Xde.1 ho).1
    ·cases h
   ·exactλh=>h.2
  ·cases hb:Whn (Wki ops.toList []) m' m with
   |false=>rfl
   |true=>
    exfalso
    have hml:m∈l:=(Xas.1 (by rw[e];simp:m∈l.filter (Wci ops))).1
    obtain⟨u,v,eu⟩:=Xee hml
    have hm'u:m'∈u++ [m]:=hl.bef (p:=u++ [m]) (s:=v) (by rw[eu];simp) hb (by simp)
    have hfm:Wci ops m=true:=(Xas.1 (by rw[e];simp:m∈l.filter (Wci ops))).2
    have hnf:=hl.nodup.filter (Wci ops)
    have e2:l.filter (Wci ops)=u.filter (Wci ops)++m::v.filter (Wci ops):=by rw[eu,Xcr,Xbh,if_pos hfm]
    have hpu:p=u.filter (Wci ops):=by
     refine Wnq (b:=s) (d:=v.filter (Wci ops)) (x:=m) ?_ ?_
     ·rw[←e];exact hnf
     ·rw[←e,e2]
    rcases Xo.1 hm' with rfl|hm's
    ·
     have:=hl.bef (p:=u++ [m']) (s:=v) (by rw[eu];simp) hb (by simp)
     have hcl:Closed ops (λj=>j∈u∨(j=m'∧False)):=λi o ho hi d hd=>by
      rcases hi with hi|⟨_,hf⟩
      ·exact .inl (hl.closed (p:=u) (s:=m'::v) eu i o ho hi d hd)
      ·exact hf.elim
     have back:∀(j i:Nat),Whn (Wki ops.toList []) j i=true→j<i:=λj i hji=>by
      have hcl2:Closed ops (λx=>x<i∨(x=i)):=λx o ho hx d hd=>by
       have:d<x:=hR.back x o ho d hd
       omega
      refine Classical.byContradiction λhn=>?_
      have hlt:∀(l:List Oper) (acc:List (List Nat)),(∀(k:Nat) (o:Oper),l[k]?=some o→ops[acc.length+k]?=some o)→(∀i,∀j∈acc.getD i [],j<i)→∀i,∀j∈(Wki l acc).getD i [],j<i:=by
       intro l
       induction l with
       |nil=>intro acc _ h;exact h
       |cons o l ih=>
        intro acc hl h
        refine ih _ (λk o' hk=>?_) (λi j hj=>?_)
        ·have:=hl (k+1) o' (by simpa using hk)
         rw[Xz]
         have e:acc.length+(k+1)=acc.length+ [joinB acc (deps o) []].length+k:=by simp;omega
         rw[←e];exact this
        ·rw[Xbc,Xaz]at hj
         split at hj
         ·exact h i j (by rw[Xbc];exact hj)
         ·by_cases he:i=acc.length
          ·subst he
           simp only[Xcy,Xdq,Xdy]at hj
           rcases(Wtj _ _).1 hj with⟨k,hk,hjk⟩|hj
           ·have hkl:k<acc.length:=hR.back acc.length o (hl 0 o (by simp)) k hk
            rcases hjk with rfl|hjk
            ·exact hkl
            ·have:=h k j hjk;omega
           ·cases hj
          ·have:[joinB acc (deps o) []][i-acc.length]?=none:=Xbj (by simp;omega)
           rw[this]at hj;cases hj
      exact hn (hlt ops.toList [] (λk o hk=>by simpa using hk) (λi j hj=>by simp at hj) i j ((Wcm _ _).1 hji))
     have:=back m' m' hb
     omega
    ·
     have hm'l:m'∈p:=by
      rw[hpu]
      rcases Xn.1 hm'u with h|h
      ·refine Xas.2 ⟨h,?_⟩
       exact(Xas.1 (by rw[e];simp[hm's]:m'∈l.filter (Wci ops))).2
      ·simp at h
       subst h
       rw[e]at hnf
       have:=(Xai.1 (Xak.1 hnf).2.1).1
       exact absurd hm's this
     rw[e]at hnf
     exact(Xak.1 hnf).2.2 m' hm'l m' (Xe _ hm's) rfl
 obtain⟨L,g1,g2,g3⟩:=rdxs_mem _ h _ hσ
 have hL:=ordOk_order g1
 obtain⟨rs,st',q1,q2,q3,q4,_,_⟩:=rdx_runs _ _ _ _ g3
 have hf:l.filter (Wci ops)=L.filter (Wci ops):=by
  rw[←g2]
  refine List.filter_congr λi hi=>?_
  cases hm:Wci ops i with
  |true=>exact(Wcm _ _).2 (Xas.2 ⟨(hl.all i).1 ((hL.all i).2 hi),hm⟩)
  |false=>
   cases he:Wez i (l.filter (Wci ops))with
   |false=>rfl
   |true=>
    have:=(Xas.1 ((Wcm _ _).1 he)).2
    rw[hm]at this;cases this
 have hr':Rel w0 F nt G0 G ν st a {w with drawn:=w.drawn+1}:=⟨hr.defers,hr.ntm,hr.par,hr.env,?_,hr.gx⟩
 ·exact any_order hT hΓ hd hl hL hR.one hR.slots hf q1 q2 q4 (λa w G ν hr=>hK st' a w G ν hr q3) hr'
 ·exact hr.h.drew
end
end Go.Sx
namespace Go.Sx
set_option linter.unusedVariables false
set_option linter.unusedSimpArgs false
section
variable{w0:World}{F:CS}{nt:Slots}{G0:GH}{P:Program}{T:Tab}{Γ:Ctx}{A:List (Nat×An)}{R:Type}{r:R}
theorem sx_wp(hM:P.follows .mixedOrders=true)(hT:Wbj P T)(hΓ:Wmk P Γ){n:Nat}{kept:List Nat}(hn:nt.n=n)(hkp:∀p∈nt.kept,p.1∈kept){ann:Nat→List Ghost}{N:Nat}:∀(c:Code),Wio n kept c=true→∀{k:Ex→St→Option R} {Q:Exit→Act→World→Prop},
  (∀e,Goes w0 F nt G0 (k e) r (Q e.to))→Goes w0 F nt G0 (λst=>sx T Γ ann N c st k) r (c.wp P Q)
 | .skip,_,k,Q,hK=>λst a w G ν hr h=>wp_skip (hK .normal st a w G ν hr h)
 | .exit id,_,k,Q,hK=>λst a w G ν hr h=>wp_exit (hK (.exit id) st a w G ν hr h)
 | .ret,_,k,Q,hK=>λst a w G ν hr h=>wp_ret (hK .ret st a w G ν hr h)
 | .region id ops draw,hok,k,Q,hK=>λst a w G ν hr h=>by
  have hk2:Goes w0 F nt G0 (λst'=>match Wkb (ann id) st' with|some (c,st'')=>bif c then k .normal st'' else none|none=>none) r (Q .normal):=λst' a' w' G' ν' hr' h'=>by
   simp only at h'
   split at h'
   ·rename_i c st'' hg
    obtain⟨rfl,h'⟩:=Wcj h'
    obtain⟨G2,ν2,hr2⟩:=Wiq _ _ _ _ _ hr' hg
    exact hK .normal _ _ _ _ _ hr2 h'
   ·cases h'
  have hops:∀o∈ops,∀d,o.dst=some d→nt.Ok d:=λo ho=>operOk_spec hn hkp (Xae.1 hok o (by simpa using ho))
  cases draw with
  |true=>exact drawx_wp hM hT hΓ hops hk2 st a w G ν hr h
  |false=>exact wp_region_list (rxs_wp hT hΓ ops.toList (λo ho=>hops o (by simpa using ho)) hk2 st a w G ν hr h)
 | .seq x y,hok,k,Q,hK=>λst a w G ν hr h=>by
  simp only[Wio,Xh]at hok
  refine wp_seq (sx_wp hM hT hΓ hn hkp x hok.1 (Q:=Exit.then (y.wp P Q) Q) (λe=>?_) st a w G ν hr h)
  cases e with
  |normal=>exact sx_wp hM hT hΓ hn hkp y hok.2 hK
  |exit id=>exact hK (.exit id)
  |ret=>exact hK .ret
 | .cond c x y,hok,k,Q,hK=>λst a w G ν hr h=>by
  simp only[Wio,Xh]at hok
  simp only[sx]at h
  split at h
  ·rename_i b hb
   cases hv:ev st c with
   |none=>simp[hv]at hb
   |some v=>
    simp only[hv,Xc]at hb
    have hc:=asB_rel v _ b (Wab hr c v hv) hb
    refine wp_cond hc ?_
    cases b with
    |true=>exact sx_wp hM hT hΓ hn hkp x hok.1 hK st a w G ν hr h
    |false=>exact sx_wp hM hT hΓ hn hkp y hok.2 hK st a w G ν hr h
  ·cases h
 | .block id c,hok,k,Q,hK=>λst a w G ν hr h=>by
  simp only[Wio]at hok
  refine wp_block (sx_wp hM hT hΓ hn hkp c hok (Q:=Exit.inBlock id Q) (λe=>?_) st a w G ν hr h)
  cases e with
  |normal=>exact hK .normal
  |exit id'=>
   intro st' a' w' G' ν' hr' h'
   simp only[Ex.to,Exit.inBlock]
   split
   ·rename_i he;simp only[he,if_true]at h';exact hK .normal _ _ _ _ _ hr' h'
   ·rename_i he;simp only[he,if_false]at h';exact hK (.exit id') _ _ _ _ _ hr' h'
  |ret=>exact hK .ret
 | .loop c,hok,k,Q,hK=>λst a w G ν hr h=>by
  simp only[Wio]at hok
  refine wp_loop_rounds N ?_
  have key:∀(m:Nat),Goes w0 F nt G0 (λst=>loopN (Wvv (ann (Wno c)) λst k=>sx T Γ ann N c st k) m st k) r (Code.rounds P c Q m):=by
   intro m
   induction m with
   |zero=>intro st a w G ν hr h;cases h
   |succ m ih=>
    intro st a w G ν hr h
    rw[rounds_succ]
    have h:sx T Γ ann N c st (λe st'=>match e with
     | .normal=>match Wkb (ann (Wno c)) st' with
      |some (b,st'')=>bif b then loopN (Wvv (ann (Wno c)) λst k=>sx T Γ ann N c st k) m st'' k else none
      |none=>none
     | .exit id=>k (.exit id) st'
     | .ret=>k .ret st')=some r:=by
     rw[←h]
     simp only[loopN,Wvv]
     congr 1
    refine sx_wp hM hT hΓ hn hkp c hok (Q:=Exit.then (Code.rounds P c Q m) Q) (λe=>?_) st a w G ν hr h
    cases e with
    |normal=>
     intro st' a' w' G' ν' hr' h'
     simp only at h'
     split at h'
     ·rename_i b st'' hg
      obtain⟨rfl,h'⟩:=Wcj h'
      obtain⟨G2,ν2,hr2⟩:=Wiq _ _ _ _ _ hr' hg
      exact ih _ _ _ _ _ hr2 h'
     ·cases h'
    |exit id=>exact hK (.exit id)
    |ret=>exact hK .ret
  have h:(match Wkb (ann (Wno c)) st with
   |some (b,st')=>bif b then loopN (Wvv (ann (Wno c)) λst k=>sx T Γ ann N c st k) N st' k else none
   |none=>none)=some r:=h
  split at h
  ·rename_i b st' hg
   obtain⟨rfl,h⟩:=Wcj h
   obtain⟨G2,ν2,hr2⟩:=Wiq _ _ _ _ _ hr hg
   exact key N _ _ _ _ _ hr2 h
  ·cases h
 | .scope ..,_,k,Q,hK=>λst a w G ν hr h=>by cases h
 | .label ..,_,k,Q,hK=>λst a w G ν hr h=>by cases h
 | .goto ..,_,k,Q,hK=>λst a w G ν hr h=>by cases h
 | .rangeFunc ..,_,k,Q,hK=>λst a w G ν hr h=>by cases h
 | .refuse ..,_,k,Q,hK=>λst a w G ν hr h=>by cases h
end
end Go.Sx
namespace Go.Sx
set_option linter.unusedVariables false
set_option linter.unusedSimpArgs false
section
variable{w0:World}{F:CS}{nt:Slots}{G0 G G':GH}{ν:Nat→Nu}{φ:Nat→CS}{objs:Objs}{nx nx':Nat}{st st':St}{a:Act}{w w':World}{P:Program}{T:Tab}{Γ:Ctx}
theorem Wrs:∀(xs:List AVal) (j i:Nat),look (Wqk j xs) i=if j≤i then xs[i-j]? else none
 | [],j,i=>by simp[Wqk,look]
 |x::xs,j,i=>by
  simp only[Wqk]
  rw[Wt,Wrs xs (j+1) i]
  by_cases h:j=i
  ·subst h;simp
  ·by_cases h2:j≤i
   ·have h3:j+1≤i:=by omega
    rw[if_neg h,if_pos h3,if_pos h2,show i-j=(i-(j+1))+1 by omega];rfl
   ·rw[if_neg h,if_neg h2,if_neg (by omega)]
theorem Wwq:∀(l:List Nat),idsOf (ptrs l)=l
 | []=>rfl
 |i::l=>by
  show i::idsOf (ptrs l)=i::l
  rw[Wwq l]
theorem Wvp:∀(ps:List PTy) (d:PDen ps) (objs:Objs) (nx n:Nat),Wwo ps n=true→∃ids,ids.length=n∧(Wae ps d objs nx).1.take n=ptrs ids
 |_,_,_,_,0,_=>⟨[],rfl,rfl⟩
 | [],_,_,_,_+1,h=>by cases h
 | .v _ _::_,_,_,_,_+1,h=>by cases h
 | .mut _::_,_,_,_,_+1,h=>by cases h
 | .clos _ _::_,_,_,_,_+1,h=>by cases h
 | .kv _ _::_,_,_,_,_+1,h=>by cases h
 | .rp _::_,_,_,_,_+1,h=>by cases h
 | .vj _::_,_,_,_,_+1,h=>by cases h
 | .boxal _ _::_,_,_,_,_+1,h=>by cases h
 | .box t::ps,d,objs,nx,n+1,h=>by
  obtain⟨ids,h1,h2⟩:=Wvp ps d.2 ((nx,.box (unfold t d.1 (nx+1)).1)::((unfold t d.1 (nx+1)).2.1++objs)) (unfold t d.1 (nx+1)).2.2 n h
  refine⟨nx::ids,by simp[h1],?_⟩
  simp only[Wae,List.take_succ_cons,h2]
  rfl
theorem Wgc:∀(ps:List PTy) (d:PDen ps) (vs:List Value) (ns:List Pc) (ks:List Nu) (objs:Objs) (nx nx':Nat),Wgf ps=true→Wdp G w ps d vs ns ks→At ν φ nx ns→nx+ns.length≤nx'→
  (Wae ps d objs nx).2.2=nx+ns.length∧
  (∀id ob,look (Wae ps d objs nx).2.1 id=some ob→(nx≤id∧id<nx+ns.length∧Wgn G ν nx' w id (φ id) ob)∨look objs id=some ob)∧
  (Wae ps d objs nx).1.length=vs.length∧∀(j:Nat) (x:AVal) (v:Value),(Wae ps d objs nx).1[j]?=some x→vs[j]?=some v→AValRel G ν nx' x v
 | [],d,vs,ns,ks,objs,nx,nx',_,⟨h1,h2,h3⟩,_,_=>by
  subst h1 h2
  exact⟨rfl,λid ob h=>.inr h,rfl,λj x v h=>by simp[Wae]at h⟩
 | .v t agg::ps,d,vs,ns,ks,objs,nx,nx',hco,⟨v,vs',n1,n2,h1,h2,h3,h4⟩,hν,hx=>by
  subst h2
  obtain⟨us,hus⟩:=VRel_ty h3
  have hl1:=Wau _ _ _ _ hus
  have hlen:(n1++n2).length=t.owns+n2.length:=by rw[Xz,hl1]
  obtain⟨_,o1⟩:=Wbp t d.1 nx us n1 hus hν.left
  obtain⟨e1,e2,e3,e4⟩:=Wgc ps d.2 vs' n2 ks ((unfold t d.1 nx).2.1++objs) (nx+t.owns) nx' hco h4 (hν.right hl1) (by omega)
  simp only[Wae,Wck]
  refine⟨by rw[e1,hlen];omega,λid ob hl=>?_,by rw[h1];simp[e3],λj x u hj hu=>?_⟩
  ·rcases e2 id ob hl with⟨g1,g2,g3⟩|g
   ·exact .inl ⟨by omega,by omega,g3⟩
   ·rcases Wy g with g|g
    ·obtain⟨g1,g2,e,xs,rfl,g3⟩:=o1 id ob g
     exact .inl ⟨g1,by omega,g3⟩
    ·exact .inr g
  ·rw[h1]at hu
   cases j with
   |zero=>simp at hj hu;subst hj hu;exact mkAV_rel h3 hν.left (by omega)
   |succ j=>exact e4 j x u (by simpa using hj) (by simpa using hu)
 | .kv t agg::ps,d,vs,ns,ks,objs,nx,nx',hco,⟨v,vs',n1,n2,ks',h1,h2,_,h3,h4⟩,hν,hx=>by
  subst h2
  obtain⟨us,hus⟩:=VRel_ty h3
  have hl1:=Wau _ _ _ _ hus
  have hlen:(n1++n2).length=t.owns+n2.length:=by rw[Xz,hl1]
  obtain⟨_,o1⟩:=Wbp t d.1 nx us n1 hus hν.left
  obtain⟨e1,e2,e3,e4⟩:=Wgc ps d.2 vs' n2 ks' ((unfold t d.1 nx).2.1++objs) (nx+t.owns) nx' hco h4 (hν.right hl1) (by omega)
  simp only[Wae,Wck]
  refine⟨by rw[e1,hlen];omega,λid ob hl=>?_,by rw[h1];simp[e3],λj x u hj hu=>?_⟩
  ·rcases e2 id ob hl with⟨g1,g2,g3⟩|g
   ·exact .inl ⟨by omega,by omega,g3⟩
   ·rcases Wy g with g|g
    ·obtain⟨g1,g2,e,xs,rfl,g3⟩:=o1 id ob g
     exact .inl ⟨g1,by omega,g3⟩
    ·exact .inr g
  ·rw[h1]at hu
   cases j with
   |zero=>simp at hj hu;subst hj hu;exact mkAV_rel h3 hν.left (by omega)
   |succ j=>exact e4 j x u (by simpa using hj) (by simpa using hu)
 | .box t::ps,d,vs,ns,ks,objs,nx,nx',hco,⟨b,o,vs',n1,n2,ks',h1,h2,h3,⟨us,hrow,hmem,hty⟩,h6⟩,hν,hx=>by
  subst h2
  have hl1:=Wau _ _ _ _ hty
  have hlen:((⟨Wfr b o,rng b o t.size⟩:Pc)::(n1++n2)).length=1+t.owns+n2.length:=by rw[Xr,Xz,hl1];omega
  obtain⟨hν0,hφ0⟩:ν nx=Wfr b o∧φ nx=rng b o t.size:=by have:=hν 0 _ rfl;simpa using this
  have hν1:At ν φ (nx+1) (n1++n2):=hν.right (n1:=[⟨Wfr b o,rng b o t.size⟩]) rfl
  obtain⟨c1,o1⟩:=Wbp t d.1 (nx+1) us n1 hty hν1.left
  have hul:=Wfm t d.1 (nx+1)
  obtain⟨e1,e2,e3,e4⟩:=Wgc ps d.2 vs' n2 ks' ((nx,.box (unfold t d.1 (nx+1)).1)::((unfold t d.1 (nx+1)).2.1++objs)) (nx+1+t.owns) nx' hco h6 (hν1.right hl1) (by omega)
  simp only[Wae,Wck]
  refine⟨by rw[e1,hlen];omega,λid ob hl=>?_,by rw[h1];simp[e3],λj x u hj hu=>?_⟩
  ·rcases e2 id ob hl with⟨g1,g2,g3⟩|g
   ·exact .inl ⟨by omega,by omega,g3⟩
   ·rw[Wt]at g
    split at g
    ·rename_i e;subst e
     injection g with g;subst g
     exact .inl ⟨Xm _,by omega,b,us,by rw[hν0];rfl,by rw[hν0,hul];exact hrow,by rw[hν0];exact hmem,c1 nx' (by omega),by rw[hν0,hul,hφ0];exactλ_ _ hh=>hh⟩
    ·rcases Wy g with g|g
     ·obtain⟨g1,g2,e,xs,rfl,g3⟩:=o1 id ob g
      exact .inl ⟨by omega,by omega,g3⟩
     ·exact .inr g
  ·rw[h1]at hu
   cases j with
   |zero=>
    simp at hj hu;subst hj hu
    exact⟨⟨by omega,b,by rw[hν0];rfl,by rw[hν0];rfl⟩,rfl⟩
   |succ j=>exact e4 j x u (by simpa using hj) (by simpa using hu)
 | .vj _::_,_,_,_,_,_,_,_,_,h,_,_=>h.elim
 | .boxal t lf::ps,d,vs,ns,ks,objs,nx,nx',hco,⟨b,o,b',pc,vs',n1,n2,ks',h1,h2,h3,⟨us,hrow,hmem,hty⟩,h4,h5,h7,h6⟩,hν,hx=>by
  subst h2
  have hl1:=Wau _ _ _ _ hty
  have hlen:((⟨Wfr b o,rng b o t.size⟩:Pc)::(n1++n2)).length=1+t.owns+n2.length:=by rw[Xr,Xz,hl1];omega
  obtain⟨hν0,hφ0⟩:ν nx=Wfr b o∧φ nx=rng b o t.size:=by have:=hν 0 _ rfl;simpa using this
  have hν1:At ν φ (nx+1) (n1++n2):=hν.right (n1:=[⟨Wfr b o,rng b o t.size⟩]) rfl
  obtain⟨c1,o1⟩:=Wbp t d.1 (nx+1) us n1 hty hν1.left
  have hul:=Wfm t d.1 (nx+1)
  have hlf:lf<n1.length:=(Xq.1 h4).1
  have hνl:ν (nx+1+lf)=pc.nu:=(hν1.left lf pc h4).1
  obtain⟨e1,e2,e3,e4⟩:=Wgc ps d.2.2 vs' n2 ks' ((nx,.box (unfold t d.1 (nx+1)).1)::((unfold t d.1 (nx+1)).2.1++objs)) (nx+1+t.owns) nx' hco h6 (hν1.right hl1) (by omega)
  simp only[Wae,Wck]
  refine⟨by rw[e1,hlen];omega,λid ob hl=>?_,by rw[h1];simp[e3],λj x u hj hu=>?_⟩
  ·rcases e2 id ob hl with⟨g1,g2,g3⟩|g
   ·exact .inl ⟨by omega,by omega,g3⟩
   ·rw[Wt]at g
    split at g
    ·rename_i e;subst e
     injection g with g;subst g
     exact .inl ⟨Xm _,by omega,b,us,by rw[hν0];rfl,by rw[hν0,hul];exact hrow,by rw[hν0];exact hmem,c1 nx' (by omega),by rw[hν0,hul,hφ0];exactλ_ _ hh=>hh⟩
    ·rcases Wy g with g|g
     ·obtain⟨g1,g2,e,xs,rfl,g3⟩:=o1 id ob g
      exact .inl ⟨by omega,by omega,g3⟩
     ·exact .inr g
  ·rw[h1]at hu
   match j with
   |0=>
    simp at hj hu;subst hj hu
    exact⟨⟨by omega,b,by rw[hν0];rfl,by rw[hν0];rfl⟩,rfl⟩
   |1=>
    simp at hj hu;subst hj hu
    exact⟨⟨by omega,by rw[hνl];exact h7,b',by rw[hνl];exact h5,by rw[hνl];rfl⟩,rfl⟩
   |j+2=>exact e4 j x u (by simpa using hj) (by simpa using hu)
 | .rp t::ps,d,vs,ns,ks,objs,nx,nx',hco,⟨b,o,us,vs',h1,h2,h3,h4⟩,hν,hx=>by
  obtain⟨e1,e2,e3,e4⟩:=Wgc ps d.2 vs' ns ks objs nx nx' hco h4 hν hx
  simp only[Wae]
  refine⟨e1,e2,by rw[h1];simp[e3],λj x u hj hu=>?_⟩
  rw[h1]at hu
  cases j with
  |zero=>
   simp at hj hu;subst hj hu
   exact⟨⟨b,o,us,by rw[Xax],h2,h3⟩,rfl⟩
  |succ j=>exact e4 j x u (by simpa using hj) (by simpa using hu)
 | .mut e::ps,d,vs,ns,ks,objs,nx,nx',hco,⟨pc,vs',n2,ks',h1,h2,h3,h4,h5⟩,hν,hx=>by
  subst h2
  have hlen:(pc::n2).length=1+n2.length:=by rw[Xr];omega
  obtain⟨hν0,hφ0⟩:ν nx=pc.nu∧φ nx=pc.fp:=by have:=hν 0 _ rfl;simpa using this
  obtain⟨e1,e2,e3,e4⟩:=Wgc ps d.2 vs' n2 ks' ((nx,.arr e d.1)::objs) (nx+1) nx' hco h5 (hν.right (n1:=[pc]) rfl) (by omega)
  simp only[Wae]
  refine⟨by rw[e1,hlen];omega,λid ob hl=>?_,by rw[h1];simp[e3],λj x u hj hu=>?_⟩
  ·rcases e2 id ob hl with⟨g1,g2,g3⟩|g
   ·exact .inl ⟨by omega,by omega,g3⟩
   ·rw[Wt]at g
    split at g
    ·rename_i e;subst e
     injection g with g;subst g
     refine .inl ⟨Xm _,by omega,?_⟩
     show OwnL w (TyRel G w _) _ (ν nx) d.1 (φ nx)
     rw[hν0,hφ0];exact h4
    ·exact .inr g
  ·rw[h1]at hu
   cases j with
   |zero=>
    simp at hj hu;subst hj hu
    exact⟨⟨by omega,by rw[hν0]⟩,Wsw _⟩
   |succ j=>exact e4 j x u (by simpa using hj) (by simpa using hu)
 | .clos g n::ps,d,vs,ns,ks,objs,nx,nx',hco,⟨cvs,vs',h1,h2,h3,h4⟩,hν,hx=>by
  simp only[Wgf,Xh]at hco
  obtain⟨e1,e2,e3,e4⟩:=Wgc ps d (cvs++vs') ns ks objs nx nx' hco.2 h4 hν hx
  obtain⟨ids,g1,g2⟩:=Wvp ps d objs nx n hco.1
  simp only[Wae]
  rw[g2,Wwq]
  have hlen:(Wae ps d objs nx).1.length=n+vs'.length:=by rw[e3,Xz,h2]
  have htk:∀(j id:Nat),ids[j]?=some id→(Wae ps d objs nx).1[j]?=some (AVal.s (.one (.ptr id 0))):=λj id hj=>by
   have hlt:j<n:=by rw[←g1];exact(Xq.1 hj).1
   have:((Wae ps d objs nx).1.take n)[j]?=some (.s (.one (.ptr id 0))):=by rw[g2];simp[ptrs,hj]
   rw[List.getElem?_take,if_pos hlt]at this
   exact this
  refine⟨e1,e2,by rw[h1];simp[hlen],λj x u hj hu=>?_⟩
  rw[h1]at hu
  cases j with
  |zero=>
   simp at hj hu;subst hj hu
   refine⟨⟨cvs,rfl,by rw[h2,g1],λj id u hj hu=>?_⟩,rfl⟩
   have hlt:j<cvs.length:=(Xq.1 hu).1
   obtain⟨⟨q1,q2⟩,q3⟩:=e4 j _ u (htk j id hj) (by rw[List.getElem?_append_left hlt];exact hu)
   exact⟨q1,q3,q2⟩
  |succ j=>
   have hj':(Wae ps d objs nx).1[n+j]?=some x:=by
    rw[←List.getElem?_drop];simpa using hj
   exact e4 (n+j) x u hj' (by rw[Xaw (by omega),h2,Xbd];simpa using hu)
theorem Whu:∀(ps:List PTy) (d:PDen ps) (vs:List Value) (ns:List Pc) (ks:List Nu),Wdp G w ps d vs ns ks→vs.length≤Wew ps
 | [],d,vs,ns,ks,⟨h1,_,_⟩=>by rw[h1];exact Xm _
 | .v t agg::ps,d,vs,ns,ks,⟨v,vs',n1,n2,h1,h2,h3,h4⟩=>by rw[h1,Xr];have:=Whu ps _ _ _ _ h4;simp only[Wew];omega
 | .box t::ps,d,vs,ns,ks,⟨b,o,vs',n1,n2,ks',h1,h2,h3,h4,h6⟩=>by rw[h1,Xr];have:=Whu ps _ _ _ _ h6;simp only[Wew];omega
 | .mut e::ps,d,vs,ns,ks,⟨pc,vs',n2,ks',h1,h2,h3,h4,h5⟩=>by rw[h1,Xr];have:=Whu ps _ _ _ _ h5;simp only[Wew];omega
 | .clos g n::ps,d,vs,ns,ks,⟨cvs,vs',h1,h2,h3,h4⟩=>by rw[h1,Xr];have:=Whu ps _ _ _ _ h4;simp at this;simp only[Wew];omega
 | .kv t agg::ps,d,vs,ns,ks,⟨v,vs',n1,n2,ks',h1,h2,h2',h3,h4⟩=>by rw[h1,Xr];have:=Whu ps _ _ _ _ h4;simp only[Wew];omega
 | .rp t::ps,d,vs,ns,ks,⟨b,o,us,vs',h1,h2,h3,h4⟩=>by rw[h1,Xr];have:=Whu ps _ _ _ _ h4;simp only[Wew];omega
 | .vj _::_,_,_,_,_,h=>h.elim
 | .boxal t lf::ps,d,vs,ns,ks,⟨b,o,b',pc,vs',n1,n2,ks',h1,h2,h3,h4,h5,h6,h7,h8⟩=>by rw[h1,Xr,Xr];have:=Whu ps _ _ _ _ h8;simp only[Wew];omega
def headV(i:Nat)(vs:List Value):List (Nat×Value):=match vs with
 |v::_=>[(i,v)]
 | []=>[]
def Wu:List PTy→Nat→Nat→List Value→List (Nat×Value)
 | [],_,_,_=>[]
 |_::ps,i,k+1,vs=>Wu ps i k vs
 | .v _ _::ps,i,0,vs=>Wu ps (i+1) 0 vs.tail
 | .box _::ps,i,0,vs=>headV i vs++Wu ps (i+1) 0 vs.tail
 | .mut _::ps,i,0,vs=>headV i vs++Wu ps (i+1) 0 vs.tail
 | .clos _ n::ps,i,0,vs=>headV i vs++Wu ps (i+1) n vs.tail
 | .kv _ _::ps,i,0,vs=>headV i vs++Wu ps (i+1) 0 vs.tail
 | .rp _::ps,i,0,vs=>Wu ps (i+1) 0 vs.tail
 | .vj _::ps,i,0,vs=>Wu ps (i+1) 0 vs.tail
 | .boxal _ _::ps,i,0,vs=>headV i vs++Wu ps (i+2) 0 vs.tail.tail
theorem Wdv{i:Nat}{vs:List Value}{p:Nat×Value}(h:p∈headV i vs):p.1=i∧vs[0]?=some p.2:=by
 unfold headV at h
 split at h
 ·simp at h;subst h;exact⟨rfl,rfl⟩
 ·cases h
theorem Waj:∀(ps:List PTy) (i k:Nat) (vs:List Value),∀p∈Wu ps i k vs,p.1∈Wjy ps i k
 | [],_,_,_,p,h=>by simp[Wu]at h
 | .v _ _::ps,i,k+1,vs,p,h=>Waj ps i k vs p h
 | .box _::ps,i,k+1,vs,p,h=>Waj ps i k vs p h
 | .mut _::ps,i,k+1,vs,p,h=>Waj ps i k vs p h
 | .clos _ _::ps,i,k+1,vs,p,h=>Waj ps i k vs p h
 | .v _ _::ps,i,0,vs,p,h=>Waj ps (i+1) 0 vs.tail p h
 | .box _::ps,i,0,vs,p,h=>by
  simp only[Wu]at h
  rcases Xn.1 h with h|h
  ·rw[(Wdv h).1];exact Xi ..
  ·exact Xe _ (Waj ps (i+1) 0 vs.tail p h)
 | .mut _::ps,i,0,vs,p,h=>by
  simp only[Wu]at h
  rcases Xn.1 h with h|h
  ·rw[(Wdv h).1];exact Xi ..
  ·exact Xe _ (Waj ps (i+1) 0 vs.tail p h)
 | .clos _ n::ps,i,0,vs,p,h=>by
  simp only[Wu]at h
  rcases Xn.1 h with h|h
  ·rw[(Wdv h).1];exact Xi ..
  ·exact Xe _ (Waj ps (i+1) n vs.tail p h)
 | .kv _ _::ps,i,k+1,vs,p,h=>Waj ps i k vs p h
 | .kv _ _::ps,i,0,vs,p,h=>by
  simp only[Wu]at h
  rcases Xn.1 h with h|h
  ·rw[(Wdv h).1];exact Xi ..
  ·exact Xe _ (Waj ps (i+1) 0 vs.tail p h)
 | .rp _::ps,i,k+1,vs,p,h=>Waj ps i k vs p h
 | .rp _::ps,i,0,vs,p,h=>Waj ps (i+1) 0 vs.tail p h
 | .vj _::ps,i,k+1,vs,p,h=>Waj ps i k vs p h
 | .vj _::ps,i,0,vs,p,h=>Waj ps (i+1) 0 vs.tail p h
 | .boxal _ _::ps,i,k+1,vs,p,h=>Waj ps i k vs p h
 | .boxal _ _::ps,i,0,vs,p,h=>by
  simp only[Wu]at h
  rcases Xn.1 h with h|h
  ·rw[(Wdv h).1];exact Xi ..
  ·exact Xe _ (Waj ps (i+2) 0 vs.tail.tail p h)
theorem Wac:∀(ps:List PTy) (i k:Nat) (vs:List Value),∀p∈Wu ps i k vs,i≤p.1∧vs[p.1-i]?=some p.2
 | [],_,_,_,p,h=>by simp[Wu]at h
 | .v _ _::ps,i,k+1,vs,p,h=>Wac ps i k vs p h
 | .box _::ps,i,k+1,vs,p,h=>Wac ps i k vs p h
 | .mut _::ps,i,k+1,vs,p,h=>Wac ps i k vs p h
 | .clos _ _::ps,i,k+1,vs,p,h=>Wac ps i k vs p h
 | .v _ _::ps,i,0,vs,p,h=>by
  obtain⟨h1,h2⟩:=Wac ps (i+1) 0 vs.tail p h
  refine⟨by omega,?_⟩
  rw[show p.1-i=(p.1-(i+1))+1 by omega,←Xcg];exact h2
 | .box _::ps,i,0,vs,p,h=>by
  simp only[Wu]at h
  rcases Xn.1 h with h|h
  ·obtain⟨h1,h2⟩:=Wdv h
   rw[h1];exact⟨Xm _,by rw[Xcy];exact h2⟩
  ·obtain⟨h1,h2⟩:=Wac ps (i+1) 0 vs.tail p h
   refine⟨by omega,?_⟩
   rw[show p.1-i=(p.1-(i+1))+1 by omega,←Xcg];exact h2
 | .mut _::ps,i,0,vs,p,h=>by
  simp only[Wu]at h
  rcases Xn.1 h with h|h
  ·obtain⟨h1,h2⟩:=Wdv h
   rw[h1];exact⟨Xm _,by rw[Xcy];exact h2⟩
  ·obtain⟨h1,h2⟩:=Wac ps (i+1) 0 vs.tail p h
   refine⟨by omega,?_⟩
   rw[show p.1-i=(p.1-(i+1))+1 by omega,←Xcg];exact h2
 | .clos _ n::ps,i,0,vs,p,h=>by
  simp only[Wu]at h
  rcases Xn.1 h with h|h
  ·obtain⟨h1,h2⟩:=Wdv h
   rw[h1];exact⟨Xm _,by rw[Xcy];exact h2⟩
  ·obtain⟨h1,h2⟩:=Wac ps (i+1) n vs.tail p h
   refine⟨by omega,?_⟩
   rw[show p.1-i=(p.1-(i+1))+1 by omega,←Xcg];exact h2
 | .kv _ _::ps,i,k+1,vs,p,h=>Wac ps i k vs p h
 | .kv _ _::ps,i,0,vs,p,h=>by
  simp only[Wu]at h
  rcases Xn.1 h with h|h
  ·obtain⟨h1,h2⟩:=Wdv h
   rw[h1];exact⟨Xm _,by rw[Xcy];exact h2⟩
  ·obtain⟨h1,h2⟩:=Wac ps (i+1) 0 vs.tail p h
   refine⟨by omega,?_⟩
   rw[show p.1-i=(p.1-(i+1))+1 by omega,←Xcg];exact h2
 | .rp _::ps,i,k+1,vs,p,h=>Wac ps i k vs p h
 | .rp _::ps,i,0,vs,p,h=>by
  obtain⟨h1,h2⟩:=Wac ps (i+1) 0 vs.tail p h
  refine⟨by omega,?_⟩
  rw[show p.1-i=(p.1-(i+1))+1 by omega,←Xcg];exact h2
 | .vj _::ps,i,k+1,vs,p,h=>Wac ps i k vs p h
 | .vj _::ps,i,0,vs,p,h=>by
  obtain⟨h1,h2⟩:=Wac ps (i+1) 0 vs.tail p h
  refine⟨by omega,?_⟩
  rw[show p.1-i=(p.1-(i+1))+1 by omega,←Xcg];exact h2
 | .boxal _ _::ps,i,k+1,vs,p,h=>Wac ps i k vs p h
 | .boxal _ _::ps,i,0,vs,p,h=>by
  simp only[Wu]at h
  rcases Xn.1 h with h|h
  ·obtain⟨h1,h2⟩:=Wdv h
   rw[h1];exact⟨Xm _,by rw[Xcy];exact h2⟩
  ·obtain⟨h1,h2⟩:=Wac ps (i+2) 0 vs.tail.tail p h
   refine⟨by omega,?_⟩
   rw[show p.1-i=(p.1-(i+2))+1+1 by omega,←Xcg,←Xcg];exact h2
def retOne(tmps:Array Value):ResultVar→Sem Value
 | .tmp t=>pure (tmps.getD t undef)
 | .cell b t=>do loadVar t (←asAddr (tmps.getD b undef))
theorem Wzq(hT:Wbj P T)(hr:Rel w0 F nt G0 G ν st a w):∀(l:List ResultVar) (xs:List AVal),Wkr T st l=some xs→
  ∃vs:List Value,(l.mapM (retOne a.tmps)).run P w= .ok vs w∧vs.length=xs.length∧
   ∀(j:Nat) (x:AVal) (v:Value),xs[j]?=some x→vs[j]?=some v→AValRel G ν st.nx x v
 | [],xs,h=>by
  simp only[Wkr]at h
  injection h with h;subst h
  exact⟨[],by simp,rfl,λj x v hj=>by simp at hj⟩
 | .tmp t::l,xs,h=>by
  simp only[Wkr]at h
  split at h
  ·rename_i x xs' h1 h2
   injection h with h;subst h
   obtain⟨vs,h3,h4,h5⟩:=Wzq hT hr l xs' h2
   obtain⟨v,hv,hx⟩:=hr.env t x h1
   refine⟨v::vs,?_,by simp[h4],λj y u hj hu=>?_⟩
   ·have hget:a.tmps.getD t undef=v:=by simp[Xcm,hv]
    simp only[Xfd,Sem.run_bind,retOne,Sem.run_pure,Result.andThen_ok,h3,hget]
   ·cases j with
    |zero=>simp at hj hu;subst hj hu;exact hx
    |succ j=>exact h5 j y u (by simpa using hj) (by simpa using hu)
  ·cases h
 | .cell b t::l,xs,h=>by
  simp only[Wkr]at h
  split at h
  ·rename_i x xs' h1 h2
   injection h with h;subst h
   obtain⟨vs,h3,h4,h5⟩:=Wzq hT hr l xs' h2
   cases hb:look st.env b with
   |none=>simp[hb]at h1
   |some y=>
    simp only[hb,Xc]at h1
    obtain⟨v,hv,hx⟩:=hr.env b y hb
    obtain⟨u,hu,hux⟩:=Wrh hT hr.h hx h1
    refine⟨u::vs,?_,by simp[h4],λj z q hj hq=>?_⟩
    ·have hget:a.tmps.getD b undef=v:=by simp[Xcm,hv]
     unfold Instr.loadAt at hu
     rw[Sem.run_bind]at hu
     obtain⟨p,rfl⟩:∃p,v= .pointer (some p):=by
      unfold Instr.sureAddr at hu
      split at hu
      ·exact⟨_,rfl⟩
      ·simp[stuck]at hu
     simp only[Instr.sureAddr,Sem.run_pure,Result.andThen_ok]at hu
     have ha:(asAddr (.pointer (some p))).run P w= .ok p w:=rfl
     simp only[Xfd,Sem.run_bind,retOne,Sem.run_pure,Result.andThen_ok,hget,ha,hu,h3]
    ·cases j with
     |zero=>simp at hj hq;subst hj hq;exact hux
     |succ j=>exact h5 j z q (by simpa using hj) (by simpa using hq)
  ·cases h
theorem Wju(h:HR w0 F G ν φ objs nx w)(hg:GLe G G'):∀(rs:List PTy) (xs:List AVal) (vs:List Value) (A:Outs (RDen rs)),vs.length=xs.length→
  (∀(j:Nat) (x:AVal) (v:Value),xs[j]?=some x→vs[j]?=some v→AValRel G ν nx x v)→Lent G' w φ objs A.lent→A.moved.Nodup→Wdb rs xs objs=some A→
  ∃ns,Woa G' w rs A.d vs ns∧Sep (fps ns)∧(∀q∈ns,CS.le q.fp (FromL φ objs A.moved))∧(∀i∈A.moved,Live objs i)
 | [],xs,vs,A,hlen,hx,hl,hnd,hf=>by
  simp only[Wdb]at hf
  split at hf
  ·injection hf with hf;subst hf
   have hvs:vs= []:=Xy (by simpa using hlen)
   exact⟨[],⟨hvs,rfl⟩,List.Pairwise.nil,by simp,by simp⟩
  ·cases hf
 | .v t agg::rs,xs,vs,A,hlen,hx,hl,hnd,hf=>by
  simp only[Wdb]at hf
  split at hf
  ·rename_i x xs
   split at hf
   ·rename_i d m l A' h1 h2
    injection hf with hf;subst hf
    match vs,hlen with
    |v::vs,hlen=>
     cases hc:cellsOf agg x with
     |none=>simp[hc]at h1
     |some cs=>
      simp[hc]at h1
      obtain⟨k1,k2,k3⟩:=Xak.1 hnd
      obtain⟨n1,g1,g2,g3,g4,_⟩:=Wyi h hg (hx 0 x v rfl rfl) (hl.mono (λi hi=>Xk _ hi)) k1 hc h1
      obtain⟨n2,g5,g6,g7,g8⟩:=Wju h hg rs xs vs A' (by simpa using hlen) (λj y u hj hu=>hx (j+1) y u (by simpa using hj) (by simpa using hu)) (hl.mono (λi hi=>Xg _ hi)) k2 h2
      refine⟨n1++n2,⟨v,vs,n1,n2,rfl,rfl,g1,g5⟩,Wfy h g2 g6 g3 g7 (λi hi hj=>k3 i hi i hj rfl),λq hq=>?_,λi hi=>?_⟩
      ·rcases Xn.1 hq with hq|hq
       ·exactλb o hh=>FromL.mono (λi hi=>Xk _ hi) b o (g3 q hq b o hh)
       ·exactλb o hh=>FromL.mono (λi hi=>Xg _ hi) b o (g7 q hq b o hh)
      ·rcases Xn.1 hi with hi|hi
       ·exact g4 i hi
       ·exact g8 i hi
   ·cases hf
  ·cases hf
 | .box t::rs,xs,vs,A,hlen,hx,hl,hnd,hf=>by
  simp only[Wdb]at hf
  split at hf
  ·rename_i id xs
   split at hf
   ·rename_i cs hlo
    split at hf
    ·rename_i d m l A' h1 h2
     injection hf with hf;subst hf
     match vs,hlen with
     |v::vs,hlen=>
      obtain⟨k0,k1⟩:=Xai.1 hnd
      obtain⟨k2,k3,k4⟩:=Xak.1 k1
      obtain⟨⟨_,b,hνb,rfl⟩,_⟩:=hx 0 _ v rfl rfl
      have hlv:Live objs id:=⟨_,hlo,by simp⟩
      obtain⟨b'',us,hb'',hrow,hmem,hcs,hrs⟩:Wgn G ν nx w id (φ id) (.box cs):=h.ob _ _ hlo
      rw[hνb]at hb'';injection hb'' with hb'';subst hb''
      obtain⟨n1,g1,g2,g3,g4,_⟩:=Wbg h hg t cs us d m l hcs (hl.mono (λi hi=>Xk _ hi)) k2 h1
      have hul:cs.length=t.size:=by rw[←hcs.1];exact Wp _ _ _ _ g1
      obtain⟨n2,g5,g6,g7,g8⟩:=Wju h hg rs xs vs A' (by simpa using hlen) (λj y u hj hu=>hx (j+1) y u (by simpa using hj) (by simpa using hu)) (hl.mono (λi hi=>Xg _ hi)) k3 h2
      rw[hul]at hrow hrs
      refine⟨⟨Wfr b ((ν id).off+0),rng b ((ν id).off+0) t.size⟩::(n1++n2),⟨b,(ν id).off+0,vs,n1,n2,rfl,rfl,⟨us,hrow,hmem,g1⟩,g5⟩,?_,λq hq=>?_,λi hi=>?_⟩
      ·refine Wfy h (n1:=[⟨Wfr b ((ν id).off+0),rng b ((ν id).off+0) t.size⟩]) (m:=[id]) (l:=m++A'.moved) (Xbi _ _) (Wfy h g2 g6 g3 g7 (λi hi hj=>k4 i hi i hj rfl)) (λq hq=>?_) (λq hq=>?_) (λi hi hj=>k0 (by rw[←Xac.1 hi];exact hj))
       ·rw[Xac.1 hq];exactλb o hh=>⟨id,by simp,hlv,hrs b o hh⟩
       ·rcases Xn.1 hq with hq|hq
        ·exactλb o hh=>FromL.mono (λi hi=>Xk _ hi) b o (g3 q hq b o hh)
        ·exactλb o hh=>FromL.mono (λi hi=>Xg _ hi) b o (g7 q hq b o hh)
      ·rcases Xo.1 hq with rfl|hq
       ·exactλb o hh=>⟨id,by simp,hlv,hrs b o hh⟩
       ·rcases Xn.1 hq with hq|hq
        ·exactλb o hh=>FromL.mono (λi hi=>Xe _ (Xk _ hi)) b o (g3 q hq b o hh)
        ·exactλb o hh=>FromL.mono (λi hi=>Xe _ (Xg _ hi)) b o (g7 q hq b o hh)
      ·rcases Xo.1 hi with rfl|hi
       ·exact hlv
       ·rcases Xn.1 hi with hi|hi
        ·exact g4 i hi
        ·exact g8 i hi
    ·cases hf
   ·cases hf
  ·cases hf
 | .mut _::_,_,_,_,_,_,_,_,h=>by simp only[Wdb]at h;cases h
 | .clos _ _::_,_,_,_,_,_,_,_,h=>by simp only[Wdb]at h;cases h
 | .kv _ _::_,_,_,_,_,_,_,_,h=>by simp only[Wdb]at h;cases h
 | .rp _::_,_,_,_,_,_,_,_,h=>by simp only[Wdb]at h;cases h
 | .vj t::rs,xs,vs,A,hlen,hx,hl,hnd,hf=>by
  simp only[Wdb]at hf
  split at hf
  ·rename_i cs xs
   split at hf
   ·rename_i hcl
    split at hf
    ·rename_i d m l A' h1 h2
     injection hf with hf;subst hf
     match vs,hlen with
     |v::vs,hlen=>
      obtain⟨k1,k2,k3⟩:=Xak.1 hnd
      obtain⟨us,rfl,hcs⟩:=hx 0 _ v rfl rfl
      obtain⟨n1,g1,g2,g3,g4,_⟩:=Wbg h hg t (cs.take t.size) (us.take t.size) d m l (hcs.take t.size) (hl.mono (λi hi=>Xk _ hi)) k1 h1
      obtain⟨n2,g5,g6,g7,g8⟩:=Wju h hg rs xs vs A' (by simpa using hlen) (λj y u hj hu=>hx (j+1) y u (by simpa using hj) (by simpa using hu)) (hl.mono (λi hi=>Xg _ hi)) k2 h2
      have hul:us.length=t.size+1:=by rw[hcs.1,hcl]
      have hlt:t.size<us.length:=by omega
      have e0:us=us.take t.size++ [us[t.size]]:=by
       rw[←List.take_succ_eq_append_getElem hlt,Xcx (by omega)]
      have ho:=(hcs.2 t.size (cs[t.size]'(by omega)) us[t.size] (Xs (by omega)) (Xs hlt)).2
      refine⟨n1++n2,⟨us.take t.size,us[t.size],vs,n1,n2,by rw[←e0],ho,rfl,g1,g5⟩,Wfy h g2 g6 g3 g7 (λi hi hj=>k3 i hi i hj rfl),λq hq=>?_,λi hi=>?_⟩
      ·rcases Xn.1 hq with hq|hq
       ·exactλb o hh=>FromL.mono (λi hi=>Xk _ hi) b o (g3 q hq b o hh)
       ·exactλb o hh=>FromL.mono (λi hi=>Xg _ hi) b o (g7 q hq b o hh)
      ·rcases Xn.1 hi with hi|hi
       ·exact g4 i hi
       ·exact g8 i hi
    ·cases hf
   ·cases hf
  ·cases hf
 | .boxal _ _::_,_,_,_,_,_,_,_,h=>by simp only[Wdb]at h;cases h
theorem boxesN_tail{p:PTy}{ps:List PTy}{k:Nat}(h:Wwo (p::ps) (k+1)=true):(∃t,p= .box t)∧Wwo ps k=true:=by
 cases p with
 |box t=>exact⟨⟨t,rfl⟩,h⟩
 |_=>cases h
theorem Wpf(hr:Rel w0 F nt G0 G ν st a w){i:Nat}{u:Value}(hp:a.tmps[i]?=some u):(look st.env i).getD (.tup [])= .tup []∨AValRel G ν st.nx ((look st.env i).getD (.tup [])) u:=by
 cases he:look st.env i with
 |none=>exact .inl rfl
 |some y=>
  obtain⟨v,hv,hx⟩:=hr.env i y he
  rw[hp]at hv;injection hv with hv;subst hv
  exact .inr hx
theorem Wcc{wb:World}{Gb:GH}(hr:Rel w0 F nt G0 G ν st a w):∀(ps:List PTy) (d:PDen ps) (vs:List Value) (ns:List Pc) (ks:List Nu) (i k:Nat),Wdp Gb wb ps d vs ns ks→Wgf ps=true→Wwo ps k=true→k≤vs.length→
  (∀p∈Wu ps i k (vs.drop k),a.tmps[p.1]?=some p.2)→(Wl ps i k st).length+k=vs.length∧
  ∀(j:Nat) (x:AVal) (v:Value),(Wl ps i k st)[j]?=some x→vs[k+j]?=some v→x= .tup []∨AValRel G ν st.nx x v
 | [],d,vs,ns,ks,i,k,⟨h1,_,_⟩,_,_,hk,_=>by
  subst h1
  have:k=0:=by simpa using hk
  subst this
  exact⟨rfl,λj x v hj=>by simp[Wl]at hj⟩
 |p::ps,d,vs,ns,ks,i,k+1,h,hc,hb,hk,hp=>by
  obtain⟨⟨t,rfl⟩,hb'⟩:=boxesN_tail hb
  obtain⟨b,o,vs',n1,n2,ks',h1,h2,h3,h4,h6⟩:=h
  subst h1
  have hc':Wgf ps=true:=hc
  obtain⟨e1,e2⟩:=Wcc hr ps d.2 vs' n2 ks' i k h6 hc' hb' (by simpa using hk) (by simpa [Wu]using hp)
  refine⟨by simp only[Wl,Xr];omega,λj x v hj hv=>e2 j x v (by simpa [Wl]using hj) ?_⟩
  rw[show k+1+j=(k+j)+1 by omega]at hv
  simpa using hv
 | .v t agg::ps,d,vs,ns,ks,i,0,⟨v,vs',n1,n2,h1,h2,h3,h4⟩,hc,_,_,hp=>by
  subst h1
  obtain⟨e1,e2⟩:=Wcc hr ps d.2 vs' n2 ks (i+1) 0 h4 hc (by cases ps<;>rfl) (Xbo _) (by simpa [Wu]using hp)
  refine⟨by simp only[Wl,Xr];omega,λj x u hj hu=>?_⟩
  cases j with
  |zero=>simp[Wl]at hj;exact .inl hj.symm
  |succ j=>exact e2 j x u (by simpa [Wl]using hj) (by simpa using hu)
 | .rp t::ps,d,vs,ns,ks,i,0,⟨b,o,us,vs',h1,h2,h3,h4⟩,hc,_,_,hp=>by
  subst h1
  obtain⟨e1,e2⟩:=Wcc hr ps d.2 vs' ns ks (i+1) 0 h4 hc (by cases ps<;>rfl) (Xbo _) (by simpa [Wu]using hp)
  refine⟨by simp only[Wl,Xr];omega,λj x u hj hu=>?_⟩
  cases j with
  |zero=>simp[Wl]at hj;exact .inl hj.symm
  |succ j=>exact e2 j x u (by simpa [Wl]using hj) (by simpa using hu)
 | .box t::ps,d,vs,ns,ks,i,0,⟨b,o,vs',n1,n2,ks',h1,h2,h3,h4,h6⟩,hc,_,_,hp=>by
  subst h1
  simp only[Wu,Xcc,Xeh]at hp
  obtain⟨e1,e2⟩:=Wcc hr ps d.2 vs' n2 ks' (i+1) 0 h6 hc (by cases ps<;>rfl) (Xbo _) (λp hpp=>hp p (Xg _ (by simpa using hpp)))
  refine⟨by simp only[Wl,Xr];omega,λj x u hj hu=>?_⟩
  cases j with
  |zero=>
   simp[Wl]at hj hu
   subst hj hu
   exact Wpf hr (hp (i,_) (Xk _ (Xi ..)))
  |succ j=>exact e2 j x u (by simpa [Wl]using hj) (by simpa using hu)
 | .vj _::_,_,_,_,_,_,_,h,_,_,_,_=>h.elim
 | .boxal t lf::ps,d,vs,ns,ks,i,0,⟨b,o,b',pc,vs',n1,n2,ks',h1,h2,h3,h4,h5,h6,h7,h8⟩,hc,_,_,hp=>by
  subst h1
  simp only[Wu,Xcc,Xeh]at hp
  obtain⟨e1,e2⟩:=Wcc hr ps d.2.2 vs' n2 ks' (i+2) 0 h8 hc (by cases ps<;>rfl) (Xbo _) (λp hpp=>hp p (Xg _ (by simpa using hpp)))
  refine⟨by simp only[Wl,Xr];omega,λj x u hj hu=>?_⟩
  match j with
  |0=>
   simp[Wl]at hj hu
   subst hj hu
   exact Wpf hr (hp (i,_) (Xk _ (Xi ..)))
  |1=>simp[Wl]at hj;exact .inl hj.symm
  |j+2=>exact e2 j x u (by simpa [Wl]using hj) (by simpa using hu)
 | .mut e::ps,d,vs,ns,ks,i,0,⟨pc,vs',n2,ks',h1,h2,h3,h4,h5⟩,hc,_,_,hp=>by
  subst h1
  simp only[Wu,Xcc,Xeh]at hp
  obtain⟨e1,e2⟩:=Wcc hr ps d.2 vs' n2 ks' (i+1) 0 h5 hc (by cases ps<;>rfl) (Xbo _) (λp hpp=>hp p (Xg _ (by simpa using hpp)))
  refine⟨by simp only[Wl,Xr];omega,λj x u hj hu=>?_⟩
  cases j with
  |zero=>
   simp[Wl]at hj hu
   subst hj hu
   exact Wpf hr (hp (i,_) (Xk _ (Xi ..)))
  |succ j=>exact e2 j x u (by simpa [Wl]using hj) (by simpa using hu)
 | .clos g n::ps,d,vs,ns,ks,i,0,⟨cvs,vs',h1,h2,h3,h4⟩,hc,_,_,hp=>by
  subst h1
  simp only[Wgf,Xh]at hc
  simp only[Wu,Xcc,Xeh]at hp
  obtain⟨e1,e2⟩:=Wcc hr ps d (cvs++vs') ns ks (i+1) n h4 hc.2 hc.1 (by simp[h2]) (λp hpp=>hp p (Xg _ (by rw[List.drop_left' h2]at hpp;exact hpp)))
  refine⟨by simp only[Wl,Xr];simp at e1;omega,λj x u hj hu=>?_⟩
  cases j with
  |zero=>
   simp[Wl]at hj hu
   subst hj hu
   exact Wpf hr (hp (i,_) (Xk _ (Xi ..)))
  |succ j=>exact e2 j x u (by simpa [Wl]using hj) (by rw[Xaw (by omega),h2,Xbd];simpa using hu)
 | .kv t agg::ps,d,vs,ns,ks,i,0,⟨v,vs',n1,n2,ks',h1,h2,h2',h3,h4⟩,hc,_,_,hp=>by
  subst h1
  simp only[Wu,Xcc,Xeh]at hp
  obtain⟨e1,e2⟩:=Wcc hr ps d.2 vs' n2 ks' (i+1) 0 h4 hc (by cases ps<;>rfl) (Xbo _) (λp hpp=>hp p (Xg _ (by simpa using hpp)))
  refine⟨by simp only[Wl,Xr];omega,λj x u hj hu=>?_⟩
  cases j with
  |zero=>
   simp[Wl]at hj hu
   subst hj hu
   exact Wpf hr (hp (i,_) (Xk _ (Xi ..)))
  |succ j=>exact e2 j x u (by simpa [Wl]using hj) (by simpa using hu)
theorem hdr_same{G G':GH}{wb w:World}{nu nu':Nu}{e:Ty}{xs ys:List e.den}{S S':CS}(h4:OwnL wb (TyRel G wb e) e.size nu xs S)(hown:OwnL w (TyRel G' w e) e.size nu' ys S')(hx:nu.hdr=nu'.hdr):OwnL w (TyRel G' w e) e.size nu ys S':=by
 unfold Nu.hdr at hx
 cases hb:nu'.blk with
 |none=>
  cases hb':nu.blk with
  |some b=>simp[hb,hb']at hx
  |none=>
   have k1:=Wgh h4 hb'
   have k2:=Wgh hown hb
   refine⟨by rw[k2,←h4.1,k1],h4.2.1,?_⟩
   simp only[hb'];exact k2
 |some b=>
  cases hb':nu.blk with
  |none=>simp[hb,hb']at hx
  |some b'=>
   simp only[hb,hb']at hx
   injection hx with x1 x2 x3
   injection x1 with x1;injection x1 with x1 x4 _
   have e1:=h4.2.1
   have e2:=hown.2.1
   have:nu=nu':=by
    obtain⟨a1,a2,a3,a4,a5⟩:=nu
    obtain⟨b1,b2,b3,b4,b5⟩:=nu'
    simp only at hb hb' x1 x2 x3 x4 e1 e2
    subst hb hb' x1 x2 x3 x4
    rw[e1,e2]
   rw[this];exact hown
theorem Wls{G G':GH}{wb w:World}:∀(t:Ty) (d0 d:t.den) (us:List Value) (n1 n2:List Pc),TyRel G wb t d0 us n1→TyRel G' w t d us n2→∃n3,TyRel G' w t d us n3∧nus n3=nus n1∧fps n3=fps n2
 | .own e,d0,d,us,n1,n2,⟨pc,h1,h2,h3⟩,⟨pc',g1,g2,g3⟩=>by
  subst h1 g1
  have hx:pc.nu.hdr=pc'.nu.hdr:=by rw[h2]at g2;simpa using g2
  exact⟨[⟨pc.nu,pc'.fp⟩],⟨_,rfl,h2,hdr_same h3 g3 hx⟩,rfl,rfl⟩
 | .prod a b,d0,d,us,n1,n2,⟨v1,v2,m1,m2,h1,h2,h3,h4⟩,⟨u1,u2,k1,k2,g1,g2,g3,g4⟩=>by
  have l1:=Wp a _ _ _ h3
  have l2:=Wp a _ _ _ g3
  obtain⟨q1,q2⟩:=List.append_inj (h1.symm.trans g1) (by rw[l1,l2])
  subst q1 q2 h2 g2
  obtain⟨a1,a2,a3,a4⟩:=Wls a _ _ _ _ _ h3 g3
  obtain⟨b1,b2,b3,b4⟩:=Wls b _ _ _ _ _ h4 g4
  exact⟨a1++b1,⟨_,_,a1,b1,h1,rfl,a2,b2⟩,by unfold nus at a3 b3⊢;rw[Xp,Xp,a3,b3],by unfold fps at a4 b4⊢;rw[Xp,Xp,a4,b4]⟩
 | .int _,d0,d,us,n1,n2,h,g=>by obtain⟨h1,_⟩:=h;obtain⟨g1,g2⟩:=g;subst h1 g1;exact⟨[],⟨rfl,g2⟩,rfl,rfl⟩
 | .bool,d0,d,us,n1,n2,h,g=>by obtain⟨h1,_⟩:=h;obtain⟨g1,g2⟩:=g;subst h1 g1;exact⟨[],⟨rfl,g2⟩,rfl,rfl⟩
 | .str,d0,d,us,n1,n2,h,g=>by obtain⟨h1,_⟩:=h;obtain⟨g1,g2⟩:=g;subst h1 g1;exact⟨[],⟨rfl,g2⟩,rfl,rfl⟩
 | .slice _,d0,d,us,n1,n2,h,g=>by obtain⟨h1,_⟩:=h;obtain⟨g1,g2⟩:=g;subst h1 g1;exact⟨[],⟨rfl,g2⟩,rfl,rfl⟩
theorem VRel_swap{G G':GH}{wb w:World}{t:Ty}{agg:Bool}{d0 d:t.den}{v:Value}{n1 n2:List Pc}(h:VRel G wb t agg d0 v n1)(g:VRel G' w t agg d v n2):∃us n3,TyRel G' w t d us n3∧nus n3=nus n1∧fps n3=fps n2:=by
 unfold VRel at h g
 split at h
 ·rename_i ha
  rw[if_pos ha]at g
  obtain⟨us,h1,h2⟩:=h
  obtain⟨us',g1,g2⟩:=g
  have:us=us':=by
   rw[h1]at g1
   injection g1 with g1
   have:=congrArg Array.toList g1
   simpa using this
  subst this
  exact⟨us,Wls _ _ _ _ _ _ h2 g2⟩
 ·rename_i ha
  rw[if_neg ha]at g
  exact⟨_,Wls _ _ _ _ _ _ h g⟩
structure OOk(G':GH)(φ:Nat→CS)(objs:Objs)(w:World)(ps:List PTy)(B:OutK (ODen ps))(ks:List Nu)(kf:List CS)(ms:List Pc):Prop where
 outs:Wei G' w ps B.d ks kf ms
 sepk:Sep kf
 sepm:Sep (fps ms)
 kf:∀S∈kf,CS.le S (FromL φ objs B.kept)
 ms:∀q∈ms,CS.le q.fp (FromL φ objs B.moved)
theorem sepK(h:HR w0 F G ν φ objs nx w){k1 k2:List CS}{m l:List Nat}(h1:Sep k1)(h2:Sep k2)(g1:∀S∈k1,CS.le S (FromL φ objs m))(g2:∀S∈k2,CS.le S (FromL φ objs l))(hd:∀i∈m,i∉l):Sep (k1++k2):=
 Sep_app h1 h2 (A:=FromL φ objs m) (B:=FromL φ objs l) g1 g2 (FromL.disj h hd)
theorem Wrm{wb:World}{Gb:GH}(hg:GLe G G')(h:HR w0 F G ν φ objs nx w){t:Ty}{ps:List PTy}{id b o:Nat}{cs:List Cell}{dd:t.den}{m l:List Nat}{A:OutK (ODen ps)}{ks:List Nu}{kf:List CS}{ms:List Pc}
  (hx:CellRel G ν nx (.ptr id 0) (.pointer (some ⟨b,o,none⟩))) (ho:look objs id=some (.box cs)) (g1:Wbr t cs objs=some (dd,m,l)) (hl:Lent G' w φ objs l) (hk:(id::A.kept).Nodup) (hm:(m++A.moved).Nodup) (hA:OOk G' φ objs w ps A ks kf ms):
  ∃nn,Wmw G' w t dd b o nn∧Sep (rng b o t.size::kf)∧Sep (fps (nn++ms))∧(∀S∈rng b o t.size::kf,CS.le S (FromL φ objs (id::A.kept)))∧(∀q∈nn++ms,CS.le q.fp (FromL φ objs (m++A.moved))):=by
 obtain⟨_,b',hb1,hb2⟩:=hx
 injection hb2 with hb2;injection hb2 with hb2;injection hb2 with hb2 ho2 _
 subst hb2 ho2
 have hlv:Live objs id:=⟨_,ho,by simp⟩
 obtain⟨b'',us,hb3,hrow,hmem,hcs,hrs⟩:Wgn G ν nx w id (φ id) (.box cs):=h.ob _ _ ho
 rw[hb1]at hb3;injection hb3 with hb3;subst hb3
 obtain⟨k1,k2⟩:=Xai.1 hk
 obtain⟨k3,k4,k5⟩:=Xak.1 hm
 obtain⟨nn,e1,e2,e3,_⟩:=Wbg h hg t cs us dd m l hcs hl k3 g1
 have hul:cs.length=t.size:=by rw[←hcs.1];exact Wp _ _ _ _ e1
 rw[hul]at hrow hrs
 have hrφ:CS.le (rng b ((ν id).off+0) t.size) (FromL φ objs [id]):=λb o hh=>⟨id,by simp,hlv,hrs b o hh⟩
 refine⟨nn,⟨us,hrow,hmem,e1⟩,?_,Wfy h e2 hA.sepm e3 hA.ms (λi hi hj=>k5 i hi i hj rfl),λS hS=>?_,λq hq=>?_⟩
 ·exact sepK h (k1:=[rng b ((ν id).off+0) t.size]) (m:=[id]) (Xbi _ _) hA.sepk (λS hS=>by rw[Xac.1 hS];exact hrφ) hA.kf (λi hi hj=>k1 (by rw[←Xac.1 hi];exact hj))
 ·rcases Xo.1 hS with rfl|hS
  ·exactλb o hh=>FromL.mono (λi hi=>by rw[Xac.1 hi];exact Xi ..) b o (hrφ b o hh)
  ·exactλb o hh=>FromL.mono (λi hi=>Xe _ hi) b o (hA.kf S hS b o hh)
 ·rcases Xn.1 hq with hq|hq
  ·exactλb o hh=>FromL.mono (λi hi=>Xk _ hi) b o (e3 q hq b o hh)
  ·exactλb o hh=>FromL.mono (λi hi=>Xg _ hi) b o (hA.ms q hq b o hh)
theorem Wcq{wb:World}{Gb:GH}(hg:GLe G G')(h:HR w0 F G ν φ objs nx w):∀(ps:List PTy) (d:PDen ps) (vs:List Value) (ns:List Pc) (ks:List Nu) (xs:List AVal) (B:OutK (ODen ps)),Wdp Gb wb ps d vs ns ks→xs.length=vs.length→
  (∀(j:Nat) (x:AVal) (v:Value),xs[j]?=some x→vs[j]?=some v→x= .tup []∨AValRel G ν nx x v)→Lent G' w φ objs B.lent→B.kept.Nodup→B.moved.Nodup→War ps xs objs=some B→
  ∃kf ms,OOk G' φ objs w ps B ks kf ms
 | [],d,vs,ns,ks,xs,B,⟨_,_,hk⟩,_,_,_,_,_,hf=>by
  simp only[War]at hf;injection hf with hf;subst hf
  exact⟨[],[],⟨hk,rfl,rfl⟩,List.Pairwise.nil,List.Pairwise.nil,by simp,by simp⟩
 | .v t agg::ps,d,vs,ns,ks,xs,B,⟨v,vs',n1,n2,h1,h2,h3,h4⟩,hlen,hp,hl,hk,hm,hf=>by
  subst h1
  simp only[War]at hf
  cases hA:War ps xs.tail objs with
  |none=>simp[hA]at hf
  |some A=>
   simp[hA]at hf;subst hf
   match xs,hlen with
   |x::xs,hlen=>
    obtain⟨kf,ms,hO⟩:=Wcq hg h ps d.2 vs' n2 ks xs A h4 (by simpa using hlen) (λj y u hj hu=>hp (j+1) y u (by simpa using hj) (by simpa using hu)) hl hk hm hA
    exact⟨kf,ms,hO.outs,hO.sepk,hO.sepm,hO.kf,hO.ms⟩
 | .rp t::ps,d,vs,ns,ks,xs,B,⟨b,o,us,vs',h1,h2,h3,h4⟩,hlen,hp,hl,hk,hm,hf=>by
  subst h1
  simp only[War]at hf
  cases hA:War ps xs.tail objs with
  |none=>simp[hA]at hf
  |some A=>
   simp[hA]at hf;subst hf
   match xs,hlen with
   |x::xs,hlen=>
    obtain⟨kf,ms,hO⟩:=Wcq hg h ps d.2 vs' ns ks xs A h4 (by simpa using hlen) (λj y u hj hu=>hp (j+1) y u (by simpa using hj) (by simpa using hu)) hl hk hm hA
    exact⟨kf,ms,hO.outs,hO.sepk,hO.sepm,hO.kf,hO.ms⟩
 | .box t::ps,d,vs,ns,ks,xs,B,⟨b,o,vs',n1,n2,ks',h1,h2,h3,h4,h6⟩,hlen,hp,hl,hk,hm,hf=>by
  subst h1
  simp only[War]at hf
  split at hf
  ·rename_i id xs
   split at hf
   ·rename_i cs ho
    split at hf
    ·rename_i dd m l A g1 g2
     injection hf with hf;subst hf
     have hx:=((hp 0 _ _ rfl rfl).resolve_left (λe=>by cases e)).1
     obtain⟨kf,ms,hO⟩:=Wcq hg h ps d.2 vs' n2 ks' xs A h6 (by simpa using hlen) (λj y u hj hu=>hp (j+1) y u (by simpa using hj) (by simpa using hu)) (hl.mono λj hj=>Xg _ hj) (Xai.1 hk).2 (Xak.1 hm).2.1 g2
     obtain⟨nn,e1,e2,e3,e4,e5⟩:=Wrm (wb:=wb) (Gb:=Gb) hg h hx ho g1 (hl.mono λj hj=>Xk _ hj) hk hm hO
     exact⟨_,nn++ms,⟨b,o,ks',kf,nn,ms,h3,rfl,rfl,e1,hO.outs⟩,e2,e3,e4,e5⟩
    ·cases hf
   ·cases hf
  ·cases hf
 | .vj _::_,_,_,_,_,_,_,h,_,_,_,_,_,_=>h.elim
 | .boxal t lf::ps,d,vs,ns,ks,xs,B,⟨b,o,b',pc,vs',n1,n2,ks',h1,h2,h3,h4,h5,h6,h7,h8⟩,hlen,hp,hl,hk,hm,hf=>by
  subst h1
  simp only[War]at hf
  split at hf
  ·rename_i id y xs
   split at hf
   ·rename_i cs ho
    split at hf
    ·rename_i dd m l A g1 g2
     injection hf with hf;subst hf
     have hx:=((hp 0 _ _ rfl rfl).resolve_left (λe=>by cases e)).1
     obtain⟨kf,ms,hO⟩:=Wcq hg h ps d.2.2 vs' n2 ks' xs A h8 (by simpa using hlen) (λj y u hj hu=>hp (j+2) y u (by simpa using hj) (by simpa using hu)) (hl.mono λj hj=>Xg _ hj) (Xai.1 hk).2 (Xak.1 hm).2.1 g2
     obtain⟨nn,e1,e2,e3,e4,e5⟩:=Wrm (wb:=wb) (Gb:=Gb) hg h hx ho g1 (hl.mono λj hj=>Xk _ hj) hk hm hO
     exact⟨_,nn++ms,⟨b,o,ks',kf,nn,ms,h3,rfl,rfl,e1,hO.outs⟩,e2,e3,e4,e5⟩
    ·cases hf
   ·cases hf
  ·cases hf
 | .mut e::ps,d,vs,ns,ks,xs,B,⟨pc,vs',n2,ks',h1,h2,h3,h4,h5⟩,hlen,hp,hl,hk,hm,hf=>by
  subst h1
  simp only[War]at hf
  split at hf
  ·rename_i id xs
   split at hf
   ·rename_i e' ys ho
    split at hf
    ·rename_i dd A g1 g2
     injection hf with hf;subst hf
     obtain⟨hee,hd⟩:=Wbq g1
     subst hee
     simp only at hd;subst hd
     obtain⟨⟨_,hx⟩,_⟩:=(hp 0 _ _ rfl rfl).resolve_left (λe=>by cases e)
     have hlv:Live objs id:=⟨_,ho,by simp⟩
     have hown:OwnL w (TyRel G w e') e'.size (ν id) ys (φ id):=h.ob _ _ ho
     have hown':=Whi hg (Same.refl _ w) (λ_ _ hh=>hh) hown
     obtain⟨k1,k2⟩:=Xai.1 hk
     obtain⟨kf,ms,hO⟩:=Wcq hg h ps d.2 vs' n2 ks' xs A h5 (by simpa using hlen) (λj y u hj hu=>hp (j+1) y u (by simpa using hj) (by simpa using hu)) hl k2 hm g2
     refine⟨φ id::kf,ms,⟨⟨pc.nu,φ id⟩,ks',kf,h3,rfl,hdr_same h4 hown' hx,hO.outs⟩,?_,hO.sepm,λS hS=>?_,hO.ms⟩
     ·exact sepK h (k1:=[φ id]) (m:=[id]) (Xbi _ _) hO.sepk (λS hS=>by rw[Xac.1 hS];exact FromL.one (by simp) hlv) hO.kf (λi hi hj=>k1 (by rw[←Xac.1 hi];exact hj))
     ·rcases Xo.1 hS with rfl|hS
      ·exact FromL.one (Xi ..) hlv
      ·exactλb o hh=>FromL.mono (λi hi=>Xe _ hi) b o (hO.kf S hS b o hh)
    ·cases hf
   ·cases hf
  ·cases hf
 | .clos g n::ps,d,vs,ns,ks,xs,B,⟨cvs,vs',h1,h2,h3,h4⟩,hlen,hp,hl,hk,hm,hf=>by
  subst h1
  simp only[War]at hf
  split at hf
  ·rename_i g' caps xs
   split at hf
   ·rename_i hc
    obtain⟨rfl,hcl⟩:=hc
    cases hA:War ps (ptrs caps++xs) objs with
    |none=>simp[hA]at hf
    |some A=>
     simp[hA]at hf;subst hf
     obtain⟨⟨us,hu1,hu2,hu3⟩,_⟩:=(hp 0 _ _ rfl rfl).resolve_left (λe=>by cases e)
     have hus:us=cvs:=by
      injection hu1 with _ _ hu1
      have:=congrArg Array.toList hu1
      simpa using this.symm
     subst hus
     obtain⟨kf,ms,hO⟩:=Wcq hg h ps d (us++vs') ns ks (ptrs caps++xs) A h4 (by simp[ptrs,hu2];simpa using hlen) (λj y u hj hu=>by
      rw[Xaz]at hj hu
      simp only[ptrs,List.length_map]at hj
      rw[hu2]at hu
      split at hj
      ·rename_i hlt
       rw[if_pos hlt]at hu
       rw[Xam]at hj
       obtain⟨id,hid,rfl⟩:=Xx.1 hj
       obtain⟨q1,q3,q2⟩:=hu3 _ id u hid hu
       exact .inr ⟨⟨q1,q2⟩,q3⟩
      ·rename_i hlt
       rw[if_neg hlt]at hu
       exact hp (j-caps.length+1) y u (by simpa using hj) (by simpa using hu)) hl hk hm hA
     exact⟨kf,ms,hO.outs,hO.sepk,hO.sepm,hO.kf,hO.ms⟩
   ·cases hf
  ·cases hf
 | .kv t agg::ps,d,vs,ns,ks,xs,B,⟨v,vs',n1,n2,ks',h1,h2,h2',h3,h4⟩,hlen,hp,hl,hk,hm,hf=>by
  subst h1
  simp only[War]at hf
  split at hf
  ·rename_i x xs
   split at hf
   ·rename_i dd m l A g1 g2
    split at hf
    ·rename_i harr
     injection hf with hf;subst hf
     cases hc:cellsOf agg x with
     |none=>simp[hc]at g1
     |some cs=>
      simp[hc]at g1
      obtain⟨k1,k2,k3⟩:=Xak.1 hk
      have hx:=(hp 0 _ _ rfl rfl).resolve_left (λe=>by subst e;cases hc)
      have hl1:Lent G' w φ objs l:=hl.mono λj hj=>Xk _ hj
      obtain⟨_,_,_,_,q4,_⟩:=Wyi h hg hx hl1 k1 hc g1
      obtain⟨v1,_⟩:=VRel_kept h hg hx hl1 hc g1 harr
      obtain⟨us,n3,r1,r2,r3⟩:=VRel_swap h3 v1
      obtain⟨kf,ms,hO⟩:=Wcq hg h ps d.2 vs' n2 ks' xs A h4 (by simpa using hlen) (λj y u hj hu=>hp (j+1) y u (by simpa using hj) (by simpa using hu)) (hl.mono λj hj=>Xg _ hj) k2 hm g2
      have gp:∀S∈fps n3,CS.le S (FromL φ objs m):=λS hS=>by
       rw[r3,fps_pcs]at hS
       obtain⟨i,hi,rfl⟩:=Xu.1 hS
       exact FromL.one hi (q4 i hi)
      have gs:Sep (fps n3):=by
       rw[r3,fps_pcs]
       refine List.pairwise_map.2 (k1.imp_of_mem λ{i j} hi hj hne=>?_)
       exactλb o h1 h2=>hne (h.inj i j b o (q4 i hi) (q4 j hj) h1 h2)
      refine⟨fps n3++kf,ms,⟨n3,ks',kf,us,by rw[h2',r2],rfl,r1,hO.outs⟩,sepK h gs hO.sepk gp hO.kf (λi hi hj=>k3 i hi i hj rfl),hO.sepm,λS hS=>?_,hO.ms⟩
      rcases Xn.1 hS with hS|hS
      ·exactλb o hh=>FromL.mono (λi hi=>Xk _ hi) b o (gp S hS b o hh)
      ·exactλb o hh=>FromL.mono (λi hi=>Xg _ hi) b o (hO.kf S hS b o hh)
    ·cases hf
   ·cases hf
  ·cases hf
end
end Go.Sx
namespace Go.Sx
set_option linter.unusedVariables false
set_option linter.unusedSimpArgs false
section
variable{P:Program}{T:Tab}{Γ:Ctx}
theorem init_rel{sg:Sig}{d:PDen sg.ps}{G:GH}{w:World}{vs:List Value}{ns:List Pc}{ks:List Nu}{n:Nat}(hn:Wew sg.ps≤n)(hco:Wgf sg.ps=true)(hargs:Wdp G w sg.ps d vs ns ks)(hsep:Sep (fps ns))
  (hfree:∀q∈ns,∀b off,q.fp b off→G b off=none∧b<w.heap.size) (hg:∀b o v,G b o=some v→w.cell? ⟨b,o,none⟩=some v):
  ∃ν,Rel w (Of ns) ⟨n,Wu sg.ps 0 0 vs⟩ G G ν {env:=Wqk 0 (Wae sg.ps d [] 0).1,objs:=(Wae sg.ps d [] 0).2.1,nx:=(Wae sg.ps d [] 0).2.2}
   {tmps:=vs.toArray++Xec (n-vs.toArray.size) undef,defers:=[]} w:=by
 obtain⟨ν,hν⟩:∃ν:Nat→Nu,ν= λi=>((nus ns)[i]?).getD ⟨none,0,0,0,0⟩:=⟨_,rfl⟩
 obtain⟨φ,hφ⟩:∃φ:Nat→CS,φ= λi=>((fps ns)[i]?).getD (λ_ _=>False):=⟨_,rfl⟩
 have hAt:At ν φ 0 ns:=λj pc hj=>by
  have e1:(nus ns)[j]?=some pc.nu:=by unfold nus;rw[Xam,hj];rfl
  have e2:(fps ns)[j]?=some pc.fp:=by unfold fps;rw[Xam,hj];rfl
  rw[hν,hφ]
  simp only[Xbb,e1,e2]
  exact⟨rfl,rfl⟩
 obtain⟨h1,h2,h3,h4⟩:=Wgc (ν:=ν) (φ:=φ) sg.ps d vs ns ks [] 0 (0+ns.length) hco hargs hAt (Xm _)
 have hvl:=Whu _ _ _ _ _ hargs
 have hlive:∀id,Live (Wae sg.ps d [] 0).2.1 id→id<ns.length:=λid ⟨ob,ho,_⟩=>by
  rcases h2 id ob ho with⟨_,h,_⟩|h
  ·simpa using h
  ·cases h
 have hcell:∀id b o,φ id b o→∃q,ns[id]?=some q∧(fps ns)[id]?=some q.fp∧q.fp b o:=λid b o hp=>by
  rw[hφ]at hp
  try simp only at hp
  cases hq:ns[id]? with
  |none=>
   have:(fps ns)[id]?=none:=by unfold fps;rw[Xam,hq];rfl
   rw[this]at hp;exact hp.elim
  |some q=>
   have:(fps ns)[id]?=some q.fp:=by unfold fps;rw[Xam,hq];rfl
   rw[this]at hp
   exact⟨q,rfl,this,hp⟩
 have htm:∀(i:Nat) (v:Value),vs[i]?=some v→(vs.toArray++Xec (n-vs.toArray.size) undef)[i]?=some v:=λi v hi=>by
  have hlt:=(Xq.1 hi).1
  rw[Array.getElem?_append_left (by simpa using hlt)]
  simpa using hi
 refine⟨ν,rfl,by simp;omega,λp hp=>?_,λi x hx=>?_,⟨φ,?_⟩,λ_ _ _ hh=>hh,λ_ _ _ hh=>.inl hh⟩
 ·obtain⟨_,g2⟩:=Wac _ _ _ _ p hp
  exact htm _ _ (by simpa using g2)
 ·simp only at hx
  rw[Wrs]at hx
  simp only[Xbo,if_true,Xda]at hx
  have hlt:=(Xq.1 hx).1
  rw[h3]at hlt
  have hv:=Xs hlt
  refine⟨_,htm i _ hv,?_⟩
  have:=h4 i x _ hx hv
  simp only[h1]
  exact this
 ·exact{
   g:=hg
   ob:=λid ob ho=>by
    rcases h2 id ob ho with⟨_,_,h⟩|h
    ·simp only[h1];exact h
    ·cases h
   gf:=λid b o hl hp=>by
    obtain⟨q,g1,_,g2⟩:=hcell id b o hp
    exact(hfree q (Xav g1) b o g2).1
   inj:=λid id' b o hl hl' hp hp'=>by
    obtain⟨q,_,g1,g2⟩:=hcell id b o hp
    obtain⟨q',_,g1',g2'⟩:=hcell id' b o hp'
    exact Wzp hsep g1 g1' g2 g2'
   own:=λid b o hl hp=>by
    obtain⟨q,g1,_,g2⟩:=hcell id b o hp
    exact .inr ⟨q,Xav g1,g2⟩
   lt:=λid hl=>by simp only[h1];have:=hlive id hl;omega
   bl:=λid b o hl hp=>by
    obtain⟨q,g1,_,g2⟩:=hcell id b o hp
    exact(hfree q (Xav g1) b o g2).2
   le:=WLe.refl _ w}
theorem ret_after(hT:Wbj P T){f:Func}{sg:Sig}{d:PDen sg.ps}{G:GH}{w:World}{vs:List Value}{ns:List Pc}{ks:List Nu}{n:Nat}(hco:Wgf sg.ps=true)(hargs:Wdp G w sg.ps d vs ns ks)
  {st:St} {a:Act} {w':World} {G1:GH} {ν:Nat→Nu} (hr:Rel w (Of ns) ⟨n,Wu sg.ps 0 0 vs⟩ G G1 ν st a w') {xs:List AVal} (hx:Wkr T st f.results.toList=some xs)
  {A:Outs (RDen sg.rs)} (hA:Wdb sg.rs xs st.objs=some A) {B:OutK (ODen sg.ps)} (hB:War sg.ps (Wl sg.ps 0 0 st) st.objs=some B)
  (hnd:Wdw (B.kept++(B.moved++A.moved))=true) (hdj:Wql (A.lent++B.lent) (B.kept++(B.moved++A.moved))=true):
  ∃rv kf ms ns' G',(results f a.tmps).run P w'= .ok (Wub rv) w'∧After sg (B.d,A.d) G w ns ks rv kf ms ns' G' w':=by
 have hnd:=(Wmh _).1 hnd
 have hdj:=disjN_iff hdj
 obtain⟨φ,hφ⟩:=hr.h
 have hg1:=hφ.addG_le (A.lent++B.lent)
 have hg2:=hφ.addG_w (A.lent++B.lent)
 have hlent:Lent (addG G1 w' (FromL φ st.objs (A.lent++B.lent))) w' φ st.objs (A.lent++B.lent):=λid hid hl=>(Wud _).mono (FromL.one hid hl)
 obtain⟨k1,k2,k3⟩:=Xak.1 hnd
 obtain⟨k4,k5,k6⟩:=Xak.1 k2
 obtain⟨rv,hrv1,hrv2,hrv3⟩:=Wzq hT hr _ xs hx
 obtain⟨ns',q1,q2,q3,q4⟩:=Wju hφ hg1 sg.rs xs rv A hrv2 hrv3 (hlent.mono λi hi=>Xk _ hi) k5 hA
 obtain⟨hsl,hsv⟩:=Wcc hr sg.ps d vs ns ks 0 0 hargs hco (by cases sg.ps<;>rfl) (Xbo _) (by simpa using hr.par)
 obtain⟨kf,ms,hO⟩:=Wcq hg1 hφ sg.ps d vs ns ks _ B hargs hsl (λj x v hj hv=>hsv j x v hj (by simpa using hv)) (hlent.mono λi hi=>Xg _ hi) k1 k4 hB
 have hfrom:∀S∈kf++fps (ms++ns'),CS.le S (FromL φ st.objs (B.kept++(B.moved++A.moved))):=λS hS=>by
  rcases Xn.1 hS with hS|hS
  ·exactλb o hh=>FromL.mono (λi hi=>Xk _ hi) b o (hO.kf S hS b o hh)
  ·obtain⟨q,hq,rfl⟩:=Xu.1 hS
   rcases Xn.1 hq with hq|hq
   ·exactλb o hh=>FromL.mono (λi hi=>Xg _ (Xk _ hi)) b o (hO.ms q hq b o hh)
   ·exactλb o hh=>FromL.mono (λi hi=>Xg _ (Xg _ hi)) b o (q3 q hq b o hh)
 refine⟨rv,kf,ms,ns',addG G1 w' (FromL φ st.objs (A.lent++B.lent)),?_,?_⟩
 ·show(do let vs←f.results.mapM (retOne a.tmps);pure (if h:vs.size=1 then vs[0]else .tuple vs):Sem Value).run P w'=_
  have hmap:(f.results.mapM (retOne a.tmps)).run P w'= .ok rv.toArray w':=by
   rw[Array.mapM_eq_mapM_toList,Sem.run_map,hrv1]
   rfl
  rw[Sem.run_bind,hmap]
  simp only[Result.andThen_ok,Sem.run_pure]
  congr 1
  unfold Wub
  match rv with
  | []=>rfl
  | [v]=>rfl
  |u::v::l=>simp
 ·exact{
   res:=q1
   outs:=hO.outs
   sep:=by
    refine sepK hφ hO.sepk (Wfy hφ hO.sepm q2 hO.ms q3 (λi hi hj=>k6 i hi i hj rfl)) hO.kf (l:=B.moved++A.moved) (λS hS=>?_) (λi hi hj=>k3 i hi i hj rfl)
    obtain⟨q,hq,rfl⟩:=Xu.1 hS
    rcases Xn.1 hq with hq|hq
    ·exactλb o hh=>FromL.mono (λi hi=>Xk _ hi) b o (hO.ms q hq b o hh)
    ·exactλb o hh=>FromL.mono (λi hi=>Xg _ hi) b o (q3 q hq b o hh)
   own:=λS hS b off hh=>by
    obtain⟨i,hi,h1,h2⟩:=hfrom S hS b off hh
    refine⟨?_,(hφ.own i b off h1 h2).symm,hφ.bl i b off h1 h2⟩
    rw[Whw (λ⟨j,hj,h3,h4⟩=>by
     have:=hφ.inj i j b off h1 h3 h2 h4
     subst this
     exact hdj _ hj hi)]
    exact hφ.gf i b off h1 h2
   gx:=by
    refine⟨λb o v hv=>hg1 b o v (hr.gx.le b o v hv),λb off v hv=>?_⟩
    by_cases hb:FromL φ st.objs (A.lent++B.lent) b off
    ·obtain⟨j,hj,h1,h2⟩:=hb
     exact .inr (hφ.own j b off h1 h2)
    ·rw[Whw hb]at hv
     exact hr.gx.new b off v hv
   g:=hg2
   le:=hφ.le}
theorem good_of(hM:P.follows .mixedOrders=true)(hT:Wbj P T)(hΓ:Wmk P Γ){f:Func}{k:FuncId}{c:Code}(hf:P.funcs[k]?=some f)(hb:f.body=some c){sg:Sig}(hok:Wio f.ntmps (Wjy sg.ps 0 0) c=true)(hco:Wgf sg.ps=true)
  (hn:Wew sg.ps≤f.ntmps) {ann:Nat→List Ghost} (h:∀d o,sg.run d=some o→∃N,den T Γ ann N sg f d some=some o):Good P k sg:=by
 intro d o hrun G w vs ns ks hargs hsep hfree hg
 obtain⟨N,hden⟩:=h d o hrun
 unfold den at hden
 simp only[hb]at hden
 obtain⟨ν,hr0⟩:=init_rel hn hco hargs hsep hfree hg
 split at hden
 case h_2=>cases hden
 rename_i c' b st0 hc' hgh
 injection hc' with hc';subst hc'
 obtain⟨rfl,hden⟩:=Wcj hden
 obtain⟨G0',ν0',hr⟩:=Wiq _ _ _ _ _ hr0 hgh
 refine calls_of_wp hf hb ?_
 suffices hk:∀e,Goes w (Of ns) ⟨f.ntmps,Wu sg.ps 0 0 vs⟩ G (retK T sg f.results.toList some e) o (bodyPost P f (λe w'=>∃rv kf ms ns' G',e= .returned (Wub rv)∧After sg o G w ns ks rv kf ms ns' G' w') e.to)from
  sx_wp (nt:=⟨f.ntmps,Wu sg.ps 0 0 vs⟩) hM hT hΓ (n:=f.ntmps) rfl (Waj sg.ps 0 0 vs) c hok hk _ _ _ _ _ hr hden
 intro e st a w' G1 ν1 hr1 hk
 have hfin:(∃xs,Wkr T st f.results.toList=some xs∧∃A B,Wdb sg.rs xs st.objs=some A∧War sg.ps (Wl sg.ps 0 0 st) st.objs=some B∧Wdw (B.kept++(B.moved++A.moved))=true∧Wql (A.lent++B.lent) (B.kept++(B.moved++A.moved))=true∧(B.d,A.d)=o)→
   a.defers= []∧∃v,(results f a.tmps).run P w'= .ok v w'∧∃rv kf ms ns' G',Ending.returned v= .returned (Wub rv)∧After sg o G w ns ks rv kf ms ns' G' w':=by
  rintro⟨xs,hx,A,B,hA,hB,h1,h2,rfl⟩
  obtain⟨rv,kf,ms,ns',G',h3,h4⟩:=ret_after hT (f:=f) hco hargs hr1 hx hA hB h1 h2
  exact⟨hr1.defers,_,h3,rv,kf,ms,ns',G',rfl,h4⟩
 have hgo:(match Wkr T st f.results.toList with
   |some xs=>match Wdb sg.rs xs st.objs,War sg.ps (Wl sg.ps 0 0 st) st.objs with
    |some A,some B=>if Wdw (B.kept++(B.moved++A.moved))&&Wql (A.lent++B.lent) (B.kept++(B.moved++A.moved))then some (B.d,A.d)else none
    |_,_=>none
   |none=>none)=some o→(∃xs,Wkr T st f.results.toList=some xs∧∃A B,Wdb sg.rs xs st.objs=some A∧War sg.ps (Wl sg.ps 0 0 st) st.objs=some B∧Wdw (B.kept++(B.moved++A.moved))=true∧Wql (A.lent++B.lent) (B.kept++(B.moved++A.moved))=true∧(B.d,A.d)=o):=λhk=>by
  split at hk
  ·rename_i xs hx
   split at hk
   ·rename_i A B hA hB
    obtain⟨hc,hk⟩:=Wev hk
    simp only[Xh]at hc
    injection hk with hk
    exact⟨xs,hx,A,B,hA,hB,hc.1,hc.2,hk⟩
   ·cases hk
  ·cases hk
 cases e with
 |normal=>exact hfin (hgo hk)
 |ret=>exact hfin (hgo hk)
 |exit id=>cases hk
end
end Go.Sx
namespace Go.Sx
set_option linter.unusedVariables false
set_option linter.unusedSimpArgs false
def zv1:Value→Value→Bool
 | .int k n,.int k' n'=>decide (k=k')&&decide (n=n')
 | .bool b,.bool b'=>b==b'
 | .string s,.string s'=>match s.data.toList,s'.data.toList with
  | [],[]=>true
  |_,_=>false
 | .slice none 0 0,.slice none 0 0=>true
 | .pointer none,.pointer none=>true
 |_,_=>false
theorem zv1_spec(x y:Value)(h:zv1 x y=true):x=y:=by
 unfold zv1 at h
 split at h
 ·simp only[Xh,decide_eq_true_eq]at h;obtain⟨rfl,rfl⟩:=h;rfl
 ·have:=eq_of_beq h;subst this;rfl
 ·rename_i s s'
  split at h
  ·rename_i e1 e2
   have:s=s':=by
    cases s with|mk a=>cases s' with|mk b=>
    congr 1
    apply Array.ext'
    simp only at e1 e2
    rw[e1,e2]
   rw[this]
  ·cases h
 ·rfl
 ·rfl
 ·cases h
def zvEq:List Value→List Value→Bool
 | [],[]=>true
 |x::l,y::m=>zv1 x y&&zvEq l m
 |_,_=>false
theorem zvEq_spec:∀(l m:List Value),zvEq l m=true→l=m
 | [],[],_=>rfl
 | [],_::_,h=>by cases h
 |_::_,[],h=>by cases h
 |x::l,y::m,h=>by
  simp only[zvEq,Xh]at h
  rw[zv1_spec x y h.1,zvEq_spec l m h.2]
def Wpj:List Field→List (Nat×TypeId)→Bool
 | [],[]=>true
 |f::l,p::m=>Xbt f.offset p.1&&Xbt f.type p.2&&(f.name != "_")&&Wpj l m
 |_,_=>false
def chkUnd(P:Program)(T:Tab)(t:TypeId)(te:TE):Bool:=match te.shape with
 | .basic=>!te.agg&&(match te.ty with
  | .int k=>match P.underlying t with|some (.int k')=>decide (k'=k)|_=>false
  | .bool=>match P.underlying t with|some .bool=>true|_=>false
  | .str=>match P.underlying t with|some .string=>true|_=>false
  |_=>false)
 | .slice e=>!te.agg&&(match P.underlying t with|some (.slice e')=>Xbt e' e|_=>false)&&(match look T e with|some te'=>decide (te.ty= .slice te'.ty)|none=>false)
 | .struct fs=>te.agg&&(match P.underlying t with|some (.struct fields)=>Wpj fields.toList fs|_=>false)&& !P.stoodInHeld t&& !P.eqGuardType P.depth t
 | .ptr e=>!te.agg&&(match P.underlying t with|some (.pointer e')=>Xbt e' e|_=>false)
 | .arr n e=>te.agg&&(match P.underlying t with|some (.array n' e')=>Xbt n' n&&Xbt e' e|_=>false)&&(match look T e with|some te'=>decide (te'.ty=te.ty)&&te'.plain|none=>false)
def chkInfo(P:Program)(t:TypeId)(te:TE):Bool:=match P.info? t with
 |some i=>match i.zero with
  |some z=>Xbt i.size te.size&&zvEq z.cells.toList te.cells&&Nat.ble i.bytes 4096
  |none=>false
 |none=>false
def chkTab(P:Program)(T:Tab):Tab→Bool
 | []=>true
 |(t,te)::l=>chkUnd P T t te&&chkInfo P t te&&chkTab P T l
theorem Wmx:∀(l:List Field) (m:List (Nat×TypeId)),Wpj l m=true→l.map (λf=>(f.offset,f.type))=m∧∀f∈l,f.name≠ "_"
 | [],[],_=>⟨rfl,by simp⟩
 | [],_::_,h=>by cases h
 |_::_,[],h=>by cases h
 |f::l,p::m,h=>by
  simp only[Wpj,Xh,bne_iff_ne,ne_eq]at h
  obtain⟨⟨⟨h1,h2⟩,h3⟩,h4⟩:=h
  obtain⟨h5,h6⟩:=Wmx l m h4
  have h1:f.offset=p.1:=by simpa using h1
  have h2:f.type=p.2:=by simpa using h2
  refine⟨by rw[Xaj,h5,h1,h2],λg hg=>?_⟩
  rcases Xo.1 hg with hg|hg
  ·subst hg;exact h3
  ·exact h6 g hg
theorem chkUnd_spec{P:Program}{T:Tab}{t:TypeId}{te:TE}(h:chkUnd P T t te=true)(hi:chkInfo P t te=true):TEok P T t te:=by
 obtain⟨ty,agg,shape⟩:=te
 refine⟨?_,?_⟩
 ·unfold chkUnd at h
  cases shape with
  |basic=>
   simp only[Xh,Xao]at h⊢
   refine⟨h.1,?_⟩
   have h:=h.2
   cases ty with
   |int k=>
    simp only at h⊢
    split at h
    ·rename_i k' hu;simp only[decide_eq_true_eq]at h;rw[hu,h]
    ·cases h
   |bool=>
    simp only at h⊢;split at h
    ·assumption
    ·cases h
   |str=>
    simp only at h⊢;split at h
    ·assumption
    ·cases h
   |slice e=>cases h
   |own e=>cases h
   |prod a b=>cases h
  |slice e=>
   simp only[Xh,Xao]at h⊢
   obtain⟨⟨h1,h2⟩,h3⟩:=h
   refine⟨h1,?_,?_⟩
   ·split at h2
    ·rename_i e' hu;rw[hu];have:e'=e:=by simpa using h2
     rw[this]
    ·cases h2
   ·split at h3
    ·rename_i te' hl;exact⟨te',hl,by simpa using h3⟩
    ·cases h3
  |struct fs=>
   simp only[Xh,Xao]at h⊢
   obtain⟨⟨⟨h1,h2⟩,h3⟩,h4⟩:=h
   refine⟨h1,?_⟩
   split at h2
   ·rename_i fields hu
    obtain⟨h5,h6⟩:=Wmx _ _ h2
    exact⟨fields,hu,h5,λf hf=>h6 f (by simpa using hf),h3,h4⟩
   ·cases h2
  |ptr e=>
   simp only[Xh,Xao]at h⊢
   refine⟨h.1,?_⟩
   have h:=h.2
   split at h
   ·rename_i e' hu;rw[hu];have:e'=e:=by simpa using h
    rw[this]
   ·cases h
  |arr n e=>
   simp only[Xh]at h⊢
   obtain⟨⟨h1,h2⟩,h3⟩:=h
   refine⟨h1,?_,?_⟩
   ·split at h2
    ·rename_i n' e' hu
     simp only[Xh]at h2
     have e1:n'=n:=by simpa using h2.1
     have e2:e'=e:=by simpa using h2.2
     rw[hu,e1,e2]
    ·cases h2
   ·split at h3
    ·rename_i te' hl
     simp only[Xh,decide_eq_true_eq]at h3
     refine⟨te',hl,h3.1,λm f hs=>?_⟩
     have:=h3.2
     unfold TE.plain at this
     rw[hs]at this
     cases this
    ·cases h3
 ·unfold chkInfo at hi
  split at hi
  ·rename_i i hi'
   split at hi
   ·rename_i z hz
    simp only[Xh]at hi
    obtain⟨⟨h1,h2⟩,h3⟩:=hi
    exact⟨i,z,hi',by simpa using h1,hz,zvEq_spec _ _ h2,Xfz h3⟩
   ·cases hi
  ·cases hi
theorem tab_ok{P:Program}{T:Tab}(h:chkTab P T T=true):Wbj P T:=by
 have key:∀l,chkTab P T l=true→∀t te,look l t=some te→TEok P T t te:=by
  intro l
  induction l with
  |nil=>intro _ t te hl;cases hl
  |cons p l ih=>
   intro hc t te hl
   obtain⟨t',te'⟩:=p
   simp only[chkTab,Xh]at hc
   rw[Wt]at hl
   split at hl
   ·rename_i e;subst e;injection hl with hl;subst hl;exact chkUnd_spec hc.1.1 hc.1.2
   ·exact ih hc.2 t te hl
 exact key T h
theorem Wa{P:Program}:Wmk P []:=λk sg h=>by cases h
theorem ctx_cons{P:Program}{Γ:Ctx}{k:FuncId}{sg:Sig}(hg:Good P k sg)(hc:Won P k)(h:Wmk P Γ):Wmk P ((k,sg)::Γ):=λk' sg' hl=>by
 simp only[look]at hl
 split at hl
 ·rename_i e
  have:k=k':=by simpa using e
  subst this
  injection hl with hl;subst hl;exact⟨hg,hc⟩
 ·exact h k' sg' hl
def chkFn(f:Func):Bool:=f.body.isSome&& !(f.name== "runtime.NumGoroutine")
theorem Wjv{P:Program}{k:FuncId}{f:Func}(hf:P.funcs[k]?=some f)(h:chkFn f=true):Won P k:=by
 simp only[chkFn,Xh,Xao]at h
 refine⟨f,hf,?_,h.2⟩
 cases hb:f.body with
 |none=>rw[hb]at h;cases h.1
 |some c=>rfl
def chkBody(f:Func)(ps:List PTy):Bool:=match f.body with
 |some c=>Wio f.ntmps (Wjy ps 0 0) c&&Nat.ble (Wew ps) f.ntmps&&Wgf ps
 |none=>false
theorem good_body{P:Program}{T:Tab}{Γ:Ctx}(hM:P.follows .mixedOrders=true)(hT:Wbj P T)(hΓ:Wmk P Γ){f:Func}{k:FuncId}(hf:P.funcs[k]?=some f){sg:Sig}(hok:chkBody f sg.ps=true){ann:Nat→List Ghost}
  (h:∀d o,sg.run d=some o→∃N,den T Γ ann N sg f d some=some o):Good P k sg:=by
 unfold chkBody at hok
 split at hok
 ·rename_i c hb
  simp only[Xh]at hok
  exact good_of hM hT hΓ hf hb hok.1.1 hok.2 (Xfz hok.1.2) h
 ·cases hok
end Go.Sx
namespace Go.Sx
def Wnn:Code→List Code
 | .seq a b=>Wnn a++Wnn b
 | .cond _ a b=>Wnn a++Wnn b
 | .block _ c=>Wnn c
 | .loop c=>c::Wnn c
 |_=>[]
def theCode(f:Func):Code:=match f.body with
 |some c=>c
 |none=>.skip
def nthLoop(f:Func)(i:Nat):Code:=(Wnn (theCode f)).getD i .skip
noncomputable def ctxK{R:Type}(T:Tab)(Γ:Ctx)(ann:Nat→List Ghost)(N:Nat):Code→List Nat→(Ex→St→Option R)→Ex→St→Option R
 | .seq a b,p,k=>match p with
  |0::p=>ctxK T Γ ann N a p λe st'=>match e with
   | .normal=>sx T Γ ann N b st' k
   | .exit id=>k (.exit id) st'
   | .ret=>k .ret st'
  |_::p=>ctxK T Γ ann N b p k
  | []=>k
 | .cond _ x y,p,k=>match p with
  |0::p=>ctxK T Γ ann N x p k
  |_::p=>ctxK T Γ ann N y p k
  | []=>k
 | .block id c,p,k=>match p with
  |_::p=>ctxK T Γ ann N c p λe st'=>match e with
   | .exit id'=>if id'=id then k .normal st' else k (.exit id') st'
   | .normal=>k .normal st'
   | .ret=>k .ret st'
  | []=>k
 |_,_,k=>k
def backK{R:Type}(gs:List Ghost)(L:St→(Ex→St→Option R)→Option R)(K:Ex→St→Option R):Ex→St→Option R:=λe st=>match e with
 | .normal=>match Wkb gs st with
  |some (c,st')=>bif c then L st' K else none
  |none=>none
 | .exit id=>K (.exit id) st
 | .ret=>K .ret st
abbrev vI(x:Int):AVal:=.s (.one (.val (.int .i64) x))
abbrev vB(x:Bool):AVal:=.s (.one (.val .bool x))
abbrev vV(t:Ty)(x:t.den):AVal:=.s (.one (.val t x))
abbrev vO(i:Nat):AVal:=.s (.one (.own i))
abbrev vP(i o:Nat):AVal:=.s (.one (.ptr i o))
abbrev Qs(s:Sig):=ODen s.ps×RDen s.rs
structure Fn where
 F:Func
 a:Nat→List Ghost
 s:Nat→Sig
 c:Nat→Ctx
def Ws:Nat→List Ghost:=λ_=>[]
def Wde:Nat→Ctx:=λ_=>[]
noncomputable def lpM{R:Type}(T:Tab)(Γ:Ctx)(ann:Nat→List Ghost)(N:Nat)(F:Func)(i k n:Nat)(st:St)(K:Ex→St→Option R):Option R:=loopN (Wvv (ann k) λst k=>sx T Γ ann N (nthLoop F i) st k) n st K
noncomputable def cxF(T:Tab)(Γ:Ctx)(ann:Nat→List Ghost)(N:Nat)(sg:Sig)(F:Func)(p:List Nat):Ex→St→Option (Qs sg):=ctxK (R:=Qs sg) T Γ ann N (theCode F) p (retK T sg F.results.toList some)
noncomputable def cxL{R:Type}(T:Tab)(Γ:Ctx)(ann:Nat→List Ghost)(N:Nat)(F:Func)(i k:Nat)(p:List Nat)(n:Nat)(K:Ex→St→Option R):Ex→St→Option R:=ctxK T Γ ann N (nthLoop F i) p (backK (ann k) (lpM T Γ ann N F i k n) K)
end Go.Sx
namespace Go.Sx
open Go.ChangeShapes Go.WideShapes Go.ChangeAt Go.RowKit
set_option linter.unusedVariables false
set_option linter.unusedSimpArgs false
def Wfd:(t:Ty)→t.den→Prop
 | .int k,n=>(Lit.int k n).wf=true
 | .bool,_=>True
 | .str,s=>Xa s≤maxLen
 | .slice e,l=>Xa l≤maxLen∧∀x,List.Mem x l→Wfd e x
 | .own _,_=>False
 | .prod a b,d=>Wfd a d.1∧Wfd b d.2
def Wob:(t:Ty)→t.den→Nat
 | .int _,_=>1
 | .bool,_=>1
 | .str,s=>Xa s+1
 | .slice e,l=>(List.map (Wob e) l).sum+1
 | .own _,_=>0
 | .prod a b,d=>Wob a d.1+Wob b d.2
structure Bulk{H:Type}(β:DataW H→Nat):Prop where
 lit:∀l,1≤β (.lit l)
 str:∀s,s.length+1≤β (.lit (.string s))
 nil:1≤β .nil
 slice:∀es sp,(es.map β).sum+1≤β (.slice es sp)
 agg:∀ps,(ps.map β).sum≤β (.agg ps)
def Wwc(T:Tab):List (Nat×TypeId)→Nat→Option (List Ty)
 | [],_=>some []
 |(o,ft)::fs,off=>match look T ft with
  |some te=>bif Xbt o off&&te.plain then(Wwc T fs (off+te.ty.size)).map (te.ty:: ·)else none
  |none=>none
def Wjx:List Ty→Ty
 | []=>.bool
 | [t]=>t
 |t::ts=>.prod t (Wjx ts)
def argOk(T:Tab):Nat→TypeId→Bool
 |0,_=>false
 |n+1,t=>match look T t with
  |some te=>match te.shape with
   | .basic=>match te.ty with
    | .int _=>true
    | .bool=>true
    | .str=>true
    | .slice _=>false
    | .own _=>false
    | .prod _ _=>false
   | .slice e=>argOk T n e&&(match look T e with|some te'=>te'.plain|none=>false)
   | .struct fs=>fs.all (λf=>argOk T n f.2)&&(match Wwc T fs 0 with
    |some (t::ts)=>decide (te.ty=Wjx (t::ts))
    |_=>false)
   | .ptr _=>false
   | .arr _ _=>false
  |none=>false
section
variable{P:Program}{T:Tab}{H:Type}{enc:TypeId×Value→H}{β:DataW H→Nat}{w:World}
theorem Wps{t:TypeId}{te:TE}(h:TEok P T t te):P.cellsOf t=te.size:=by
 obtain⟨i,z,hi,hs,_⟩:=h.info
 unfold Program.cellsOf
 rw[hi];exact hs
def Wtc(w:World):GH:=λb o=>w.cell? ⟨b,o,none⟩
theorem cells_get{b:Nat}{a:Addr}{n:Nat}{cs:List Value}(h:w.cells? b a n=some cs):cs.length=n∧∀(j:Nat) (v:Value),cs[j]?=some v→w.cell? (a.add j)=some v:=by
 unfold World.cells? at h
 split at h
 ·refine⟨by simpa using mapM_some_length h,λj v hj=>?_⟩
  have hlt:j<n:=by
   have:=mapM_some_length h
   have h2:=(Xq.1 hj).1
   simp at this;omega
  have:=mapM_some_get h j j (by simp[hlt])
  rw[this];exact hj
 ·cases h
theorem enc_list{e:Ty}{a:Addr}(n:Nat)(hn:0<n):∀(k:Nat) (i0:Nat) (el:Nat→Option (DataW H×List MemPlace)) (f:List Value→Option (DataW H×List MemPlace)),
  (∀cs y,f cs=some y→∃d:e.den,Enc (Wtc w) e d cs∧Wfd e d∧Wob e d≤β y.1)→
  (∀i,i0≤i→i<i0+k→∃y cs,w.cells? 0 (a.add (i*n)) n=some cs∧f cs=some y∧el i=some y)→
  ∃(l:List e.den) (cs:List Value),l.length=k∧EncL (Enc (Wtc w) e) l cs∧(∀x∈l,Wfd e x)∧(∀(j:Nat) (v:Value),cs[j]?=some v→w.cell? (a.add (i0*n+j))=some v)∧
   cs.length=k*n∧(l.map (Wob e)).sum≤((Xdf k).map λi=>match el (i0+i)with|some y=>β y.1|none=>0).sum
 |0,i0,el,f,hf,he=>⟨[],[],rfl,rfl,by simp,by simp,by simp,by simp⟩
 |k+1,i0,el,f,hf,he=>by
  obtain⟨y,c1,h1,h2,h3⟩:=he i0 (Xm _) (by omega)
  obtain⟨d,hd1,hd2,hd3⟩:=hf _ _ h2
  obtain⟨l,cs,g1,g2,g3,g4,g5,g6⟩:=enc_list n hn k (i0+1) el f hf (λi hi1 hi2=>he i (by omega) (by omega))
  obtain⟨hl,hg⟩:=cells_get h1
  refine⟨d::l,c1++cs,by simp[g1],⟨c1,cs,rfl,hd1,g2⟩,λx hx=>?_,λj v hj=>?_,?_,?_⟩
  ·rcases Xo.1 hx with rfl|hx
   ·exact hd2
   ·exact g3 x hx
  ·rw[Xaz]at hj
   split at hj
   ·have:=hg j v hj
    rw[Addr.add_add]at this
    exact this
   ·rename_i hlt
    have:=g4 _ v hj
    rw[hl]at this hlt
    have e:(i0+1)*n+(j-n)=i0*n+j:=by rw[Xcv];omega
    rw[e]at this
    exact this
  ·rw[Xz,hl,g5,Xcv];omega
  ·rw[List.range_succ_eq_map,Xaj,Xaj,Xca,Xca,Xef]
   simp only[Xax,h3]
   have:((λi=>match el (i0+i)with|some y=>β y.1|none=>0)∘Nat.succ)= λi=>match el (i0+1+i)with|some y=>β y.1|none=>0:=by
    funext i
    simp only[Function.comp,Nat.succ_eq_add_one]
    rw[show i0+(i+1)=i0+1+i by omega]
   rw[this]
   omega
theorem sum_get{β':DataW H×List MemPlace→Nat}(xs:List (DataW H×List MemPlace)):((Xdf xs.length).map λi=>match xs[0+i]? with|some y=>β' y|none=>0).sum=(xs.map β').sum:=by
 congr 1
 apply List.ext_getElem
 ·simp
 ·intro i h1 h2
  simp at h1
  simp[h1]
theorem prodTy_cons{t:Ty}{ts:List Ty}(h:ts≠ []):Wjx (t::ts)= .prod t (Wjx ts):=by
 cases ts with
 |nil=>exact absurd rfl h
 |cons _ _=>rfl
theorem Wwb(hT:Wbj P T)(hβ:Bulk β)(f:TypeId→List Value→Option (DataW H×List MemPlace)){cs:List Value}:∀(fs:List (Nat×TypeId)) (off:Nat) (ts:List Ty) (ys:List (DataW H×List MemPlace)),ts≠ []→Wwc T fs off=some ts→
  (∀fd∈fs,∀te cs y,look T fd.2=some te→f fd.2 cs=some y→∃d:te.ty.den,Enc (Wtc w) te.ty d cs∧Wfd te.ty d∧Wob te.ty d≤β y.1)→
  ys.length=fs.length→(∀(i:Nat) (fd:Nat×TypeId),fs[i]?=some fd→f fd.2 ((cs.drop fd.1).take (P.cellsOf fd.2))=ys[i]?)→cs.length=off+(Wjx ts).size→
  ∃d:(Wjx ts).den,Enc (Wtc w) (Wjx ts) d (cs.drop off)∧Wfd (Wjx ts) d∧Wob (Wjx ts) d≤(ys.map λy=>β y.1).sum
 | [],off,ts,ys,hne,hts,_,_,_,_=>by injection hts with hts;exact absurd hts.symm hne
 |(o,ft)::fs,off,ts,ys,hne,hts,hf,hlen,hys,hcs=>by
  cases ys with
  |nil=>simp at hlen
  |cons y ys=>
   simp only[Wwc]at hts
   split at hts
   ·rename_i te hl
    obtain⟨hc,hts⟩:=Wcj hts
    simp only[Xh]at hc
    have ho:o=off:=by simpa using hc.1
    obtain⟨ts',hts',rfl⟩:=Xx.1 hts
    have hsz:P.cellsOf ft=te.ty.size:=by rw[Wps (hT _ _ hl),Wap hc.2]
    have h0:=hys 0 (o,ft) rfl
    simp only[Xdq,hsz,ho]at h0
    obtain⟨d1,e1,e2,e3⟩:=hf (o,ft) (Xi ..) te _ y hl h0
    cases hfs:fs with
    |nil=>
     subst hfs
     simp only[Wwc]at hts'
     injection hts' with hts';subst hts'
     have hys0:ys= []:=by cases ys with
      |nil=>rfl
      |cons _ _=>simp at hlen
     subst hys0
     have htk:(cs.drop off).take te.ty.size=cs.drop off:=Xcx (by rw[List.length_drop,hcs];simp[Wjx])
     rw[htk]at e1
     exact⟨d1,e1,e2,by rw[Xaj,Xch,Xca,List.sum_nil,Xax];exact e3⟩
    |cons g gs=>
     have hne':ts'≠ []:=by
      rw[hfs]at hts'
      obtain⟨o2,ft2⟩:=g
      simp only[Wwc]at hts'
      split at hts'
      ·obtain⟨_,hts'⟩:=Wcj hts'
       obtain⟨x,_,rfl⟩:=Xx.1 hts'
       simp
      ·cases hts'
     have hpt:=prodTy_cons (t:=te.ty) hne'
     obtain⟨d2,f1,f2,f3⟩:=Wwb hT hβ f (cs:=cs) fs (off+te.ty.size) ts' ys hne' hts' (λfd hfd=>hf fd (Xe _ hfd)) (by simpa using hlen)
      (λi fd hi=>by have:=hys (i+1) fd (by simpa using hi);simpa using this) (by rw[hcs,hpt,Ty.size];omega)
     rw[hpt]
     refine⟨(d1,d2),⟨_,_,?_,e1,f1⟩,⟨e2,f2⟩,?_⟩
     ·rw[←List.drop_drop]
      exact(List.take_append_drop _ _).symm
     ·simp only[Wob,Xaj,Xca]
      omega
   ·cases hts
theorem Wyy(hT:Wbj P T)(hβ:Bulk β):∀(n fuel:Nat) (t:TypeId) (te:TE) (cs:List Value) (x:DataW H×List MemPlace),argOk T n t=true→look T t=some te→
  DataW.trod enc P w 0 (λ_=>true) true fuel t cs=some x→∃d:te.ty.den,Enc (Wtc w) te.ty d cs∧Wfd te.ty d∧Wob te.ty d≤β x.1
 |0,_,_,_,_,_,h,_,_=>by cases h
 |n+1,fuel,t,te,cs,x,h,hl,hx=>by
  have hte:=hT _ _ hl
  simp only[argOk,hl]at h
  obtain⟨ty,agg,shape⟩:=te
  cases shape with
  |basic=>
   have hu:=hte.und.2
   cases ty with
   |int k=>
    obtain⟨m,rfl,rfl,hw⟩:=DataW.trod_int hu hx
    exact⟨m,rfl,hw,hβ.lit _⟩
   |bool=>
    obtain⟨b,rfl,rfl⟩:=DataW.trod_bool hu hx
    exact⟨b,rfl,trivial,hβ.lit _⟩
   |str=>
    obtain⟨s,rfl,rfl,hs⟩:=DataW.trod_string hu hx
    refine⟨s.data.toList,by simp[Enc],?_,hβ.str _⟩
    show s.data.toList.length≤maxLen
    rw[Array.length_toList];exact hs
   |slice e=>cases h
   |own e=>cases h
   |prod a b=>cases h
  |slice e=>
   simp only[Xh]at h
   obtain⟨ha,hu,te',hle,hty⟩:=hte.und
   simp only at hty
   subst hty
   have hp:te'.plain=true:=by have:=h.2;rw[hle]at this;exact this
   have hsz:P.cellsOf e=te'.ty.size:=by rw[Wps (hT _ _ hle),Wap hp]
   rcases DataW.trod_slice hu hx with⟨rfl,rfl⟩|⟨a,len,cap,elems,rest,m,rfl,rfl,rfl,hb,hlc,hcm,hle2,hel,hsp,_⟩
   ·exact⟨([]:List te'.ty.den),⟨_,rfl,.inl ⟨rfl,rfl⟩⟩,⟨by simp,λx hx=>by cases hx⟩,by simpa [Wob]using hβ.nil⟩
   ·have key:=enc_list (w:=w) (β:=β) (e:=te'.ty) (a:=a) te'.ty.size (Wec _) len 0 (λi=>elems[i]?) (λcs=>DataW.trod enc P w 0 (λ_=>true) true m e cs)
     (λcs y hy=>Wyy hT hβ n m e te' cs y h.1 hle hy) (λi _ hi=>by
      rw[Xbb]at hi
      have:=hel i hi
      rw[hsz]at this
      have hlt:i<elems.length:=by omega
      rw[Xs hlt]at this
      obtain⟨cs,h1,h2⟩:=Xbv.1 this
      exact⟨elems[i],cs,h1,h2,Xs hlt⟩)
    obtain⟨l,cs,g1,g2,g3,g4,g5,g6⟩:=key
    refine⟨l,⟨_,rfl,?_⟩,⟨by rw[g1];omega,g3⟩,?_⟩
    ·by_cases h0:len=0
     ·subst h0
      exact .inr (.inr ⟨a,cap,rfl,Xy g1⟩)
     ·have hc0:0<cs.length:=by rw[g5];exact Nat.mul_pos (by omega) (Wec _)
      have hsp0:=g4 0 _ (Xs hc0)
      have hspot:a.spot=none:=by
       rw[Xes,Xax]at hsp0
       have:=World.cell?_spot hsp0
       simpa [Addr.add]using this
      obtain⟨b,off,spot⟩:=a
      subst hspot
      refine .inr (.inl ⟨b,off,cap,cs,by rw[g1],by rw[g1];exact hlc,hcm,g2,λj v hj=>?_⟩)
      have:=g4 j v hj
      rw[Xes,Xbb,Wcu]at this
      exact this
    ·have h1:=hβ.slice (elems.map (·.1)) (rest.map (·.1))
     have h2:((Xdf len).map λi=>match elems[0+i]? with|some y=>β y.1|none=>0).sum=(elems.map λy=>β y.1).sum:=by
      rw[←hle2];exact sum_get elems
     rw[h2]at g6
     rw[Xef]at h1
     simp only[Wob]
     have h3:(List.map (β∘λx=>x.1) elems)=elems.map λy=>β y.1:=rfl
     rw[h3]at h1
     show(List.map (Wob te'.ty) l).sum+1≤_
     omega
  |struct fs=>
   simp only[Xh]at h
   obtain⟨ha,fields,hu,hfs,hname,_⟩:=hte.und
   have h2:=h.2
   split at h2
   ·rename_i t1 ts hft
    have hty:ty=Wjx (t1::ts):=of_decide_eq_true h2
    subst hty
    obtain⟨xs,m,rfl,rfl,hcl,hxl,hxs⟩:=DataW.trod_struct hu hx
    have hsz:P.cellsOf t=(Wjx (t1::ts)).size:=by rw[Wps hte];rfl
    have key:=Wwb (w:=w) (P:=P) hT hβ (λt cs=>DataW.trod enc P w 0 (λ_=>true) true m t cs) (cs:=cs) fs 0 (t1::ts) xs (by simp) hft
     (λfd hfd te cs y hlf hy=>Wyy hT hβ n m fd.2 te cs y (Xae.1 h.1 fd hfd) hlf hy) (by rw[hxl,←hfs];simp)
     (λi fd hi=>by
      rw[←hfs]at hi
      rw[Xam]at hi
      obtain⟨fl,hfl,he⟩:=Xx.1 hi
      subst he
      exact hxs i fl (by simpa using hfl)) (by rw[hcl,hsz,Xbb])
    obtain⟨d,g1,g2,g3⟩:=key
    rw[Xcc]at g1
    refine⟨d,g1,g2,Xcn g3 ?_⟩
    have:=hβ.agg (xs.map (·.1))
    rw[Xef]at this
    exact this
   ·cases h2
  |ptr e=>cases h
  |arr m e=>cases h
theorem Wld{G:GH}{w:World}:∀(t:Ty) (d:t.den) (vs:List Value),Enc G t d vs→TyRel G w t d vs []
 | .int _,_,_,h=>⟨rfl,h⟩
 | .bool,_,_,h=>⟨rfl,h⟩
 | .str,_,_,h=>⟨rfl,h⟩
 | .slice _,_,_,h=>⟨rfl,h⟩
 | .own _,_,_,h=>h.elim
 | .prod a b,d,vs,⟨c1,c2,he,h1,h2⟩=>⟨c1,c2,[],[],he,rfl,Wld a _ _ h1,Wld b _ _ h2⟩
def WfArgs:(ps:List PTy)→PDen ps→Prop
 | [],_=>True
 | .v t _::ps,d=>Wfd t d.1∧WfArgs ps d.2
 | .box _::_,_=>False
 | .mut _::_,_=>False
 | .clos _ _::_,_=>False
 | .kv _ _::_,_=>False
 | .rp _::_,_=>False
 | .vj _::_,_=>False
 | .boxal _ _::_,_=>False
def Wpd:(ps:List PTy)→PDen ps→Nat
 | [],_=>0
 | .v t _::ps,d=>Wob t d.1+Wpd ps d.2
 | .box _::_,_=>0
 | .mut _::_,_=>0
 | .clos _ _::_,_=>0
 | .kv _ _::_,_=>0
 | .rp _::_,_=>0
 | .vj _::_,_=>0
 | .boxal _ _::_,_=>0
def psOk(P:Program)(T:Tab):List TypeId→List PTy→Bool
 | [],[]=>true
 |t::ts,p::ps=>(match p with
  | .v ty agg=>(match look T t with|some te=>decide (te.ty=ty)&&(te.agg==agg)|none=>false)&&argOk T 20 t&&P.readableRec t&&Nat.blt t P.types.size&&psOk P T ts ps
  | .box _=>false
  | .mut _=>false
  | .clos _ _=>false
  | .kv _ _=>false
  | .rp _=>false
  | .vj _=>false
  | .boxal _ _=>false)
 |_,_=>false
theorem open_args(hT:Wbj P T)(hβ:Bulk β):∀(ts:List TypeId) (ps:List PTy) (vs:List Value) (ds:List (DataW H)) (pl:List MemPlace),psOk P T ts ps=true→DataW.TrodAll enc P w 0 (λ_=>true) true ts vs ds pl→
  (∀(j:Nat) (t:TypeId) (v:Value),ts[j]?=some t→vs[j]?=some v→∃base,Value.okWide P w .any base t v)→
  ∃d:PDen ps,Wdp (Wtc w) w ps d vs [] []∧WfArgs ps d∧Wpd ps d≤(ds.map β).sum
 | [],[],vs,ds,pl,_,h,_=>by
  obtain⟨rfl,rfl,_⟩:=trodAll_nil h
  exact⟨(),⟨rfl,rfl,rfl⟩,trivial,by simp[Wpd]⟩
 | [],_::_,_,_,_,h,_,_=>by cases h
 |_::_,[],_,_,_,h,_,_=>by cases h
 |t::ts,.box _::ps,_,_,_,h,_,_=>by cases h
 |t::ts,.mut _::ps,_,_,_,h,_,_=>by cases h
 |t::ts,.clos _ _::ps,_,_,_,h,_,_=>by cases h
 |t::ts,.kv _ _::ps,_,_,_,h,_,_=>by cases h
 |t::ts,.rp _::ps,_,_,_,h,_,_=>by cases h
 |t::ts,.vj _::ps,_,_,_,h,_,_=>by cases h
 |t::ts,.boxal _ _::ps,_,_,_,h,_,_=>by cases h
 |t::ts,.v ty agg::ps,vs,ds,pl,hp,h,hval=>by
  obtain⟨v,vs',d,ds',p,q,rfl,rfl,rfl,h0,hr⟩:=trodAll_cons h
  simp only[psOk,Xh]at hp
  obtain⟨⟨⟨⟨h1,h2⟩,h3⟩,h4⟩,h5⟩:=hp
  split at h1
  ·rename_i te hl
   simp only[Xh]at h1
   have e1:te.ty=ty:=of_decide_eq_true h1.1
   have e2:te.agg=agg:=eq_of_beq h1.2
   subst e1 e2
   obtain⟨fuel,hx⟩:=h0
   obtain⟨x,hx1,hx2,hx3⟩:=Wyy hT hβ 20 fuel t te _ (d,p) h2 hl hx
   obtain⟨base,hok⟩:=hval 0 t v rfl rfl
   obtain⟨dd,g1,g2,g3⟩:=open_args hT hβ ts ps vs' ds' q h5 hr (λj t v hj hv=>hval (j+1) t v (by simpa using hj) (by simpa using hv))
   refine⟨(x,dd),⟨v,vs',[],[],rfl,rfl,?_,g1⟩,⟨hx2,g2⟩,?_⟩
   ·have hu:=(hT _ _ hl).und
    unfold VRel
    obtain⟨ty,ag,shape⟩:=te
    simp only at hx1 hx2 hx3⊢
    have hone:∀u:Value,u.cells= #[u]→u=v→v.cells.toList= [v]:=λu h e=>by rw[←e,h]
    cases shape with
    |basic=>
     obtain⟨ha,hu⟩:=hu
     simp only at ha;subst ha
     simp only[Xbm,if_false]
     have:v.cells.toList= [v]:=by
      cases ty with
      |int k=>obtain⟨n,rfl⟩:=okWide_int hu hok;rfl
      |bool=>obtain⟨n,rfl⟩:=okWide_bool hu hok;rfl
      |str=>obtain⟨n,rfl⟩:=okWide_string hu hok;rfl
      |slice e=>cases hu
      |own e=>cases hu
      |prod a b=>cases hu
     rw[this]at hx1
     exact Wld _ _ _ hx1
    |slice e=>
     obtain⟨ha,hu,_⟩:=hu
     simp only at ha;subst ha
     simp only[Xbm,if_false]
     obtain⟨a,l,c,rfl⟩:=okWide_slice hu hok
     exact Wld _ _ _ hx1
    |struct fs=>
     obtain⟨ha,fields,hu,_⟩:=hu
     simp only at ha;subst ha
     simp only[if_true]
     obtain⟨cs,rfl,_⟩:=okWide_struct hu hok
     exact⟨cs.toList,by simp,Wld _ _ _ hx1⟩
    |ptr e=>simp only[argOk,hl]at h2;cases h2
    |arr m e=>simp only[argOk,hl]at h2;cases h2
   ·have hx3:Wob te.ty x≤β d:=hx3
    simp only[Wpd,Xaj,Xca]
    omega
  ·cases h1
theorem args_len2:∀(ts:List TypeId) (vs:List Value) (ds:List (DataW H)) (pl:List MemPlace),DataW.TrodAll enc P w 0 (λ_=>true) true ts vs ds pl→ds.length=ts.length
 | [],vs,ds,pl,h=>by obtain⟨_,rfl,_⟩:=trodAll_nil h;rfl
 |t::ts,vs,ds,pl,h=>by
  obtain⟨v,vs',d,ds',p,q,rfl,rfl,rfl,h0,hr⟩:=trodAll_cons h
  simp[args_len2 ts vs' ds' q hr]
theorem args_stay(hlaid:laidOutB P=true){W W':World}(hb:Below W.heap.size W W'){sp:Nat→Bool}:∀(ts:List TypeId) (ps:List PTy) (vs:List Value) (ds:List (DataW H)) (pl:List MemPlace),psOk P T ts ps=true→
  DataW.TrodAll enc P W 0 (λ_=>true) true ts vs ds pl→(∀p∈pl,p.block<W.heap.size)→(∀p∈pl,sp p.block=true)→DataW.TrodAll enc P W' 0 sp true ts vs ds pl
 | [],ps,vs,ds,pl,_,h,_,_=>by
  obtain⟨rfl,rfl,rfl⟩:=trodAll_nil h
  exact trodAll_mk0
 |t::ts,[],_,_,_,h,_,_,_=>by cases h
 |t::ts,.box _::ps,_,_,_,h,_,_,_=>by cases h
 |t::ts,.mut _::ps,_,_,_,h,_,_,_=>by cases h
 |t::ts,.clos _ _::ps,_,_,_,h,_,_,_=>by cases h
 |t::ts,.kv _ _::ps,_,_,_,h,_,_,_=>by cases h
 |t::ts,.rp _::ps,_,_,_,h,_,_,_=>by cases h
 |t::ts,.vj _::ps,_,_,_,h,_,_,_=>by cases h
 |t::ts,.boxal _ _::ps,_,_,_,h,_,_,_=>by cases h
 |t::ts,.v ty agg::ps,vs,ds,pl,hp,h,hlt,hsp=>by
  obtain⟨v,vs',d,ds',p,q,rfl,rfl,rfl,h0,hr⟩:=trodAll_cons h
  simp only[psOk,Xh]at hp
  obtain⟨⟨⟨⟨h1,h2⟩,h3⟩,h4⟩,h5⟩:=hp
  have hrow:t<P.types.size:=by rw[Xgv]at h4;exact h4
  exact⟨p,q,WideElems.Trod_stays hlaid h3 hrow h0 (λx hx=>hb.same (hlt x (Xk _ hx))) (λx hx=>hsp x (Xk _ hx)),
   args_stay hlaid hb ts ps vs' ds' q h5 hr (λx hx=>hlt x (Xg _ hx)) (λx hx=>hsp x (Xg _ hx)),rfl⟩
theorem post_law{f:Func}{s:ChangeSpec}{apart fresh handsOn again:Bool}{W W':World}{args:Array Value}{v:Value}{ds gs:List (DataW H)}{before pa pv:List MemPlace}
  (hW:DataW.Whole enc P f.params.toList s.vars apart W args.toList ds gs before)
  (hres:∀(b:Nat) (sp:Nat→Bool) (hd:Bool),DataW.TrodAll enc P W' b sp hd f.resultTypes.toList (v.resultList f.resultTypes.size) (s.fn H (ds++gs)).results [])
  (hargs:∀sp:Nat→Bool,(∀p∈before,sp p.block=true)→DataW.TrodAll enc P W' 0 sp true f.params.toList args.toList (s.fn H (ds++gs)).args pa)
  (hvars:∀sp:Nat→Bool,(∀p∈before,sp p.block=true)→DataW.TrodVars enc P W' sp s.vars (s.fn H (ds++gs)).vars pv)
  (hps:before=pa++pv) (hk:W.keptBut W' (· ∈before)) (hfz:∀a,a.block<W.heap.size→W'.frozen? a=W.frozen? a)
  (hok:∀(j:Nat) (t:TypeId) (r:Value),f.resultTypes[j]?=some t→(v.resultList f.resultTypes.size)[j]?=some r→Value.okWide P W' .any 0 t r):
  s.post enc P f apart fresh handsOn again W args v W':=by
 have hold:∀p∈before,(λb=>decide (b<W.heap.size)) p.block=true:=λp hp=>by simpa using hW.lt p hp
 refine⟨ds,gs,before,[],pa,pv,hW,hres _ _ _,hargs _ hold,hvars _ hold,World.keptBut_mono (λp hp=>⟨hp,?_⟩) hk,λ_=>?_⟩
 ·rw[hps,Xn]at hp
  exact Or.inr hp
 ·have hlt:=hW.lt
  obtain⟨_,_,_,_,_,hz,hn⟩:=hW
  refine⟨hok,_,_,([]++pa)++pv,⟨[]++pa,pv,trodAll_append (hargs _ (λ_ _=>rfl)) (hres _ _ _),hvars _ (λ_ _=>rfl),rfl,?_,?_⟩,?_⟩
  ·intro b off hp
   have hp':MemPlace.cell b off∈before:=by rw[hps];simpa using hp
   rw[hfz ⟨b,off,none⟩ (hlt _ hp')]
   exact hz b off hp'
  ·intro ha
   have:=hn ha
   rw[hps]at this
   simpa using this
  ·intro p hp _
   rw[hps]
   simpa using hp
theorem law_row(hT:Wbj P T)(hlaid:laidOutB P=true){f:Func}{k:FuncId}{s:ChangeSpec}(hsv:s.vars= [])(hs:∀ds:List (DataW H),ds.length=f.params.toList.length→s.fn H ds={results:=[.lit (.bool true)],args:=ds})
  {ps:List PTy} (hps:psOk P T f.params.toList ps=true) {tb:TypeId} (hres:f.resultTypes= #[tb]) (htb:P.underlying tb=some .bool) {run:Nat→PDen ps→Option (ODen ps×RDen [.v .bool false])}
  (hgood:∀N,Good P k (Sig.of ps [.v .bool false] (run N))) (hβ:Bulk β) {ok:List (DataW H)→Prop} {M:Nat→Prop} (hbulk:∀ds m,ok ds→m≤(ds.map β).sum→M m)
  (hlaw:∀d:PDen ps,WfArgs ps d→M (Wpd ps d)→∃N o,run N d=some (o,(true,()))) {apart fresh handsOn again:Bool}
  (W:World) (base:Nat) (args:Array Value) (ds gs:List (DataW H)) (before:List MemPlace)
  (hval:∀(j:Nat) t v,f.params[j]?=some t→args[j]?=some v→Value.okWide P W .any base t v)
  (hW:DataW.Whole enc P f.params.toList s.vars apart W args.toList ds gs before) (hk:ok ds):
  Calls P k args W λe W'=>∃v,e= .returned v∧s.post enc P f apart fresh handsOn again W args v W':=by
 have hW':=hW
 have hlt:=hW.lt
 obtain⟨p,q,hA,hV,hpq,hfz,hnd⟩:=hW
 rw[hsv]at hV
 obtain⟨hgs,hq⟩:=trodVars_none hV
 subst hgs hq
 rw[Xcw]at hpq
 subst hpq
 obtain⟨d,h1,h2,h3⟩:=open_args (w:=W) hT hβ f.params.toList ps args.toList ds before hps hA (λj t v hj hv=>⟨base,hval j t v (by simpa using hj) (by simpa using hv)⟩)
 obtain⟨N,o,ho⟩:=hlaw d h2 (hbulk ds _ hk h3)
 have hc:=hgood N d (o,(true,())) ho (Wtc W) W args.toList [] [] h1 List.Pairwise.nil (by simp) (λb o v hv=>hv)
 have hargs:args.toList.toArray=args:=by simp
 rw[hargs]at hc
 refine hc.mono λe W' ⟨rv,kf,ms,ns',G',he,ha⟩=>?_
 have hb:Below W.heap.size W W':=⟨ha.le.os,ha.le.tape,ha.le.output,ha.le.size,λb hb=>ha.le.whole b hb (λo ⟨q,hq,_⟩=>by simp at hq)⟩
 obtain⟨v,vs',n1,n2,e1,e2,e3,e4⟩:=ha.res
 obtain⟨e5,_⟩:=e4
 subst e5
 have hv:v= .bool true:=by
  unfold VRel at e3
  simp only[Xbm,if_false]at e3
  have:=e3.2
  simpa [Enc]using this
 subst hv
 have hrv:Wub rv= .bool true:=by rw[e1];rfl
 rw[hrv]at he
 refine⟨.bool true,he,?_⟩
 have hlen:=args_len2 _ _ _ _ hA
 have hsf:=hs (ds++ []) (by rw[Xcw];exact hlen)
 refine post_law (pa:=before) (pv:=[]) hW' ?_ ?_ ?_ (by simp) (hb.frame _) (λa ha=>hb.frozen ha) (ok_one hres rfl (okWide_bool_mk htb _))
 ·intro b sp hd
  rw[hsf,hres]
  exact trodAll_cons_mk (shut_bool htb _) trodAll_mk0
 ·intro sp hsp
  rw[hsf,Xcw]
  exact args_stay hlaid hb _ _ _ _ _ hps hA hlt hsp
 ·intro sp hsp
  rw[hsf,hsv]
  rfl
end
end Go.Sx
namespace Go.Sx
set_option linter.unusedVariables false
def sortInts(xs:List Int):List Int:=xs.mergeSort λx y=>decide (x≤y)
def Zqb(N:Nat)(xs:List Int):Option ((List Int×Unit)×Unit):=bif decide (xs.length<4611686018427387904)then some ((sortInts xs,()),())else none
theorem sortInt_some{N:Nat}{xs:List Int}{o:(List Int×Unit)×Unit}(h:Zqb N xs=some o):xs.length<4611686018427387904∧o=((sortInts xs,()),()):=by
 unfold Zqb at h
 by_cases h':xs.length<4611686018427387904
 ·rw[show decide (xs.length<4611686018427387904)=true by simpa using h']at h
  simp only[cond_true]at h
  injection h with h
  exact⟨h',h.symm⟩
 ·rw[show decide (xs.length<4611686018427387904)=false by simpa using h']at h
  cases h
end Go.Sx
namespace Go.Sx
set_option linter.unusedVariables false
def Wzg{α:Type}(r:α→α→Bool):List α→Bool
 | []=>true
 |x::l=>l.all (r x)&&Wzg r l
def lessBy{α:Type}(cf:α→α→Int)(x y:α):Bool:=decide (cf x y<0)
def apart{α:Type}(cf:α→α→Int)(x y:α):Bool:=lessBy cf x y||lessBy cf y x
def sortBy{α:Type}(cf:α→α→Int)(xs:List α):List α:=xs.mergeSort λx y=>!lessBy cf y x
def Znb{α:Type}(rng:α→Bool)(cf:α→α→Int)(N:Nat)(xs:List α):Option ((List α×Unit)×Unit):=
 bif xs.all rng&&(Wzg (apart cf) xs&&decide (xs.length<4611686018427387904))then some ((sortBy cf xs,()),())else none
structure SwoOn{α:Type}(rng:α→Bool)(cf:α→α→Int):Prop where
 irr:∀x,rng x=true→¬cf x x<0
 tr:∀x y z,rng x=true→rng y=true→rng z=true→cf x y<0→cf y z<0→cf x z<0
 nt:∀x y z,rng x=true→rng y=true→rng z=true→¬cf x y<0→¬cf y z<0→¬cf x z<0
theorem sortBy_some{α:Type}{rng:α→Bool}{cf:α→α→Int}{N:Nat}{xs:List α}{o:(List α×Unit)×Unit}(h:Znb rng cf N xs=some o):
  (∀x∈xs,rng x=true)∧Wzg (apart cf) xs=true∧xs.length<4611686018427387904∧o=((sortBy cf xs,()),()):=by
 unfold Znb at h
 cases hb:xs.all rng&&(Wzg (apart cf) xs&&decide (xs.length<4611686018427387904))
 ·rw[hb]at h;cases h
 ·rw[hb]at h
  simp only[cond_true]at h
  injection h with h
  simp only[Xh,decide_eq_true_eq]at hb
  exact⟨Xae.1 hb.1,hb.2.1,hb.2.2,h.symm⟩
theorem pairs_get{α:Type}{r:α→α→Bool}:∀{l:List α},Wzg r l=true→∀(i j:Nat) (hi:i<l.length) (hj:j<l.length),i<j→r l[i] l[j]=true
 | [],_,i,_,hi,_,_=>by simp at hi
 |x::l,h,0,j+1,hi,hj,hij=>by
  simp only[Wzg,Xh]at h
  exact Xae.1 h.1 _ (List.getElem_mem _)
 |x::l,h,i+1,j+1,hi,hj,hij=>by
  simp only[Wzg,Xh]at h
  simpa using pairs_get h.2 i j (by simpa using hi) (by simpa using hj) (by omega)
def rngI(k:Int):Bool:=decide (-1000000000≤k)&&decide (k≤1000000000)
def rngE(a:Int×Int×Int):Bool:=rngI a.1
def cfE(a b:Int×Int×Int):Int:=a.1-b.1
def rngH(a:Int×Int×Int):Bool:=rngI a.1&&rngI a.2.1
def cfH(a b:Int×Int×Int):Int:=bif a.2.1==b.2.1 then a.1-b.1 else a.2.1-b.2.1
theorem Wqj{k:Int}(h:rngI k=true):-1000000000≤k∧k≤1000000000:=by unfold rngI at h;simpa using h
theorem swoE:SwoOn rngE cfE:=⟨λx _=>by unfold cfE;omega,λx y z _ _ _=>by unfold cfE;omega,λx y z _ _ _=>by unfold cfE;omega⟩
theorem Wek{a b:Int×Int×Int}:cfH a b<0↔(a.2.1<b.2.1∨(a.2.1=b.2.1∧a.1<b.1)):=by
 unfold cfH
 by_cases h:a.2.1=b.2.1
 ·have:(a.2.1==b.2.1)=true:=by simpa using h
  rw[this];simp only[cond_true];omega
 ·have:(a.2.1==b.2.1)=false:=by simpa using h
  rw[this];simp only[cond_false];omega
theorem cfH_eq{a b:Int×Int×Int}(h:(a.2.1 !=b.2.1)=false):a.1-b.1=cfH a b:=by
 have h:a.2.1=b.2.1:=bne_eq_false_iff_eq.1 h
 unfold cfH;rw[beq_iff_eq.2 h];rfl
theorem cfH_ne{a b:Int×Int×Int}(h:(a.2.1 !=b.2.1)=true):a.2.1-b.2.1=cfH a b:=by
 have h:a.2.1≠b.2.1:=bne_iff_ne.1 h
 unfold cfH;rw[beq_eq_false_iff_ne.2 h];rfl
theorem swoH:SwoOn rngH cfH:=⟨λx _=>by rw[Wek];omega,λx y z _ _ _=>by rw[Wek,Wek,Wek];omega,λx y z _ _ _=>by rw[Wek,Wek,Wek];omega⟩
end Go.Sx
