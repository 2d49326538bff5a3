/- The abstract machine, part 3: a reflective interpreter of the program's code over data, with its soundness over the model. -/
import Derived.Test.YtpfdembammnpcaaGreatEng2
open Option renaming bind_assoc→NY,map→Ee,bind_some→Xd,getD_some→D8,bind_eq_some_iff→jc,map_eq_some_iff→Xw
open Bool renaming not_true→Xn,and_eq_true→Xh,not_eq_true'→de,false_eq_true→dq,or_eq_true→pM
open List renaming mem_map→Xv,mem_cons_of_mem→Xg,mem_append_left→Xo,mem_append_right→Xi,mem_cons→Xr,mem_cons_self→Xl,length_append→Xz,getD_eq_getElem?_getD→lg,getElem?_append→eW,getElem?_cons_zero→NK,getElem?_eq_none→gw,all_eq_true→bA,append_of_mem→Hp,mem_append→Xp,range→cK,mem_filter→ei,mem_range→Hl,filter_cons→en,eq_nil_of_length_eq_zero→dV,eq_nil_iff_forall_not_mem→Yo,nodup_nil→p0,mem_of_getElem?→fN,nodup_cons→cr,nil_append→df,cons_append→dO,length_filter_le→Ay,length_range→NP,mem_flatMap→N1,map_cons→bz,map_map→D7,map_id→YQ,map_congr_left→Yp,append_nil→hU,nodup_append→dc,filter_append→pK,prefix_append→YN,map_append→Xx,map_nil→eX,mem_erase_of_ne→YL,length_erase_of_mem→YB,length_pos_of_mem→YF,length_cons→Xs,getElem?_cons_succ→Ye,getElem?_eq_some_iff→dp,getElem?_append_right→vC,getElem?_tail→pN,mapM_cons→Ed,pairwise_singleton→rP,mem_singleton→cw,take_of_length_le→vD,getElem?_eq_getElem→Xq,drop_zero→eC,tail_cons→Eb,getElem?_map→dF,all_cons→dG,length→Xb,sum_cons→D6
open Nat renaming sub_self→pZ,blt_eq→N3,le_refl→Xm,zero_add→bX,zero_le→j6,sub_zero→rR,beq→bq,le_trans→fP,add_zero→c5,add_sub_cancel_left→rQ,ble→Hu,le_of_ble_eq_true→NS,add_mul→j8,zero_mul→Ec
open Array renaming getD_eq_getD_getElem?→D4,getElem?_setIfInBounds→Yr,getElem?_eq_getElem→Hk,getElem?_eq_some_iff→vA,replicate→AD,getElem?_append_left→Yw,mapM_eq_mapM_toList→Yc
namespace Go.Sx
set_option linter.unusedVariables false
set_option linter.unusedSimpArgs false
section
variable{T:Tab}{Γ:Ctx}{A:List (Nat×An)}
theorem gP{α β:Type}{c:Prop}[Decidable c]{x:Option α}{f:α->Option β}:(if c then x else none).bind f=if c then x.bind f else none:=by split<;>rfl
theorem mY{α β:Type}{c:Bool}{x:Option α}{f:α->Option β}:(bif c then x else none).bind f=bif c then x.bind f else none:=by cases c<;>rfl
theorem K4{R:Type}(sg:Sig)(st:St)(xs:List AVal)(k:KV R):m7 sg st xs k=(m7 sg st xs cC).bind λp=>k p.1 p.2.1 p.2.2:=by
 unfold m7;split
 .split
  .rw[sg.law,sg.law,NY];rfl
  .rfl
 .rfl
theorem Wrp{R:Type}(sg:Sig)(st:St)(xs:List AVal)(k:KV R):rj sg st xs k=(rj sg st xs cC).bind λp=>k p.1 p.2.1 p.2.2:=by
 unfold rj;cases sg.fresh with
 |true=>exact K4 _ _ _ _
 |false=>
  simp only[Wb];split
  .split
   .exact K4 _ _ _ _
   .exact K4 _ _ _ _
  .rfl
theorem Wno{R:Type}(st:St)(a:Ty)(s x:AVal)(k:KV R):qL st a s x k=(qL st a s x cC).bind λp=>k p.1 p.2.1 p.2.2:=by
 unfold qL;split
 .split
  .split
   .split
    .rw[mY];rfl
    .rfl
   .rfl
  .rfl
 .split
  .split
   .split
    .rw[gP,mY];rfl
    .rfl
   .rfl
  .rfl
 .rfl
theorem WnI{R:Type}(st:St)(e:Ty)(a:List (Nat×AVal))(k:KV R):m5 st e a k=(m5 st e a cC).bind λp=>k p.1 p.2.1 p.2.2:=by
 unfold m5;split
 .rw[gP];split
  .split
   .split
    .rw[gP];rfl
    .rfl
   .rfl
  .rfl
 .rfl
theorem WoV{R:Type}(st:St)(b:Ty)(a:Nat)(l h:Option Int)(k:KV R):nn st b a l h k=(nn st b a l h cC).bind λp=>k p.1 p.2.1 p.2.2:=by
 unfold nn;split
 .rw[gP,mY];rfl
 .rfl
theorem WlO{R:Type}(st:St)(t a:TypeId)(s x:AVal)(k:KV R):t8 T st t a s x k=(t8 T st t a s x cC).bind λp=>k p.1 p.2.1 p.2.2:=by
 unfold t8;split
 .split
  .split
   .cases G3 st s x with
    |false=>exact Wno _ _ _ _ _
    |true=>
    simp only[Xn,Wb];split
    .rw[mY];rfl
    .split
     .split
      .rw[mY];rfl
      .rfl
     .rfl
    .split
     .split
      .rw[mY];rfl
      .rfl
     .rfl
    .rfl
   .rfl
  .rfl
 .rfl
theorem Ni{R:Type}(p:Option (Bool×AVal))(objs:aa)(nx:Nat)(k:KV R):(match p with|some (c,v)=>bif c then k v objs nx else none|none=>none)=(match p with|some (c,v)=>bif c then cC v objs nx else none|none=>none).bind λp=>k p.1 p.2.1 p.2.2:=by
 rcases p with _|⟨c,v⟩
 .rfl
 .cases c<;>rfl
theorem y6{R:Type}(o:Oper)(st:St)(k:KV R):rxe T Γ A o st k=(rxe T Γ A o st cC).bind λp=>k p.1 p.2.1 p.2.2:=by
 unfold rxe;split
 .split
  .rw[gP];rfl
  .rw[gP];rfl
  .rfl
 .split<;>rfl
 .split
  .split
   .split<;>rfl
   .rfl
  .rfl
 .split
  .split
   .split
    .rw[gP];split
     .exact WnI _ _ _ _
     .rfl
    .split
     .rw[gP];rfl
     .rfl
   .rfl
  .rfl
 .split
  .split
   .split
    .rw[gP,mY];rfl
    .rw[gP,mY];rfl
   .rfl
  .rfl
 .split
  .split
   .split<;>rfl
   .rfl
  .rfl
 .split
  .split
   .split
    .split
     .rw[gP];split
      .exact WoV _ _ _ _ _ _
      .rfl
     .split
      .rw[gP,mY];rfl
      .rw[gP,mY];rfl
      .rfl
    .rfl
   .rfl
  .exact Ni _ _ _ _
 .split
  .split
   .exact WlO _ _ _ _ _ _
   .rfl
  .split
   .split
    .split
     .rw[gP];rfl
     .rfl
    .rfl
   .rfl
  .exact Ni _ _ _ _
  .split
   .split
    .split
     .exact Wrp _ _ _ _
     .exact‹Inl›.law _ _ _
    .rfl
   .rfl
  .rfl
 .exact Ni _ _ _ _
end
section
variable{T:Tab}{Γ:Ctx}{A:List (Nat×An)}
theorem Wpp{st:St}{env:List (Nat×AVal)}{t:TypeId}{x v:AVal}:lW T {env:=env,objs:=st.objs,nx:=st.nx} t x v=(lW T st t x v).map λs=>{env:=env,objs:=s.objs,nx:=s.nx}:=by
 unfold lW;generalize Wt T t=q;generalize jN v=z;rcases q with _|te
 .rfl
 rcases z with _|ds
 .rcases x with(c|cs)|xs
  .cases c<;>rfl
  .rfl
  .rfl
 rcases x with(c|cs)|xs
 .cases c with
  |ptr id off=>
   show(match Wt st.objs id with|some (.box cs)=>_|_=>_)=Ee _ (match Wt st.objs id with|some (.box cs)=>_|_=>_);generalize Wt st.objs id=a;rcases a with _|a
   .rfl
   cases a with
   |box cs=>
    show(if _ then _ else _)=Ee _ (if _ then _ else _);split<;>rfl
   |arr e xs=>rfl
   |hole e xs i p=>rfl
   |dead=>rfl
  |eptr id i off=>
   show(match Wt st.objs id with|some (.arr e xs)=>_|_=>_)=Ee _ (match Wt st.objs id with|some (.arr e xs)=>_|_=>_);generalize Wt st.objs id=a;rcases a with _|a
   .rfl
   cases a with
   |box cs=>rfl
   |hole e xs i p=>rfl
   |dead=>rfl
   |arr e xs=>
    show(if _ then _ else _)=Ee _ (if _ then _ else _);by_cases b:(decide (te.ty.size=ds.length)&&te.plain&&decide (off+ds.length<=e.size)&&e.data)=true
    .rw[Wf b,Wf b];generalize aC e (kB (split e (List.getD xs i e.dflt)) off ds) st.objs=r;rcases r with _|⟨d,m,l⟩
     .rfl
     .cases m<;>cases l<;>rfl
    .rw[We b,We b];by_cases f:(decide (te.ty.size=ds.length)&&te.plain&&decide (off=0)&&decide (ds.length=e.size))=true
     .rw[Wf f,Wf f];generalize aC e ds st.objs=r;rcases r with _|⟨d,m,l⟩
      .rfl
      .cases l with
       |nil=>
        show(if _ then _ else _)=Ee _ (if _ then _ else _);split<;>rfl
       |cons _ _=>rfl
     .rw[We f,We f];rfl
  |_=>rfl
 .rfl
 .rfl
theorem Wty{R:Type}(o:Oper){st:St}{env:List (Nat×AVal)}(k:KV R)(g:∀x∈an o.op,ev {env:=env,objs:=st.objs,nx:=st.nx} x=ev st x):
  rxe T Γ A o {env:=env,objs:=st.objs,nx:=st.nx} k=rxe T Γ A o st k:=by
 have j:(∀t x l h m,o.op≠ .slice t x l h m)->b5 T {env:=env,objs:=st.objs,nx:=st.nx} o.op=b5 T st o.op:=λN=>RG o.op N g (λ_ _ _ _ _ _ _=>rfl);obtain⟨L,D,J,O,w,guard⟩:=o;simp only at g j;cases D with
 |alloc t=>rfl
 |box t x=>simp only[rxe,g x (by simp[an])]
 |build t parts=>simp only[rxe,Fe (st:=st) parts.toList λp q=>g p.2 (by simp only[an];exact Xv.2 ⟨p,q,rfl⟩)]
 |buildSlice t n parts=>
  have B:∀e G,m5 {env:=env,objs:=st.objs,nx:=st.nx} e G k=m5 st e G k:=λ_ _=>rfl;simp only[rxe,B,Fe (st:=st) parts.toList λp q=>g p.2 (by simp only[an];exact Xv.2 ⟨p,q,rfl⟩)]
 |makeSlice t n c=>simp only[rxe,g n (by simp[an]),g c (by simp[an])]
 |store t a x=>
  simp only[rxe,g a (by simp[an]),g x (by simp[an])];split
  .rename_i p v _ _;have e:=Wpp (T:=T) (st:={env:=st.env,objs:=o8 st.objs (uv st.objs p v),nx:=st.nx}) (env:=env) (t:=t) (x:=p) (v:=q8 st.objs (uv st.objs p v) v);simp only at e;rw[e];cases lW T {env:=st.env,objs:=o8 st.objs (uv st.objs p v),nx:=st.nx} t p (q8 st.objs (uv st.objs p v) v)<;>rfl
  .rfl
 |slice t x lo hi m=>
  have u:=g x (by simp[an]);have E:=Sp (st:=st) (ar:={env:=env,objs:=st.objs,nx:=st.nx}) lo λy C=>g y (by simp only[an];exact Xg _ (Xo _ C));have H:=Sp (st:=st) (ar:={env:=env,objs:=st.objs,nx:=st.nx}) hi λy C=>g y (by simp only[an];exact Xg _ (Xi _ (Xo _ C)));cases m with
  |none=>
   have q:b5 T {env:=env,objs:=st.objs,nx:=st.nx} (.slice t x lo hi none)=b5 T st (.slice t x lo hi none):=by
    simp only[b5,u];refine yA λv _=>?_;simp only[Gk,E,H]
   have B:∀I F l h,nn {env:=env,objs:=st.objs,nx:=st.nx} I F l h k=nn st I F l h k:=λ_ _ _ _=>rfl;simp only[rxe,u,E,H,q,B]
  |some y=>rfl
 |call c=>
  have K:=Tu (st:=st) (ar:={env:=env,objs:=st.objs,nx:=st.nx}) c.args.toList λx u=>g x (by simp only[an];exact Xi _ u);have q:=j (λ_ _ _ _ _ h=>by cases h);simp only[rxe];split
  .rename_i s x t t2 hc ha eP;have r:ev {env:=env,objs:=st.objs,nx:=st.nx} s=ev st s:=g s (by simp only[an];rw[ha];exact Xi _ (by simp));have M:ev {env:=env,objs:=st.objs,nx:=st.nx} x=ev st x:=g x (by simp only[an];rw[ha];exact Xi _ (by simp));rw[r,M];rfl
  .rename_i x t hc ha eP;have r:ev {env:=env,objs:=st.objs,nx:=st.nx} x=ev st x:=g x (by simp only[an];rw[ha];exact Xi _ (by simp));rw[r]
  .rw[q]
  .rename_i f hc;have r:ev {env:=env,objs:=st.objs,nx:=st.nx} f=ev st f:=g f (by simp only[an];rw[hc];exact Xo _ (by simp));rw[r,K];rfl
  .rfl
 |move x=>simp only[rxe,j (λ_ _ _ _ _ h=>by cases h)]
 |assign x=>simp only[rxe,j (λ_ _ _ _ _ h=>by cases h)]
 |pick c a b=>simp only[rxe,j (λ_ _ _ _ _ h=>by cases h)]
 |load t a=>simp only[rxe,j (λ_ _ _ _ _ h=>by cases h)]
 |nilCheck x=>simp only[rxe,j (λ_ _ _ _ _ h=>by cases h)]
 |binOp D t x y z=>simp only[rxe,j (λ_ _ _ _ _ h=>by cases h)]
 |unOp D t x=>simp only[rxe,j (λ_ _ _ _ _ h=>by cases h)]
 |convert s d x=>simp only[rxe,j (λ_ _ _ _ _ h=>by cases h)]
 |fieldAddr s x f=>simp only[rxe,j (λ_ _ _ _ _ h=>by cases h)]
 |field t x f=>simp only[rxe,j (λ_ _ _ _ _ h=>by cases h)]
 |indexAddr t x i=>simp only[rxe,j (λ_ _ _ _ _ h=>by cases h)]
 |index t x i=>simp only[rxe,j (λ_ _ _ _ _ h=>by cases h)]
 |extract t P=>simp only[rxe,j (λ_ _ _ _ _ h=>by cases h)]
 |makeFunc f first captured=>simp only[rxe,j (λ_ _ _ _ _ h=>by cases h)]
 |_=>rfl
def rI(T:Tab)(o:Oper)(st:St):Option AVal:=match o.op with
 | .build t parts=>match Wt T t,kx st parts.toList with
  |some ⟨a,true,.struct fs⟩,some ps=>
   if fs.all (λf=>match Wt T f.2 with|some te=>te.plain|none=>false)then
    match rr T fs ps (mc a)with
    |some cs=>some (.s (.agg cs))
    |none=>none
   else none
  |_,_=>none
 |op=>match b5 T st op with
  |some (c,v)=>bif c then some v else none
  |none=>none
theorem X5(p:Option (Bool×AVal))(objs:aa)(nx:Nat):(match p with|some (c,v)=>bif c then cC v objs nx else none|none=>none)=(match p with|some (c,v)=>bif c then some v else none|none=>none).bind λv=>cC v objs nx:=by
 rcases p with _|⟨c,v⟩
 .rfl
 .cases c<;>rfl
theorem TB{o:Oper}(b:bw o=false)(st:St):rxe T Γ A o st cC=(rI T o st).bind λv=>cC v st.objs st.nx:=by
 obtain⟨g,h,f,i,e,guard⟩:=o;cases h with
 |alloc t=>cases b
 |box t x=>cases b
 |buildSlice t n parts=>cases b
 |makeSlice t n c=>cases b
 |store t a x=>cases b
 |slice t x lo hi m=>cases b
 |build t parts=>
  simp only[rxe,rI];generalize Wt T t=q;generalize kx st parts.toList=z;rcases q with _|⟨j,d,shape⟩
  .rfl
  rcases z with _|ps
  .cases d<;>cases shape<;>rfl
  cases d with
  |false=>rfl
  |true=>
   cases shape with
   |struct fs=>
    show(if _ then _ else _)=Option.bind (if _ then _ else _) _;rw[gP];cases rr T fs ps (mc j)<;>rfl
   |_=>rfl
 |call c=>
  simp only[rxe,rI];split
  .rename_i hc _ _;simp only[bw,hc]at b;cases b
  .rename_i hc _ _;simp only[bw,hc]at b;cases b
  .exact X5 _ _ _
  .rename_i hc;simp only[bw,hc]at b;cases b
  .rename_i h0 h1 h2 h3;have:b5 T st (.call c)=none:=by
    simp only[b5];split
    .rename_i hc _ _;first|exact Wz hc (h0 _)|exact Wz hc (h1 _)|exact Wz hc (h2 _)|exact Wz hc (h3 _)
    .rename_i hc _ _;first|exact Wz hc (h0 _)|exact Wz hc (h1 _)|exact Wz hc (h2 _)|exact Wz hc (h3 _)
    .rename_i hc _ _;first|exact Wz hc (h0 _)|exact Wz hc (h1 _)|exact Wz hc (h2 _)|exact Wz hc (h3 _)
    .rfl
   rw[this];rfl
 |_=>first|rfl|exact X5 (b5 T st _) st.objs st.nx
theorem WrE{o:Oper}(c:bw o=false){st ar:St}(b:∀x∈an o.op,ev ar x=ev st x)(g:No o.op=true->∀x∈an o.op,∀v,ev st x=some v->kP st ar v):rI T o ar=rI T o st:=by
 have d:(∀t x l h m,o.op≠ .slice t x l h m)->b5 T ar o.op=b5 T st o.op:=λc=>RG o.op c b g;obtain⟨f,j,e,k,a,guard⟩:=o;simp only at b d;cases j with
 |slice t x lo hi m=>cases c
 |build t parts=>simp only[rI,Fe (st:=st) parts.toList λp i=>b p.2 (by simp only[an];exact Xv.2 ⟨p,i,rfl⟩)]
 |_=>simp only[rI,d (λ_ _ _ _ _ h=>by cases h)]
theorem CP(objs:aa):∀l,∃a,kill objs l=a++objs
 | []=>⟨[],rfl⟩
 |i::l=>by
  obtain⟨a,h⟩:=CP objs l;exact⟨(i,.dead)::a,by simp only[kill,h];rfl⟩
theorem oS:∀(c:List PTy) (o:cT c) (a:List Kp) (objs:aa) (nx:Nat),∃b,(di c o a objs nx).1=b++objs
 | [],_,_,objs,_=>⟨[],rfl⟩
 | .v _ _::c,o,a,objs,nx=>oS c o a objs nx
 | .rp _::c,o,a,objs,nx=>oS c o a objs nx
 | .box t::c,o,a,objs,nx=>by
  cases a with
  |nil=>exact⟨[],rfl⟩
  |cons k a=>
   obtain⟨b,h⟩:=oS c o.2 a ((k.id,qX (Wt objs k.id) k.off (unfold t o.1 nx).1)::((unfold t o.1 nx).2.1++objs)) (unfold t o.1 nx).2.2;exact⟨b++(k.id,qX (Wt objs k.id) k.off (unfold t o.1 nx).1)::(unfold t o.1 nx).2.1,by simp only[di,h];simp⟩
 | .vj _::c,o,a,objs,nx=>oS c o a objs nx
 | .boxal t _::c,o,a,objs,nx=>by
  cases a with
  |nil=>exact⟨[],rfl⟩
  |cons k a=>
   obtain⟨b,h⟩:=oS c o.2 a ((k.id,qX (Wt objs k.id) k.off (unfold t o.1 nx).1)::((unfold t o.1 nx).2.1++objs)) (unfold t o.1 nx).2.2;exact⟨b++(k.id,qX (Wt objs k.id) k.off (unfold t o.1 nx).1)::(unfold t o.1 nx).2.1,by simp only[di,h];simp⟩
 | .mut e::c,o,a,objs,nx=>by
  cases a with
  |nil=>exact⟨[],rfl⟩
  |cons k a=>
   obtain⟨b,h⟩:=oS c o.2 a ((k.id,.arr e o.1)::objs) nx;exact⟨b++ [(k.id,.arr e o.1)],by simp only[di,h];simp⟩
 | .clos _ _::c,o,a,objs,nx=>oS c o a objs nx
 | .kv t _::c,o,a,objs,nx=>by
  obtain⟨b,h⟩:=oS c o.2 (a.drop t.owns) (dv t o.1 ((a.take t.owns).map Kp.id)++objs) nx;exact⟨b++dv t o.1 ((a.take t.owns).map Kp.id),by simp only[di,h];simp⟩
theorem oT:∀(a:List PTy) (d:db a) (objs:aa) (nx:Nat),∃b,(d5 a d objs nx).2.1=b++objs
 | [],_,objs,_=>⟨[],rfl⟩
 | .v t agg::a,d,objs,nx=>by
  obtain⟨b,h⟩:=oT a d.2 ((unfold t d.1 nx).2.1++objs) (unfold t d.1 nx).2.2;exact⟨b++(unfold t d.1 nx).2.1,by simp only[d5,h];simp⟩
 | .box t::a,d,objs,nx=>by
  obtain⟨b,h⟩:=oT a d.2 ((nx,.box (unfold t d.1 (nx+1)).1)::((unfold t d.1 (nx+1)).2.1++objs)) (unfold t d.1 (nx+1)).2.2;exact⟨b++(nx,.box (unfold t d.1 (nx+1)).1)::(unfold t d.1 (nx+1)).2.1,by simp only[d5,h];simp⟩
 | .mut _::a,d,objs,nx=>oT a d objs nx
 | .clos _ _::a,d,objs,nx=>oT a d objs nx
 | .kv _ _::a,d,objs,nx=>oT a d objs nx
 | .rp _::a,d,objs,nx=>oT a d objs nx
 | .vj t::a,d,objs,nx=>by
  obtain⟨b,h⟩:=oT a d.2 ((unfold t d.1 nx).2.1++objs) (unfold t d.1 nx).2.2;exact⟨b++(unfold t d.1 nx).2.1,by simp only[d5,h];simp⟩
 | .boxal _ _::a,d,objs,nx=>oT a d objs nx
def Suf(objs:aa)(r:Option Out):Prop:=∀x a nx,r=some (x,a,nx)->∃b,a=b++objs
theorem Suf.none{objs:aa}:Suf objs none:=λ_ _ _ h=>by cases h
theorem Suf.out{objs pre:aa}{x:AVal}{nx:Nat}:Suf objs (cC x (pre++objs) nx):=λ_ _ _ h=>by
 injection h with h;have:=Wq (λp:Out=>p.2.1) h;exact⟨pre,this.symm⟩
theorem Suf.ite{objs:aa}{c:Prop}[Decidable c]{r:Option Out}(h:Suf objs r):Suf objs (if c then r else Option.none):=by split;exact h;exact .none
theorem Suf.bif{objs:aa}{c:Bool}{r:Option Out}(h:Suf objs r):Suf objs (bif c then r else Option.none):=by cases c;exact .none;exact h
theorem Wkd{st ai:St}{t:TypeId}{x v:AVal}(h:lW T st t x v=some ai):∃a,ai.objs=a++st.objs:=by
 unfold lW at h;split at h
 .split at h
  .split at h
   .injection h with h;subst h;exact⟨[_],rfl⟩
   .cases h
  .cases h
 .split at h
  .split at h
   .split at h
    .injection h with h;subst h;exact⟨[_],rfl⟩
    .cases h
   .split at h
    .split at h
     .rename_i m _;split at h
      .injection h with h;subst h;obtain⟨a,b⟩:=CP st.objs m;exact⟨_::a,by simp only[b];rfl⟩
      .cases h
     .cases h
    .cases h
  .cases h
 .cases h
theorem Mv(p:Option (Bool×AVal))(objs:aa)(nx:Nat):Suf objs (match p with|some (c,v)=>bif c then cC v objs nx else none|none=>none):=by
 rcases p with _|⟨c,v⟩
 .exact .none
 .exact Suf.bif (Suf.out (pre:=[]))
theorem KN(sg:Sig)(st:St)(xs:List AVal):Suf st.objs (m7 sg st xs cC):=by
 unfold m7;split
 .rename_i A _;split
  .intro x objs' nx h;rw[sg.law]at h;cases hr:sg.run A.d with
   |none=>rw[hr]at h;cases h
   |some out=>
    rw[hr]at h;simp only[Xd]at h;injection h with h;have a:=Wq (λp:Out=>p.2.1) h;simp only at a;obtain⟨f,b⟩:=CP st.objs A.moved;obtain⟨g,c⟩:=oS sg.ps out.1 A.kept (kill st.objs A.moved) st.nx;obtain⟨i,e⟩:=oT sg.rs out.2 (di sg.ps out.1 A.kept (kill st.objs A.moved) st.nx).1 (di sg.ps out.1 A.kept (kill st.objs A.moved) st.nx).2;refine⟨i++(g++f),?_⟩;rw[←a,e,c,b];simp
  .exact .none
 .exact .none
theorem Suf.over{objs:aa}{l:List Nat}{r:Option Out}(h:Suf (kill objs l) r):Suf objs r:=λx a nx d=>by
 obtain⟨e,b⟩:=h x a nx d;obtain⟨f,c⟩:=CP objs l;exact⟨e++f,by rw[b,c];simp⟩
theorem Wn2(sg:Sig)(st:St)(xs:List AVal):Suf st.objs (rj sg st xs cC):=by
 unfold rj;cases sg.fresh with
 |true=>exact KN _ _ _
 |false=>
  simp only[Wb];split
  .split
   .exact KN _ _ _
   .exact Suf.over (KN sg {env:=st.env,objs:=kill st.objs _,nx:=st.nx} _)
  .exact .none
theorem Mw{objs:aa}{x:AVal}{p:Nat×Ob}{l:List Nat}{nx:Nat}:Suf objs (cC x (p::kill objs l) nx):=by
 obtain⟨pre,h⟩:=CP objs l;rw[h];exact Suf.out (pre:=p::pre)
theorem Wj7(st:St)(a:Ty)(s x:AVal):Suf st.objs (qL st a s x cC):=by
 unfold qL;split
 .split
  .split
   .split
    .exact Suf.bif Mw
    .exact .none
   .exact .none
  .exact .none
 .split
  .split
   .split
    .exact Suf.ite (Suf.bif Mw)
    .exact .none
   .exact .none
  .exact .none
 .exact .none
theorem WjX(st:St)(e:Ty)(a:List (Nat×AVal)):Suf st.objs (m5 st e a cC):=by
 unfold m5;split
 .refine Suf.ite ?_;split
  .split
   .exact Suf.ite (Suf.over Mw)
   .exact .none
  .exact .none
 .exact .none
theorem Wmt(st:St)(b:Ty)(a:Nat)(l h:Option Int):Suf st.objs (nn st b a l h cC):=by
 unfold nn;split
 .exact Suf.ite (Suf.bif (Suf.out (pre:=[])))
 .exact .none
theorem SC(o:Oper)(st:St):Suf st.objs (rxe T Γ A o st cC):=by
 unfold rxe;split
 .split
  .exact Suf.ite (Suf.out (pre:=[_]))
  .exact Suf.ite (Suf.out (pre:=[_]))
  .exact .none
 .split
  .exact Suf.out (pre:=[_])
  .exact .none
 .split
  .split
   .split
    .exact Suf.out (pre:=[])
    .exact .none
   .exact .none
  .exact .none
 .split
  .split
   .split
    .exact Suf.ite (WjX _ _ _)
    .split
     .exact Suf.ite (Suf.over (Suf.out (pre:=[_])))
     .exact .none
   .exact .none
  .exact .none
 .split
  .split
   .split
    .exact Suf.ite (Suf.bif (Suf.out (pre:=[_])))
    .exact Suf.ite (Suf.bif (Suf.out (pre:=[_])))
   .exact .none
  .exact .none
 .split
  .split
   .rename_i ai hs;split
    .obtain⟨pre,h⟩:=Wkd hs;rw[h];exact Suf.over Suf.out
    .exact .none
   .exact .none
  .exact .none
 .split
  .split
   .split
    .split
     .exact Suf.ite (Wmt _ _ _ _ _)
     .split
      .exact Suf.ite (Suf.bif (Suf.out (pre:=[_,_])))
      .exact Suf.ite (Suf.bif (Suf.out (pre:=[_,_,_])))
      .exact .none
    .exact .none
   .exact .none
  .exact Mv _ _ _
 .split
  .split
   .unfold t8;split
    .split
     .split
      .cases G3 st _ _ with
       |false=>exact Wj7 _ _ _ _
       |true=>
       simp only[Xn,Wb];split
       .exact Suf.bif (Suf.out (pre:=[_]))
       .split
        .split
         .exact Suf.bif (Suf.out (pre:=[_,_]))
         .exact .none
        .exact .none
       .split
        .split
         .exact Suf.bif (Suf.out (pre:=[_,_]))
         .exact .none
        .exact .none
       .exact .none
      .exact .none
     .exact .none
    .exact .none
   .exact .none
  .split
   .split
    .split
     .exact Suf.ite (Suf.out (pre:=[_]))
     .exact .none
    .exact .none
   .exact .none
  .exact Mv _ _ _
  .split
   .split
    .split
     .exact Wn2 _ _ _
     .exactλx a nx h=>by have q:=(‹Inl›).suf _ x a nx h;exact q
    .exact .none
   .exact .none
  .exact .none
 .exact Mv _ _ _
end
theorem UJ{x y:Nat}{l:List Nat}:y∈Hc x l↔y=x\/y∈l:=by
 unfold Hc;cases h:dl x l with
 |true=>
  have:=(jx x l).1 h;simp only[Wa];exact⟨.inr,λh=>h.elim (λe=>e▸this) id⟩
 |false=>simp
theorem Sm{y:Nat}:∀(m l:List Nat),y∈DI m l↔y∈m\/y∈l
 | [],l=>by simp[DI]
 |x::m,l=>by
  rw[DI,Sm m,UJ,Xr];constructor
  .rintro(h|h|h)
   .exact .inl (.inr h)
   .exact .inl (.inl h)
   .exact .inr h
  .rintro((h|h)|h)
   .exact .inr (.inl h)
   .exact .inl h
   .exact .inr (.inr h)
theorem Lq{a:List (List Nat)}{y:Nat}:∀(c l:List Nat),y∈pq a c l↔(∃j∈c,y=j\/y∈a.getD j [])\/y∈l
 | [],l=>by simp[pq]
 |j::c,l=>by
  rw[pq,Lq c,Sm,UJ];constructor
  .rintro(⟨k,b,h⟩|h|h|h)
   .exact .inl ⟨k,Xg _ b,h⟩
   .exact .inl ⟨j,Xl ..,.inr h⟩
   .exact .inl ⟨j,Xl ..,.inl h⟩
   .exact .inr h
  .rintro(⟨k,b,h⟩|h)
   .rcases Xr.1 b with rfl|b
    .exact .inr (h.elim (λh=>.inr (.inl h)) .inl)
    .exact .inl ⟨k,b,h⟩
   .exact .inr (.inr (.inr h))
def DM(ops:Array Oper)(S:Nat->Prop):Prop:=∀i o,ops[i]?=some o->S i->∀d∈fM o,S d
theorem R9{ops:Array Oper}{S:Nat->Prop}(f:DM ops S):∀(l:List Oper) (a:List (List Nat)),(∀(k:Nat) (o:Oper),l[k]?=some o->ops[a.length+k]?=some o)->
  (∀i,S i->∀j∈a.getD i [],S j)->∀i,S i->∀j∈(dC l a).getD i [],S j
 | [],a,_,h=>h
 |o::l,a,m,h=>by
  refine R9 f l _ (λk p c=>?_) (λi g j b=>?_)
  .have:=m (k+1) p (by simpa using c);rw[Xz];have e:a.length+(k+1)=a.length+ [pq a (fM o) []].length+k:=by simp;omega
   rw[←e];exact this
  .rw[lg,eW]at b;split at b
   .exact h i g j (by rw[lg];exact b)
   .rename_i ae;by_cases n:i=a.length
    .subst n;simp only[pZ,NK,D8]at b;rcases(Lq _ _).1 b with⟨k,c,d⟩|b
     .have hSk:=f _ o (m 0 o (by simp)) g k c;rcases d with rfl|d
      .exact hSk
      .exact h k hSk j d
     .cases b
    .have:[pq a (fM o) []][i-a.length]?=none:=gw (by simp;omega);rw[this]at b;cases b
theorem Wrh{ops:Array Oper}{S:Nat->Prop}(a:DM ops S){i j:Nat}(h:dD (dC ops.toList []) j i=true)(hi:S i):S j:=
 R9 a ops.toList [] (λk o c=>by simpa using c) (λi _ j b=>by simp at b) i hi j ((jx _ _).1 h)
theorem Sg{ops:Array Oper}:∀(l:List Oper) (n:Nat),G8 l n=true->∀(k:Nat) (o:Oper),l[k]?=some o->∀d∈fM o,d<n+k
 | [],_,_,k,o,hk=>by simp at hk
 |o'::l,n,h,k,o,hk=>by
  simp only[G8,Xh,bA]at h;cases k with
  |zero=>
   simp at hk;subst hk;intro e a;have:=h.1 e a;rw[N3]at this;omega
  |succ k=>
   have:=Sg (ops:=ops) l (n+1) h.2 k o (by simpa using hk);intro e a;have:=this e a;omega
structure Order(ops:Array Oper)(l:List Nat):Prop where
 nodup:l.Nodup
 all:∀i,i<ops.size↔i∈l
 dep:∀p i s,l=p++i::s->∀o,ops[i]?=some o->∀d∈fM o,d∈p
theorem Order.closed{ops:Array Oper}{l:List Nat}(h:Order ops l){p s:List Nat}(e:l=p++s):DM ops (· ∈p):=λi o g f d c=>by
 obtain⟨a,b,rfl⟩:=Hp f;have:=h.dep a i (b++s) (by rw[e];simp) o g d c;simp[this]
theorem Order.bef{ops:Array Oper}{l:List Nat}(h:Order ops l){p s:List Nat}{i j:Nat}(e:l=p++s)(a:dD (dC ops.toList []) j i=true)(hi:i∈p):j∈p:=
 Wrh (h.closed e) a hi
theorem Order.bef'{ops:Array Oper}{l:List Nat}(h:Order ops l){p s:List Nat}{i j:Nat}(e:l=p++i::s)(b:dD (dC ops.toList []) j i=true)(a:j≠i):j∈p:=by
 have:=h.bef (p:=p++ [i]) (s:=s) (by rw[e];simp) b (by simp);rcases Xp.1 this with h|h
 .exact h
 .simp at h;exact Wz h a
def unl(ops:Array Oper)(a:Array Bool):List Nat:=(cK ops.size).filter λi=>!a.getD i true
theorem ur{ops:Array Oper}{a:Array Bool}{i:Nat}:i∈unl ops a↔i<ops.size/\a.getD i true=false:=by
 unfold unl;rw[ei,Hl];simp
theorem Rb{α:Type}{p q:α->Bool}:∀(l:List α),(∀x∈l,q x=true->p x=true)->(∃x∈l,p x=true/\q x=false)->(l.filter q).length<(l.filter p).length
 | [],_,⟨x,a,_⟩=>by cases a
 |x::l,h,⟨y,b,c,d⟩=>by
  have e:∀(l:List α),(∀x∈l,q x=true->p x=true)->(l.filter q).length<=(l.filter p).length:=by
   intro l
   induction l with
   |nil=>intro _;simp
   |cons x l ih=>
    intro h;have:=ih λx a=>h x (Xg _ a);have a:=h x (Xl ..);rw[en,en];cases hqx:q x with
    |true=>rw[a hqx];simpa using this
    |false=>cases p x<;>simp<;>omega
  rw[en,en];rcases Xr.1 b with rfl|b
  .rw[c,d];have:=e l λx a=>h x (Xg _ a);simp;omega
  .have:=Rb l (λx a=>h x (Xg _ a)) ⟨y,b,c,d⟩;have a:=h x (Xl ..);cases hqx:q x with
   |true=>rw[a hqx];simpa using this
   |false=>cases p x<;>simp<;>omega
theorem Mi{a:Array Bool}{i j:Nat}:(a.setIfInBounds i true).getD j true=(if i=j then true else a.getD j true):=by
 simp only[D4,Yr];split
 .split<;>rfl
 .rfl
theorem Wsv{a:Array Bool}{i j:Nat}(hi:i<a.size):(a.setIfInBounds i true).getD j false=(if i=j then true else a.getD j false):=by
 simp only[D4,Yr];split
 .simp[hi]
 .rfl
theorem WwE{a:Array Bool}{i:Nat}(hi:i<a.size):a.getD i true=a.getD i false:=by
 simp[hi]
theorem TZ{o:Oper}{e:Edge}(b:e∈o.after)(a:Region.binds .any e=true):e.on∈fM o:=
 Xv.2 ⟨e,ei.2 ⟨by simpa using b,a⟩,rfl⟩
theorem Ua{ops:Array Oper}(v:∀(k:Nat) (o:Oper),ops[k]?=some o->∀d∈fM o,d<k):∀(fuel t:Nat) (listed:Array Bool),listed.size=ops.size->(unl ops listed).length<=fuel->
  (Region.linearise.go .any ops fuel t listed []).Nodup/\
  (∀i,i∈Region.linearise.go .any ops fuel t listed []↔i∈unl ops listed)/\
  (∀p i s,Region.linearise.go .any ops fuel t listed []=p++i::s->∀o,ops[i]?=some o->∀e∈o.after,Region.binds .any e=true->listed.getD e.on false=true\/e.on∈p)
 |0,t,listed,G,af=>by
  have:unl ops listed= []:=dV (by omega);simp only[Region.linearise.go,List.reverse_nil,this];exact⟨by simp,by simp,λp i s h=>by simp at h⟩
 |fuel+1,t,listed,G,af=>by
  have P:Region.linearise.go .any ops (fuel+1) t listed []=match(Region.ready .any ops listed)[t%(Region.ready .any ops listed).length]? with
   |some i=>Region.linearise.go .any ops fuel (t/(Region.ready .any ops listed).length) (listed.setIfInBounds i true) [i]
   |none=>[]:=rfl
  rw[P];cases hi:(Region.ready .any ops listed)[t%(Region.ready .any ops listed).length]? with
  |none=>
   have B:Region.ready .any ops listed= []:=by
    cases hr:Region.ready .any ops listed with
    |nil=>rfl
    |cons x xs=>
     rw[hr]at hi;have A:t%(x::xs).length<(x::xs).length:=Nat.mod_lt _ (by simp);simp at hi;simp at A;omega
   have M:unl ops listed= []:=by
    have w:∀n i,i<=n->i∉unl ops listed:=by
     intro n
     induction n with
     |zero=>
      intro i J f;obtain⟨a,r⟩:=ur.1 f;have:i∈Region.ready .any ops listed:=by
       rw[mem_ready];refine⟨r,ops[i],Hk a,λe b c=>?_⟩;have:=v i _ (Hk a) e.on (TZ b c);omega
      rw[B]at this;cases this
     |succ n ih=>
      intro i J f;obtain⟨a,r⟩:=ur.1 f;have:i∈Region.ready .any ops listed:=by
       rw[mem_ready];refine⟨r,ops[i],Hk a,λe b c=>?_⟩;have A:=v i _ (Hk a) e.on (TZ b c);have S:=ih e.on (by omega);have u:e.on<ops.size:=by omega
       cases E:listed.getD e.on true with
       |false=>exact Wz (ur.2 ⟨u,E⟩) S
       |true=>rw[←WwE (by omega)];exact E
      rw[B]at this;cases this
    exact Yo.2 λi=>w i i (Xm _)
   rw[M];exact⟨p0,λ_=>Iff.rfl,λp i s h=>by simp at h⟩
  |some i=>
   have Q:=fN hi;obtain⟨a,o,F,u⟩:=mem_ready.1 Q;have I:i<ops.size:=(vA.1 F).1;have R:i∈unl ops listed:=ur.2 ⟨I,a⟩;simp only[];rw[linearise_go_acc,List.reverse_singleton,List.singleton_append];have N:(unl ops (listed.setIfInBounds i true)).length<=fuel:=by
    have:(unl ops (listed.setIfInBounds i true)).length<(unl ops listed).length:=by
     refine Rb _ (λx _ m=>?_) ⟨i,Hl.2 I,by simpa using a,by rw[Mi];simp⟩;rw[Mi]at m;split at m
     .simp at m
     .exact m
    omega
   obtain⟨K,D,L⟩:=Ua v fuel (t/(Region.ready .any ops listed).length) (listed.setIfInBounds i true) (by simp[G]) N;have z:∀j,j∈unl ops (listed.setIfInBounds i true)↔j∈unl ops listed/\j≠i:=λj=>by
    rw[ur,ur,Mi];constructor
    .rintro⟨y,l⟩;split at l
     .cases l
     .rename_i q;exact⟨⟨y,l⟩,λe=>q e.symm⟩
    .rintro⟨⟨y,l⟩,q⟩;exact⟨y,by rw[We (λe=>q e.symm)];exact l⟩
   refine⟨cr.2 ⟨λf=>?_,K⟩,λj=>?_,λp j s e O g C H c=>?_⟩
   .exact((z i).1 ((D i).1 f)).2 rfl
   .rw[Xr,D,z];constructor
    .rintro(rfl|h)
     .exact R
     .exact h.1
    .intro h;by_cases b:j=i
     .exact .inl b
     .exact .inr ⟨h,b⟩
   .cases p with
    |nil=>
     simp only[df,List.cons.injEq]at e;obtain⟨rfl,_⟩:=e;rw[F]at g;injection g with g;subst g;exact .inl (u C H c)
    |cons x p=>
     simp only[dO,List.cons.injEq]at e;obtain⟨rfl,e⟩:=e;rcases L p j s e O g C H c with h|h
     .rw[Wsv (by omega)]at h;split at h
      .rename_i b;exact .inr (by rw[b];simp)
      .exact .inl h
     .exact .inr (Xg _ h)
theorem WiZ{ops:Array Oper}{t:Nat}(l:∀(k:Nat) (o:Oper),ops[k]?=some o->∀d∈fM o,d<k):Order ops (Region.linearise .any ops t):=by
 have n:∀i,i∈unl ops (AD ops.size false)↔i<ops.size:=λi=>by
  rw[ur];constructor
  .exactλh=>h.1
  .exactλh=>⟨h,by simp[h]⟩
 obtain⟨f,g,j⟩:=Ua l ops.size t (AD ops.size false) (by simp) (by
  have:=Ay (λi=>!(AD ops.size false).getD i true) (cK ops.size);rw[NP]at this;exact this)
 refine⟨f,λi=>by unfold Region.linearise;rw[g,n],λp i s e o m d b=>?_⟩;unfold fM at b;obtain⟨c,a,rfl⟩:=Xv.1 b;obtain⟨a,q⟩:=ei.1 a;rcases j p i s e o m c (by simpa using a) q with h|h
 .exfalso;rw[D4,Array.getElem?_replicate]at h;split at h<;>simp at h
 .exact h
theorem Wka{ops:Array Oper}{t:Nat}(a:∀(k:Nat) (o:Oper),ops[k]?=some o->∀d∈fM o,d<k):Order ops (Region.schedule true ops t):=by
 unfold Region.schedule;rw[Wf (by simp)];exact WiZ a
def Ng(n:Nat)(a:List Nat)(o:Oper):Bool:=match o.dst with
 |some d=>Nat.blt d n&& !dl d a
 |none=>true
def iJ(n:Nat)(d:List Nat):Code->Bool
 | .region _ ops _=>ops.toList.all (Ng n d)
 | .seq a b=>iJ n d a&&iJ n d b
 | .cond _ x y=>iJ n d x&&iJ n d y
 | .block _ c=>iJ n d c
 | .loop c=>iJ n d c
 |_=>true
theorem WoX{nt:Slots}{n:Nat}{a:List Nat}(g:nt.n=n)(f:∀p∈nt.kept,p.1∈a){o:Oper}(h:Ng n a o=true):∀d,o.dst=some d->nt.Ok d:=λd c=>by
 unfold Ng at h;rw[c]at h;simp only[Xh,de]at h;refine⟨by have b:=h.1;rw[N3]at b;rw[g];exact b,λp i e=>?_⟩;have:=f p i;rw[e]at this;rw[(jx d a).2 this]at h;exact Wz h.2 (by simp)
def Ex.to:Ex->Exit
 | .normal=>.normal
 | .exit id=>.exit id
 | .ret=>.ret
section
variable{w0:World}{F:CS}{nt:Slots}{G0:GH}{P:Program}{T:Tab}{Γ:Ctx}{A:List (Nat×An)}{R:Type}{r:R}
def kT(w0:World)(F:CS)(nt:Slots)(G0:GH)(k:St->Option R)(r:R)(K:Act->World->Prop):Prop:=
 ∀st a w G ν,Rel w0 F nt G0 G ν st a w->k st=some r->K a w
theorem Wo1{G:GH}{ν:Nat->Nu}{st:St}{a:Act}{w:World}(e:Rel w0 F nt G0 G ν st a w){ops:Array Oper}{j:Nat}{t:Tmp}(f:(ops[j]?).bind (·.dst)=some t){b:Bool}(c:(Wt st.env t).bind asB=some b):
  a.tmps[t]?=some (.bool b)/\yielded ops a.tmps j=some b:=by
 cases hl:Wt st.env t with
 |none=>simp[hl]at c
 |some x=>
  simp only[hl,Xd]at c;obtain⟨v,d,g⟩:=e.env t x hl;have:=MO x v b g c;subst this;refine⟨d,?_⟩;unfold yielded;rw[f];simp[d]
theorem V6(m:ao P T)(q:ez P Γ){ops:Array Oper}{o:Oper}(i:∀d,o.dst=some d->nt.Ok d){k:St->Option R}{K:Act->World->Prop}{Q:Exit->Act->World->Prop}(e:kT w0 F nt G0 k r K)
  {st:St} {a:Act} {w:World} {G:GH} {ν:Nat->Nu} (g:Rel w0 F nt G0 G ν st a w) (h:rxg T Γ A ops o st k=some r):
  if Region.wanted o (yielded ops a.tmps)then o.wp P a w K Q else K (a.put o.dst undef) w:=by
 unfold rxg at h;have s:∀ai,Rel w0 F nt G0 G ν ai a w->Rel w0 F nt G0 G ν (ai.put o.dst (.tup [])) (a.put o.dst undef) w:=λai c=>
  c.put i ⟨[],rfl,rfl,λj x v D=>by simp at D⟩
 have z:∀b:Bool,AValRel G ν st.nx (one .bool b) (.bool b):=λb=>WR (t:=.bool) (d:=b) (v:=.bool b) rfl;split at h
 .rename_i hg;simp only[Region.wanted,hg,WN];exact Na m q g i h (λai u w' G' y c f=>e _ _ _ _ _ c f)
 .rename_i j want hg;split at h
  .rename_i t ht;split at h
   .rename_i hl;obtain⟨v,n,E⟩:=g.env t _ hl;have H:v=undef:=by
     obtain⟨I,B,C,_⟩:=E;rw[B,dV C];rfl
    subst H;have p:yielded ops a.tmps j=none:=by
     unfold yielded;rw[ht];simp only[Xd,n];rfl
    simp only[Region.wanted,hg,p];rw[We (by simp)];exact e _ _ _ _ _ (s _ g) h
   .rename_i x _ hl;split at h
    .rename_i b hb;obtain⟨n,p⟩:=Wo1 g ht (b:=b) (by rw[hl];exact hb);simp only[Region.wanted,hg,p];have l:=g.rebind n (z b);cases b with
     |true=>
      simp only[Wa]at h;cases want with
      |true=>
       simp only[WN]at h;simp only[beq_self_eq_true,WN];exact Na m q l i h (λai u w' G' y c f=>e _ _ _ _ _ c f)
      |false=>
       simp only[dq,W4]at h;rw[We (by simp)];exact e _ _ _ _ _ (s _ l) h
     |false=>
      simp only[Wb]at h;cases want with
      |true=>
       simp only[WN]at h;rw[We (by simp)];exact e _ _ _ _ _ (s _ l) h
      |false=>
       simp only[dq,W4]at h;simp only[beq_self_eq_true,WN];exact Na m q l i h (λai u w' G' y c f=>e _ _ _ _ _ c f)
    .cases h
   .cases h
  .cases h
theorem V9(n:ao P T)(q:ez P Γ){ops:Array Oper}:∀(l:List Oper),(∀o∈l,∀d,o.dst=some d->nt.Ok d)->∀{k:St->Option R} {Q:Exit->Act->World->Prop},kT w0 F nt G0 k r (Q .normal)->
  kT w0 F nt G0 (λst=>rxs T Γ A ops l st k) r (wpList P ops Q l)
 | [],_,k,Q,hK=>λst a w G ν j h=>hK st a w G ν j h
 |o::l,p,k,Q,hK=>λst a w G ν j h=>by
  have x:=V9 (ops:=ops) n q l (λo v=>p o (Xg _ v)) hK;have h:rxg T Γ A ops o st (λai=>match opG A o ai with
   |some (c,co)=>bif c then rxs T Γ A ops l co k else none
   |none=>none)=some r:=h
  have s:kT w0 F nt G0 (λai=>match opG A o ai with
   |some (c,co)=>bif c then rxs T Γ A ops l co k else none
   |none=>none) r (wpList P ops Q l):=λu m w1 g i e f=>by
   have f:(match opG A o u with
    |some (c,co)=>bif c then rxs T Γ A ops l co k else none
    |none=>none)=some r:=f
   split at f
   .rename_i c ar b;obtain⟨rfl,f⟩:=W7 f;have:∃G' z,Rel w0 F nt G0 G' z ar m w1:=by
     unfold opG at b;split at b
     .split at b
      .injection b with b;injection b with _ b;subst b;exact⟨g,i,e⟩
      .exact LL (.inr rfl) e b
     .injection b with b;injection b with _ b;subst b;exact⟨g,i,e⟩
     .injection b with b;injection b with _ b;subst b;exact⟨g,i,e⟩
     .injection b with b;injection b with _ b;subst b;exact⟨g,i,e⟩
     .injection b with b;injection b with _ b;subst b;exact⟨g,i,e⟩
     .exact LL (.inr rfl) e b
     .injection b with b;injection b with _ b;subst b;exact⟨g,i,e⟩
    obtain⟨t,B,y⟩:=this;exact x ar m w1 t B y f
   .cases f
  have:=V6 n q (p o (Xl ..)) (Q:=Q) s j h;unfold wpList;split
  .rename_i hw;rw[Wf hw]at this;exact .inl this
  .rename_i hw;rw[We hw]at this;exact this
end
section
variable{T:Tab}{Γ:Ctx}{A:List (Nat×An)}{ops:Array Oper}
theorem Mc{R:Type}(o:Oper)(st:St)(k:St->Option R):rx1 T Γ A o st k=(rx1 T Γ A o st some).bind k:=by
 unfold rx1;rw[y6,y6 o st (λx objs nx=>some _),NY];rfl
theorem FZ{R:Type}(o:Oper)(st:St)(k:St->Option R):rxg T Γ A ops o st k=(rxg T Γ A ops o st some).bind k:=by
 unfold rxg;cases o.guard with
 |none=>exact Mc o st k
 |some g=>
  obtain⟨j,a⟩:=g;simp only;cases(ops[j]?).bind (·.dst)with
  |none=>rfl
  |some t=>
   simp only;cases Wt st.env t with
   |none=>rfl
   |some x=>
    have c:(match asB x with
      |some b=>bif b
       then(if a then rx1 T Γ A o (st.put (some t) (one .bool true)) k else k ((st.put (some t) (one .bool true)).put o.dst (.tup [])))
       else(if a then k ((st.put (some t) (one .bool false)).put o.dst (.tup []))else rx1 T Γ A o (st.put (some t) (one .bool false)) k)
      |none=>none)=(match asB x with
      |some b=>bif b
       then(if a then rx1 T Γ A o (st.put (some t) (one .bool true)) some else some ((st.put (some t) (one .bool true)).put o.dst (.tup [])))
       else(if a then some ((st.put (some t) (one .bool false)).put o.dst (.tup []))else rx1 T Γ A o (st.put (some t) (one .bool false)) some)
      |none=>none).bind k:=by
     cases asB x with
     |none=>rfl
     |some b=>
      cases b<;>cases a
      .exact Mc _ _ _
      .rfl
      .rfl
      .exact Mc _ _ _
    cases x with
    |s y=>exact c
    |tup l=>
     cases l with
     |nil=>rfl
     |cons y l=>exact c
theorem Dm{R:Type}{o:Oper}{st:St}{k:St->Option R}{r:R}(h:rxg T Γ A ops o st k=some r):∃ai,rxg T Γ A ops o st some=some ai/\k ai=some r:=by
 rw[FZ]at h;exact jc.1 h
structure Eff(o:Oper)(v:AVal)(pre:aa)(aq:Nat)(st ai:St):Prop where
 env:∀t,Wt ai.env t=if o.dst=some t then some v else Wt st.env t
 objs:ai.objs=pre++st.objs
 nx:ai.nx=aq
theorem qH(st:St)(dst:Option Tmp)(x:AVal)(t:Nat):Wt (st.put dst x).env t=if dst=some t then some x else Wt st.env t:=by
 cases dst with
 |none=>simp[St.put]
 |some d=>
  simp only[St.put];rw[WJ];by_cases h:d=t
  .subst h;simp
  .rw[We h,We (by simpa using h)]
theorem FI{st ar:St}{x:Operand}(h:∀t∈Nb x,Wt ar.env t=Wt st.env t):ev ar x=ev st x:=by
 cases x with
 |tmp t=>exact h t (by simp[Nb])
 |_=>rfl
theorem Lk{st:St}{x:Operand}{v:AVal}:∀(l:List Operand),x∈l->ev st x=some v->∀a∈eE v,a∈qN st l
 | [],h,_,_,_=>by cases h
 |y::l,h,b,a,ck=>by
  simp only[qN];rcases Xr.1 h with rfl|h
  .rw[b];exact Xo _ ck
  .split
   .exact Xi _ (Lk l h b a ck)
   .exact Lk l h b a ck
theorem QY{st ar:St}:∀(l:List Operand),(∀x∈l,ev ar x=ev st x)->qN ar l=qN st l
 | [],_=>rfl
 |x::l,h=>by simp only[qN,h x (Xl ..),QY l λy a=>h y (Xg _ a)]
theorem Vg{o:Oper}{st ai ar:St}(h:rx1 T Γ A o st some=some ai)(k:∀x∈an o.op,ev ar x=ev st x)
  (s:bw o=true->ar.objs=st.objs/\ar.nx=st.nx) (r:bw o=false->∀d∈kt o st,Wt ar.objs d=Wt st.objs d):
  ∃v a aq,Eff o v a aq st ai/\(bw o=false->a= []/\aq=st.nx)/\
   ∃g,rx1 T Γ A o ar some=some g/\(bw o=true->Eff o v a aq ar g)/\(bw o=false->Eff o v [] ar.nx ar g):=by
 unfold rx1 at*;rw[y6]at h;obtain⟨⟨v,objs',aq⟩,f,i⟩:=jc.1 h;injection i with i;subst i;cases fS:bw o with
 |true=>
  obtain⟨b,e⟩:=s fS;obtain⟨a,rfl⟩:=SC o st v objs' aq f;refine⟨v,a,aq,⟨λt=>qH _ _ _ _,by cases o.dst<;>rfl,by cases o.dst<;>rfl⟩,by simp,?_⟩;have j:rxe T Γ A o ar cC=some (v,a++st.objs,aq):=by
   obtain⟨B,C,z⟩:=ar;simp only at b e;subst b e;rw[Wty o (env:=B) (st:=st) cC k];exact f
  refine⟨_,?_,λ_=>⟨λt=>qH (⟨ar.env,a++st.objs,aq⟩) o.dst v t,?_,?_⟩,by simp⟩
  .rw[y6,j];rfl
  .rw[b];cases o.dst<;>rfl
  .cases o.dst<;>rfl
 |false=>
  rw[TB fS]at f;obtain⟨u,j,c⟩:=jc.1 f;injection c with c;have b:u=v:=Wq (λp:Out=>p.1) c;have e:st.objs=objs':=Wq (λp:Out=>p.2.1) c;have n:st.nx=aq:=Wq (λp:Out=>p.2.2) c;subst b e n;refine⟨u,[],st.nx,⟨λt=>qH _ _ _ _,by cases o.dst<;>rfl,by cases o.dst<;>rfl⟩,by simp,?_⟩;have q:rI T o ar=some u:=by
   rw[←j];refine WrE fS k λl x y v w d m=>r fS d ?_;unfold kt;rw[l];exact Lk _ y w d m
  refine⟨_,?_,by simp,λ_=>⟨λt=>qH (⟨ar.env,ar.objs,ar.nx⟩) o.dst u t,?_,?_⟩⟩
  .rw[y6,TB fS,q];rfl
  .cases o.dst<;>rfl
  .cases o.dst<;>rfl
theorem Wxl{x:AVal}{b:Bool}(h:asB x=some b):x=one .bool b:=by
 unfold asB at h;split at h
 .injection h with h;subst h;rfl
 .cases h
theorem Fh{st:St}{t:Nat}{x:AVal}(h:Wt st.env t=some x)(t':Nat):Wt (st.put (some t) x).env t'=Wt st.env t':=by
 rw[qH];split
 .rename_i e;injection e with e;subst e;exact h.symm
 .rfl
theorem iz(st:St)(d:Option Tmp)(x:AVal):(st.put d x).objs=st.objs:=by cases d<;>rfl
theorem uA(st:St)(d:Option Tmp)(x:AVal):(st.put d x).nx=st.nx:=by cases d<;>rfl
theorem Rd{o:Oper}{st ar:St}(h:∀x∈an o.op,ev ar x=ev st x):kt o ar=kt o st:=by
 unfold kt;rw[QY _ h]
theorem Vw{o:Oper}{st ai ar:St}(h:rxg T Γ A ops o st some=some ai)(M:∀t∈m4 ops o,Wt ar.env t=Wt st.env t)
  (E:bw o=true->ar.objs=st.objs/\ar.nx=st.nx) (N:bw o=false->∀z∈kt o st,Wt ar.objs z=Wt st.objs z):
  ∃v a aq,Eff o v a aq st ai/\(bw o=false->a= []/\aq=st.nx)/\
   ∃c,rxg T Γ A ops o ar some=some c/\(bw o=true->Eff o v a aq ar c)/\(bw o=false->Eff o v [] ar.nx ar c):=by
 have S:∀x∈an o.op,ev ar x=ev st x:=λx f=>FI λt r=>M t (by
  unfold m4;exact Xo _ (N1.2 ⟨x,f,r⟩))
 unfold rxg at h⊢;cases hg:o.guard with
 |none=>
  rw[hg]at h;exact Vg h S E N
 |some g=>
  obtain⟨j,d⟩:=g;rw[hg]at h;simp only at h⊢;cases r:(ops[j]?).bind (·.dst)with
  |none=>rw[r]at h;cases h
  |some t=>
   rw[r]at h;simp only at h⊢;have G:Wt ar.env t=Wt st.env t:=M t (by
    unfold m4;refine Xi _ ?_;rw[hg];simp only;rw[r];simp)
   rw[G];cases f:Wt st.env t with
   |none=>rw[f]at h;cases h
   |some x=>
    rw[f]at h;have k:∀(s u:St) (I:St),some (s.put o.dst (.tup []))=some I->(∀t,Wt s.env t=Wt st.env t)->s.objs=st.objs->s.nx=st.nx->(∀t,Wt u.env t=Wt ar.env t)->u.objs=ar.objs->u.nx=ar.nx->
      ∃v a aq,Eff o v a aq st I/\(bw o=false->a= []/\aq=st.nx)/\
       ∃c,some (u.put o.dst (.tup []))=some c/\(bw o=true->Eff o v a aq ar c)/\(bw o=false->Eff o v [] ar.nx ar c):=by
     intro s u I F U V W J K L;injection F with F;subst F;refine⟨.tup [],[],st.nx,⟨λt=>?_,by rw[iz,V];rfl,by rw[uA,W]⟩,λ_=>⟨rfl,rfl⟩,_,rfl,λi=>⟨λt=>?_,by rw[iz,K];rfl,by rw[uA,L];exact(E i).2⟩,λ_=>⟨λt=>?_,by rw[iz,K];rfl,by rw[uA,L]⟩⟩
     .rw[qH,U]
     .rw[qH,J]
     .rw[qH,J]
    have m:∀b:Bool,x=one .bool b->rx1 T Γ A o (st.put (some t) (one .bool b)) some=some ai->
      ∃v a aq,Eff o v a aq st ai/\(bw o=false->a= []/\aq=st.nx)/\
       ∃c,rx1 T Γ A o (ar.put (some t) (one .bool b)) some=some c/\(bw o=true->Eff o v a aq ar c)/\(bw o=false->Eff o v [] ar.nx ar c):=by
     intro b q h1;subst q;have O:=Fh f;have H:=Fh (st:=ar) (t:=t) (x:=one .bool b) (by rw[G];exact f);have R:∀x∈an o.op,ev (st.put (some t) (one .bool b)) x=ev st x:=λx f=>FI λt' _=>O t';have wx:∀x∈an o.op,ev (ar.put (some t) (one .bool b)) x=ev ar x:=λx f=>FI λt' _=>H t';obtain⟨v,a,aq,B,Y,c,Z,C,D⟩:=Vg (ar:=ar.put (some t) (one .bool b)) h1 (λx f=>by rw[wx x f,R x f,S x f])
      (λi=>E i) (λjo z X=>N jo z (by rw[←Rd R];exact X))
     refine⟨v,a,aq,⟨λt'=>by rw[B.env,O],B.objs,B.nx⟩,Y,c,Z,λi=>⟨λt'=>by rw[(C i).env,H],(C i).objs,(C i).nx⟩,λi=>⟨λt'=>by rw[(D i).env,H],(D i).objs,(D i).nx⟩⟩
    have n:(match asB x with
      |some b=>bif b
       then(if d then rx1 T Γ A o (st.put (some t) (one .bool true)) some else some ((st.put (some t) (one .bool true)).put o.dst (.tup [])))
       else(if d then some ((st.put (some t) (one .bool false)).put o.dst (.tup []))else rx1 T Γ A o (st.put (some t) (one .bool false)) some)
      |none=>none)=some ai->∃v a aq,Eff o v a aq st ai/\(bw o=false->a= []/\aq=st.nx)/\
       ∃c,(match asB x with
      |some b=>bif b
       then(if d then rx1 T Γ A o (ar.put (some t) (one .bool true)) some else some ((ar.put (some t) (one .bool true)).put o.dst (.tup [])))
       else(if d then some ((ar.put (some t) (one .bool false)).put o.dst (.tup []))else rx1 T Γ A o (ar.put (some t) (one .bool false)) some)
      |none=>none)=some c/\(bw o=true->Eff o v a aq ar c)/\(bw o=false->Eff o v [] ar.nx ar c):=by
     intro h;cases q:asB x with
     |none=>rw[q]at h;cases h
     |some b=>
      rw[q]at h;have w:=Wxl q;have P:∀p,p=b->∀t',Wt (st.put (some t) (one .bool p)).env t'=Wt st.env t':=λp e=>by subst e;exact Fh (by rw[f,w])
      have Q:∀p,p=b->∀t',Wt (ar.put (some t) (one .bool p)).env t'=Wt ar.env t':=λp e=>by subst e;exact Fh (by rw[G,f,w])
      cases b<;>cases d
      .exact m false w h
      .exact k _ _ _ h (P _ rfl) (iz _ _ _) (uA _ _ _) (Q _ rfl) (iz _ _ _) (uA _ _ _)
      .exact k _ _ _ h (P _ rfl) (iz _ _ _) (uA _ _ _) (Q _ rfl) (iz _ _ _) (uA _ _ _)
      .exact m true w h
    cases x with
    |s y=>exact n h
    |tup l=>
     cases l with
     |nil=>exact k st ar ai h (λ_=>rfl) rfl rfl (λ_=>rfl) rfl rfl
     |cons y l=>exact n h
end
structure Rc where
 i:Nat
 v:AVal
 pre:aa
 nx:Nat
 ids:List Nat
 mv:Bool
section
variable{T:Tab}{Γ:Ctx}{A:List (Nat×An)}{ops:Array Oper}
structure StepTo(T:Tab)(Γ:Ctx)(A:List (Nat×An))(ops:Array Oper)(ρ:Rc)(o:Oper)(st ai:St):Prop where
 at_:ops[ρ.i]?=some o
 isM:ρ.mv=bw o
 lk:ρ.mv=false->ρ.ids=kt o st
 run:rxg T Γ A ops o st some=some ai
 env:∀t,Wt ai.env t=if o.dst=some t then some ρ.v else Wt st.env t
 objs:ai.objs=if ρ.mv then ρ.pre++st.objs else st.objs
 nx:ai.nx=if ρ.mv then ρ.nx else st.nx
def vy(T:Tab)(Γ:Ctx)(A:List (Nat×An))(ops:Array Oper):List Rc->St->St->Prop
 | [],st,ai=>st=ai
 |ρ::l,st,ai=>∃o a,StepTo T Γ A ops ρ o st a/\vy T Γ A ops l a ai
theorem VH{i:Nat}{o:Oper}{st ai:St}(hi:ops[i]?=some o)(h:rxg T Γ A ops o st some=some ai):
  ∃ρ:Rc,ρ.i=i/\StepTo T Γ A ops ρ o st ai:=by
 obtain⟨v,b,aq,a,c,_⟩:=Vw (ar:=st) h (λ_ _=>rfl) (λ_=>⟨rfl,rfl⟩) (λ_ _ _=>rfl);refine⟨⟨i,v,b,aq,kt o st,bw o⟩,rfl,hi,rfl,λ_=>rfl,h,a.env,?_,?_⟩
 .simp only;cases hm:bw o with
  |true=>simpa using a.objs
  |false=>rw[a.objs,(c hm).1];rfl
 .simp only;cases hm:bw o with
  |true=>simpa using a.nx
  |false=>rw[a.nx,(c hm).2];rfl
theorem StepTo.move{ρ:Rc}{o:Oper}{st ai ar:St}(h:StepTo T Γ A ops ρ o st ai)(m:∀t∈m4 ops o,Wt ar.env t=Wt st.env t)
  (n:ρ.mv=true->ar.objs=st.objs/\ar.nx=st.nx) (i:ρ.mv=false->∀j∈ρ.ids,Wt ar.objs j=Wt st.objs j):
  ∃cx,StepTo T Γ A ops ρ o ar cx:=by
 obtain⟨v,u,aq,k,y,cx,l,f,g⟩:=Vw (ar:=ar) h.run m (λe=>n (by rw[h.isM];exact e)) (λq j r=>i (by rw[h.isM];exact q) j (by rw[h.lk (by rw[h.isM];exact q)];exact r));have p:∀t,o.dst=some t->v=ρ.v:=λt d=>by
  have a:=k.env t;have b:=h.env t;rw[Wf d]at a b;rw[a]at b;injection b
 have w:ρ.mv=false->kt o ar=kt o st:=λ_=>Rd λx s=>FI λt d=>m t (by
  unfold m4;exact Xo _ (N1.2 ⟨x,s,d⟩))
 cases e:bw o with
 |true=>
  have c:ρ.mv=true:=by rw[h.isM];exact e
  have f:=f e;obtain⟨z,B⟩:=n c;refine⟨cx,h.at_,h.isM,λi=>(by rw[c]at i;cases i),l,λt=>?_,?_,?_⟩
  .rw[f.env];split
   .rename_i d;rw[p t d]
   .rfl
  .rw[f.objs,c];simp only[WN];have a:=k.objs;have b:=h.objs;rw[c]at b;simp only[WN]at b;rw[a]at b;rw[List.append_cancel_right b]
  .rw[f.nx,c];simp only[WN];have a:=k.nx;have b:=h.nx;rw[c]at b;simp only[WN]at b;rw[←a,b]
 |false=>
  have c:ρ.mv=false:=by rw[h.isM];exact e
  have g:=g e;refine⟨cx,h.at_,h.isM,λi=>by rw[w c];exact h.lk c,l,λt=>?_,?_,?_⟩
  .rw[g.env];split
   .rename_i d;rw[p t d]
   .rfl
  .rw[g.objs,c];rfl
  .rw[g.nx,c];rfl
def Ha(a:List Nat)(pre:aa):Prop:=∀b∈a,b∉q7 pre
def ND(B:List (List Nat))(x y:Rc):Prop:=
 (x.mv=false->y.mv=true->dD B x.i y.i=true\/Ha x.ids y.pre)/\
 (x.mv=true->y.mv=false->dD B x.i y.i=true\/Ha y.ids x.pre)
theorem lR{α:Type}:∀(l:List Nat) (k:List Nat->α),pf l k=k l
 | [],_=>rfl
 |x::l,k=>by rw[pf,lR l]
theorem FU{α:Type}:∀(l:List (List Nat)) (k:List (List Nat)->α),GJ l k=k l
 | [],_=>rfl
 |x::l,k=>by rw[GJ,lR,FU l]
theorem R8{a:List Nat}{pre:aa}(h:gZ a (q7 pre)=true):Ha a pre:=λb c d=>by
 unfold gZ at h;have:=bA.1 h b c;rw[(jx b _).2 d]at this;cases this
theorem WqK(pre objs:aa):GM objs (pre++objs)=q7 pre:=by
 unfold GM;simp
theorem Mj{B:List (List Nat)}{R:Type}{k:St->Option R}{r:R}:∀(l:List Nat) (s t:List (Nat×List Nat)) (st:St),rdx T Γ A ops B l s t st k=some r->
  ∃(c:List Rc) (ai:St),c.map (·.i)=l/\vy T Γ A ops c st ai/\k ai=some r/\c.Pairwise (ND B)/\
   (∀p∈s,∀ρ∈c,ρ.mv=true->dD B p.1 ρ.i=true\/Ha p.2 ρ.pre)/\
   (∀p∈t,∀ρ∈c,ρ.mv=false->dD B p.1 ρ.i=true\/gZ ρ.ids p.2=true)
 | [],s,t,st,h=>⟨[],st,rfl,rfl,h,List.Pairwise.nil,by simp,by simp⟩
 |i::l,s,t,st,h=>by
  simp only[rdx]at h;cases ho:ops[i]? with
  |none=>rw[ho]at h;cases h
  |some o=>
   rw[ho]at h;simp only at h;cases hm:bw o with
   |true=>
    simp only[hm,Wa]at h;obtain⟨x,z,d⟩:=Dm h;rw[lR]at d;obtain⟨q,d⟩:=W7 d;obtain⟨ρ,e,f⟩:=VH ho z;have g:ρ.mv=true:=by rw[f.isM];exact hm
    have w:=f.objs;rw[g]at w;simp only[WN]at w;rw[w,WqK]at q d;obtain⟨c,ai,C,D,E,F,u,v⟩:=Mj l _ _ _ d;refine⟨ρ::c,ai,by simp[e,C],⟨o,x,f,D⟩,E,List.Pairwise.cons (λy a=>⟨λn=>(by rw[g]at n;cases n),λ_ j=>?_⟩) F,λp b y a m=>?_,λp b y a j=>?_⟩
    .rcases v (i,q7 ρ.pre) (Xl ..) y a j with h|h
     .rw[e];exact .inl h
     .exact .inr (R8 h)
    .rcases Xr.1 a with rfl|a
     .have:=bA.1 q p b;rw[pM]at this;rw[e];exact this.imp id R8
     .exact u p b y a m
    .rcases Xr.1 a with rfl|a
     .rw[g]at j;cases j
     .exact v p (Xg _ b) y a j
   |false=>
    simp only[hm,Wb]at h;rw[lR]at h;obtain⟨q,h⟩:=W7 h;obtain⟨x,z,d⟩:=Dm h;obtain⟨ρ,e,f⟩:=VH ho z;have g:ρ.mv=false:=by rw[f.isM];exact hm
    have G:=f.lk g;rw[←G]at q d;obtain⟨c,ai,C,D,E,F,u,v⟩:=Mj l _ _ _ d;refine⟨ρ::c,ai,by simp[e,C],⟨o,x,f,D⟩,E,List.Pairwise.cons (λy a=>⟨λ_ m=>?_,λn=>(by rw[g]at n;cases n)⟩) F,λp b y a m=>?_,λp b y a j=>?_⟩
    .rw[e];exact u (i,ρ.ids) (Xl ..) y a m
    .rcases Xr.1 a with rfl|a
     .rw[g]at m;cases m
     .exact u p (Xg _ b) y a m
    .rcases Xr.1 a with rfl|a
     .have:=bA.1 q p b;rw[pM]at this;rw[e];exact this
     .exact v p b y a j
def fd(ops:Array Oper)(i:Nat):Option Tmp:=(ops[i]?).bind (·.dst)
def i9(ops:Array Oper):List Rc->(Nat->Option AVal)->Nat->Option AVal
 | [],e,t=>e t
 |ρ::a,e,t=>i9 ops a (λb=>if fd ops ρ.i=some b then some ρ.v else e b) t
def dw:List Rc->aa×Nat->aa×Nat
 | [],m=>m
 |ρ::a,m=>dw a (if ρ.mv then(ρ.pre++m.1,ρ.nx)else m)
theorem Lm:∀(a:List Rc) (st ai:St),vy T Γ A ops a st ai->(∀t,Wt ai.env t=i9 ops a (Wt st.env) t)/\(ai.objs,ai.nx)=dw a (st.objs,st.nx)
 | [],st,ai,h=>by cases h;exact⟨λ_=>rfl,rfl⟩
 |ρ::a,st,ai,⟨o,c,b,h⟩=>by
  obtain⟨d,f⟩:=Lm a c ai h;have e:(Wt c.env)= λt'=>if fd ops ρ.i=some t' then some ρ.v else Wt st.env t':=funext λt=>by
   rw[b.env];unfold fd;rw[b.at_];rfl
  refine⟨λt=>by rw[d,e];rfl,?_⟩;rw[f,dw];congr 1;rw[b.objs,b.nx];split<;>rfl
theorem SG:∀(a:List Rc) (ρ:Rc) (b:List Rc) (st ai:St),vy T Γ A ops (a++ρ::b) st ai->∃o c e,vy T Γ A ops a st c/\StepTo T Γ A ops ρ o c e
 | [],ρ,b,st,ai,⟨o,c,d,h⟩=>⟨o,st,c,rfl,d⟩
 |x::a,ρ,b,st,ai,⟨o,c,d,h⟩=>by
  obtain⟨i,j,k,f,g⟩:=SG a ρ b c ai h;exact⟨i,j,k,⟨o,c,d,f⟩,g⟩
theorem tP:∀(a:List Rc) (m:aa×Nat),dw a m=dw (a.filter (·.mv)) m
 | [],_=>rfl
 |ρ::a,m=>by
  rw[dw,tP a,en];cases h:ρ.mv with
  |true=>simp only[WN,dw,h]
  |false=>simp only[dq,W4]
theorem Fs:∀(a b:List Rc) (m:aa×Nat),dw (a++b) m=dw b (dw a m)
 | [],_,_=>rfl
 |ρ::a,b,m=>by rw[dO,dw,Fs a b];rfl
theorem WjC{pre objs:aa}{id:Nat}(h:id∉q7 pre):Wt (pre++objs) id=Wt objs id:=by
 induction pre with
 |nil=>rfl
 |cons p pre ih=>
  obtain⟨j,a⟩:=p;simp only[q7,bz,Xr,not_or]at h;rw[dO,WJ,We (λe=>h.1 e.symm)];exact ih h.2
theorem LG{b:Nat}:∀(a:List Rc) (m:aa×Nat),(∀ρ∈a,ρ.mv=true->b∉q7 ρ.pre)->Wt (dw a m).1 b=Wt m.1 b
 | [],_,_=>rfl
 |ρ::a,m,h=>by
  rw[dw,LG a _ λx c=>h x (Xg _ c)];split
  .rename_i hm;exact WjC (h ρ (Xl ..) hm)
  .rfl
def Gz(ops:Array Oper):Prop:=∀i j t,fd ops i=some t->fd ops j=some t->i=j
theorem FQ{t:Nat}:∀(a:List Rc) (e:Nat->Option AVal),(∀ρ∈a,fd ops ρ.i≠some t)->i9 ops a e t=e t
 | [],_,_=>rfl
 |ρ::a,e,h=>by
  rw[i9,FQ a _ λx b=>h x (Xg _ b),We (h ρ (Xl ..))]
theorem LA{t:Nat}(d:Gz ops):∀(a:List Rc) (e:Nat->Option AVal),(a.map (·.i)).Nodup->∀ρ∈a,fd ops ρ.i=some t->i9 ops a e t=some ρ.v
 | [],_,_,_,h,_=>by cases h
 |x::a,e,b,ρ,c,ht=>by
  rw[bz,cr]at b;rw[i9];rcases Xr.1 c with rfl|c
  .rw[FQ a _ λy g f=>b.1 (by rw[d _ _ _ ht f];exact Xv.2 ⟨y,g,rfl⟩),Wf ht]
  .exact LA d a _ b.2 ρ c ht
theorem SL{t:Nat}(g:Gz ops){a b:List Rc}{e:Nat->Option AVal}(j:(a.map (·.i)).Nodup)(k:(b.map (·.i)).Nodup)
  (h:∀ρ,fd ops ρ.i=some t->(ρ∈a↔ρ∈b)):i9 ops a e t=i9 ops b e t:=by
 by_cases f:∃ρ∈a,fd ops ρ.i=some t
 .obtain⟨ρ,d,c⟩:=f;rw[LA g a e j ρ d c,LA g b e k ρ ((h ρ c).1 d) c]
 .rw[FQ a e λρ d c=>f ⟨ρ,d,c⟩,FQ b e λρ d c=>f ⟨ρ,(h ρ c).2 d,c⟩]
end
theorem K9{α:Type}{x:α}:∀{a c b d:List α},(a++x::b).Nodup->a++x::b=c++x::d->a=c
 | [],[],_,_,_,_=>rfl
 | [],y::c,b,d,e,h=>by
  simp only[df,dO,List.cons.injEq]at h;obtain⟨rfl,h⟩:=h;rw[df,cr]at e;exact Wz (by rw[h];simp) e.1
 |y::a,[],b,d,e,h=>by
  simp only[df,dO,List.cons.injEq]at h;obtain⟨rfl,h⟩:=h;rw[dO,cr]at e;exact Wz (by simp) e.1
 |y::a,z::c,b,d,e,h=>by
  simp only[dO,List.cons.injEq]at h;obtain⟨rfl,h⟩:=h;rw[dO,cr]at e;rw[K9 e.2 h]
def bv(ops:Array Oper)(i:Nat):Bool:=match ops[i]? with
 |some o=>bw o
 |none=>false
theorem Rel.same{w0:World}{F:CS}{nt:Slots}{G0 G:GH}{ν:Nat->Nu}{st ar:St}{a:Act}{w:World}(h:Rel w0 F nt G0 G ν st a w)
  (d:∀t,Wt ar.env t=Wt st.env t) (e:ar.objs=st.objs) (b:ar.nx=st.nx):Rel w0 F nt G0 G ν ar a w:=
 ⟨h.defers,h.ntm,h.par,λi x c=>by rw[d]at c;rw[b];exact h.env i x c,by rw[e,b];exact h.h,h.gx,λx v f=>by rw[b];exact h.ex x v f⟩
theorem VT:∀(c:List Rc),(c.map (·.i)).Nodup->∃a:Nat->Rc,∀ρ∈c,a ρ.i=ρ
 | [],_=>⟨λi=>⟨i,.tup [],[],0,[],false⟩,by simp⟩
 |ρ::c,h=>by
  rw[bz,cr]at h;obtain⟨a,d⟩:=VT c h.2;refine⟨λi=>if i=ρ.i then ρ else a i,λx b=>?_⟩;rcases Xr.1 b with rfl|b
  .simp
  .simp only;rw[We (λe=>h.1 (by rw[←e];exact Xv.2 ⟨x,b,rfl⟩))];exact d x b
section
variable{w0:World}{F:CS}{nt:Slots}{G0:GH}{P:Program}{T:Tab}{Γ:Ctx}{A:List (Nat×An)}{ops:Array Oper}{Q:Exit->Act->World->Prop}
theorem Ws7(hT:ao P T)(hΓ:ez P Γ)(hd:∀o∈ops,∀d,o.dst=some d->nt.Ok d){l L:List Nat}(J:Order ops l)(U:Order ops L)(gi:Gz ops)
  (jY:∀(i:Nat) (o:Oper) (t:Nat),ops[i]?=some o->t∈m4 ops o->∀j,fd ops j=some t->j=i\/dD (dC ops.toList []) j i=true\/dD (dC ops.toList []) i j=true)
  (hσ:l.filter (bv ops)=L.filter (bv ops)) {rs:List Rc} {st ai:St} (jt:rs.map (·.i)=L) (mh:vy T Γ A ops rs st ai) (cX:rs.Pairwise (ND (dC ops.toList [])))
  (hK:∀a w G ν,Rel w0 F nt G0 G ν ai a w->Q .normal a w) {a:Act} {w:World} {G:GH} {ν:Nat->Nu} (hr:Rel w0 F nt G0 G ν st a w):wpOps P ops Q l a w:=by
 have bs:(rs.map (·.i)).Nodup:=by rw[jt];exact U.nodup
 obtain⟨rec,eb⟩:=VT rs bs;have D:L.map rec=rs:=by
  rw[←jt,D7]
  conv=>rhs;rw[←YQ rs]
  exact Yp λρ f=>eb ρ f
 have kK:∀i,i∈l↔i∈L:=λi=>by rw[←J.all,U.all]
 have n:∀i∈L,(rec i).i=i/\rec i∈rs:=λi b=>by
  rw[←jt]at b;obtain⟨ρ,f,rfl⟩:=Xv.1 b;rw[eb ρ f];exact⟨rfl,f⟩
 have mi:∀i∈L,∃pre post o H ar,L=pre++i::post/\vy T Γ A ops (pre.map rec) st H/\StepTo T Γ A ops (rec i) o H ar:=λi b=>by
  obtain⟨pre,post,e⟩:=Hp b;have:rs=pre.map rec++rec i::post.map rec:=by rw[←D,e];simp
  rw[this]at mh;obtain⟨o,H,ar,h1,M⟩:=SG _ _ _ _ _ mh;exact⟨pre,post,o,H,ar,e,h1,M⟩
 have jn:∀i∈L,(rec i).mv=bv ops i:=λi b=>by
  obtain⟨pre,post,o,H,ar,e,h1,M⟩:=mi i b;rw[M.isM];have:=M.at_;rw[(n i b).1]at this;unfold bv;rw[this]
 have O:∀(p:List Nat),(∀i∈p,i∈L)->(p.map rec).filter (·.mv)=(p.filter (bv ops)).map rec:=by
  intro p
  induction p with
  |nil=>intro _;rfl
  |cons i p ih=>
   intro h;have:=ih λj c=>h j (Xg _ c);rw[bz,en,en,jn i (h i (Xl ..))];split
   .rw[bz,this]
   .exact this
 have pO:∀(p:List Nat),(∀i∈p,i∈L)->(p.map rec).map (·.i)=p:=by
  intro p h;rw[D7]
  conv=>rhs;rw[←YQ p]
  exact Yp λi b=>(n i (h i b)).1
 have dN:∀(p:List Nat),(∀i∈p,i∈L)->∀i∈L,(rec i∈p.map rec↔i∈p):=λp hp i b=>by
  constructor
  .intro h;obtain⟨j,c,e⟩:=Xv.1 h;have:j=i:=by rw[←(n j (hp j c)).1,←(n i b).1,e]
   rw[←this];exact c
  .exactλh=>Xv.2 ⟨i,h,rfl⟩
 have oV:∀i j pre post,L=pre++i::post->j∈post->ND (dC ops.toList []) (rec i) (rec j):=λi j pre post e c=>by
  have:rs=pre.map rec++rec i::post.map rec:=by rw[←D,e];simp
  rw[this,List.pairwise_append]at cX;exact(List.pairwise_cons.1 cX.2.1).1 _ (Xv.2 ⟨j,c,rfl⟩)
 suffices main:∀(s p:List Nat),l=p++s->∀(ar:St) (a:Act) (w:World) (G:GH) (ν:Nat->Nu),Rel w0 F nt G0 G ν ar a w->
   (∀t,Wt ar.env t=i9 ops (p.map rec) (Wt st.env) t)->(ar.objs,ar.nx)=dw (p.map rec) (st.objs,st.nx)->wpOps P ops Q s a w from
  main l [] rfl st a w G ν hr (λ_=>rfl) rfl
 intro s
 induction s with
 |nil=>
  intro p e ar a w G ν ld he B;rw[hU]at e;subst e;obtain⟨f1,f2⟩:=Lm _ _ _ mh;have Y:∀i∈l,i∈L:=λi b=>(kK i).1 b;refine hK a w G ν (ld.same (λt=>?_) ?_ ?_)
  .rw[f1,he];refine SL gi bs (by rw[pO l Y];exact J.nodup) λρ _=>?_;constructor
   .intro f;have b:ρ.i∈L:=by rw[←jt];exact Xv.2 ⟨ρ,f,rfl⟩
    rw[←eb ρ f];exact(dN l Y ρ.i b).2 ((kK _).2 b)
   .intro f;obtain⟨i,b,rfl⟩:=Xv.1 f;exact(n i (Y i b)).2
  .have:dw (l.map rec) (st.objs,st.nx)=dw rs (st.objs,st.nx):=by
    rw[tP,O l Y,hσ,←O L (λi b=>b),←tP,D]
   rw[this,←f2]at B;exact(Wq (·.1) B).symm
  .have:dw (l.map rec) (st.objs,st.nx)=dw rs (st.objs,st.nx):=by
    rw[tP,O l Y,hσ,←O L (λi b=>b),←tP,D]
   rw[this,←f2]at B;exact(Wq (·.2) B).symm
 |cons i s ih=>
  intro p e ar a w G ν ld he B;have R:i∈L:=(kK i).1 (by rw[e];simp);have Z:∀j∈p,j∈L:=λj c=>(kK j).1 (by rw[e];exact Xo _ c);obtain⟨pre,post,o,H,Ae,C,h1,M⟩:=mi i R;have kL:∀j∈pre,j∈L:=λj c=>by rw[C];exact Xo _ c
  have uV:ops[i]?=some o:=by have:=M.at_;rw[(n i R).1]at this;exact this
  obtain⟨g1,g2⟩:=Lm _ _ _ h1;have nV:=J.nodup;have nW:=U.nodup;rw[e]at nV;rw[C]at nW;have sF:i∉p:=λh=>(dc.1 nV).2.2 i h i (Xl ..) rfl;have kM:i∉pre:=λh=>(dc.1 nW).2.2 i h i (Xl ..) rfl;have pP:∀t∈m4 ops o,Wt ar.env t=Wt H.env t:=λt ht=>by
   rw[he,g1];refine SL gi (by rw[pO p Z];exact(dc.1 nV).1) (by rw[pO pre kL];exact(dc.1 nW).1) λρ E=>?_;have V:∀j∈L,fd ops j=some t->(j∈p↔j∈pre):=λj c wa=>by
    rcases jY i o t uV ht j wa with rfl|g|g
    .exact⟨λh=>Wz h sF,λh=>Wz h kM⟩
    .by_cases pQ:j=i
     .subst pQ;exact⟨λh=>Wz h sF,λh=>Wz h kM⟩
     .exact⟨λ_=>U.bef' C g pQ,λ_=>J.bef' e g pQ⟩
    .exact⟨λh=>Wz (J.bef e g h) sF,λh=>Wz (U.bef C g h) kM⟩
   constructor
   .intro f;obtain⟨j,c,rfl⟩:=Xv.1 f;have sG:=Z j c;rw[(n j sG).1]at E;exact Xv.2 ⟨j,(V j sG E).1 c,rfl⟩
   .intro f;obtain⟨j,c,rfl⟩:=Xv.1 f;have sG:=kL j c;rw[(n j sG).1]at E;exact Xv.2 ⟨j,(V j sG E).2 c,rfl⟩
  have yR:dw (p.map rec) (st.objs,st.nx)=dw ((p.filter (bv ops)).map rec) (st.objs,st.nx):=by rw[tP,O p Z]
  have oW:dw (pre.map rec) (st.objs,st.nx)=dw ((pre.filter (bv ops)).map rec) (st.objs,st.nx):=by rw[tP,O pre kL]
  obtain⟨Af,h3⟩:=M.move (ar:=ar) pP (λfS=>by
   have uW:bv ops i=true:=by rw[←jn i R];exact fS
   have:p.filter (bv ops)=pre.filter (bv ops):=by
    have q:=hσ;rw[e,C,pK,pK,en,en,Wf uW,Wf uW]at q;refine K9 ?_ q;have:=J.nodup.filter (bv ops);rw[e,pK,en,Wf uW]at this;exact this
   rw[yR,this,←oW,←g2]at B;exact⟨Wq (·.1) B,Wq (·.2) B⟩) (λjo id ck=>by
   have q:(p.filter (bv ops))<+:l.filter (bv ops):=by rw[e,pK];exact YN _ _
   have q2:(pre.filter (bv ops))<+:l.filter (bv ops):=by rw[hσ,C,pK];exact YN _ _
   have vY:ar.objs=(dw ((p.filter (bv ops)).map rec) (st.objs,st.nx)).1:=by rw[←yR,←B]
   have uO:H.objs=(dw ((pre.filter (bv ops)).map rec) (st.objs,st.nx)).1:=by rw[←oW,←g2]
   rw[vY,uO];rcases List.prefix_or_prefix_of_prefix q q2 with⟨X,I⟩|⟨X,I⟩
   .
    rw[←I,Xx,Fs];refine(LG _ _ λρ f N=>?_).symm;obtain⟨m,S,rfl⟩:=Xv.1 f;have kg:m∈pre:=(ei.1 (by rw[←I];exact Xi _ S:m∈pre.filter (bv ops))).1;have pR:m∉p:=λaN=>by
     have wz:bv ops m=true:=(ei.1 (by rw[←I];exact Xi _ S:m∈pre.filter (bv ops))).2;have W:(pre.filter (bv ops)).Nodup:=(dc.1 nW).1.filter _;rw[←I]at W;exact(dc.1 W).2.2 m (ei.2 ⟨aN,wz⟩) m S rfl
    obtain⟨u,v,eu⟩:=Hp kg;have hf:=oV m i u (v++i::post) (by rw[C,eu];simp) (by simp);rcases hf.2 N jo with g|g
    .rw[(n m (kL m kg)).1,(n i R).1]at g;exact Wz (J.bef' e g (λhc=>kM (hc▸kg))) pR
    .exact g id ck
   .rw[←I,Xx,Fs];refine LG _ _ λρ f N=>?_;obtain⟨m,S,rfl⟩:=Xv.1 f;have yS:m∈p.filter (bv ops):=by rw[←I];exact Xi _ S
    have nX:m∈p:=(ei.1 yS).1;have pR:m∉pre:=λaN=>by
     have wz:bv ops m=true:=(ei.1 yS).2;have W:(p.filter (bv ops)).Nodup:=(dc.1 nV).1.filter _;rw[←I]at W;exact(dc.1 W).2.2 m (ei.2 ⟨aN,wz⟩) m S rfl
    have yT:=Z m nX;have pS:m∈post:=by
     rw[C]at yT;rcases Xp.1 yT with h|h
     .exact Wz h pR
     .rcases Xr.1 h with h|h
      .exact Wz (h▸nX) sF
      .exact h
    have hf:=oV i m pre post C pS;rcases hf.1 jo N with g|g
    .rw[(n m (Z m nX)).1,(n i R).1]at g;exact Wz (J.bef e g nX) sF
    .exact g id ck)
  have Ag:∀d,o.dst=some d->nt.Ok d:=hd o (Array.mem_of_getElem? uV);have uX:=V6 (F:=F) (G0:=G0) (w0:=w0) hT hΓ Ag (Q:=Q) (k:=some) (r:=Af) (K:=wpOps P ops Q s) (λAh a' w' G' ν' hr4 h4=>by
   injection h4 with h4;subst h4;refine ih (p++ [i]) (by rw[e];simp) Ah a' w' G' ν' hr4 (λt=>?_) ?_
   .rw[h3.env];have hv:i9 ops ((p++ [i]).map rec) (Wt st.env) t=if fd ops i=some t then some (rec i).v else i9 ops (p.map rec) (Wt st.env) t:=by
     rw[Xx];have gen:∀(x:List Rc) (y:Rc) (e:Nat->Option AVal),i9 ops (x++ [y]) e t=if fd ops y.i=some t then some y.v else i9 ops x e t:=by
      intro x
      induction x with
      |nil=>intro y e;rfl
      |cons z x ih=>intro y e;rw[dO,i9,ih];rfl
     rw[List.map_singleton,gen,(n i R).1]
    rw[hv,he];have:fd ops i=o.dst:=by unfold fd;rw[uV];rfl
    rw[this]
   .rw[Xx,Fs,←B];simp only[bz,eX,dw];rw[h3.objs,h3.nx];split<;>rfl) ld h3.run
  rw[wpOps_cons];unfold wpOp;rw[uV];simp only;split
  .rename_i hw;rw[Wf hw]at uX;exact .inl uX
  .rename_i hw;rw[We hw]at uX;exact uX
end
theorem Sb:∀{l:List (Nat×Nat)},d8 (l.map (·.1))=true->∀p∈l,∀q∈l,p.1=q.1->p=q
 | [],_,p,d,_,_,_=>by cases d
 |x::l,h,p,d,q,f,e=>by
  have c:=(FD _).1 h;simp only[bz,d8,Xh]at h;rw[bz,cr]at c;rcases Xr.1 d with b|b
  .rcases Xr.1 f with a|a
   .rw[b,a]
   .exact Wz (Xv.2 ⟨q,a,by rw[←e,b]⟩) c.1
  .rcases Xr.1 f with a|a
   .exact Wz (Xv.2 ⟨p,b,by rw[e,a]⟩) c.1
   .exact Sb h.2 p b q a e
theorem SO:∀(l:List Oper) (n k:Nat) (o:Oper) (d:Nat),l[k]?=some o->o.dst=some d->(d,n+k)∈qZ l n
 | [],_,k,o,d,h,_=>by simp at h
 |x::l,n,k,o,d,h,hd=>by
  cases k with
  |zero=>
   simp at h;subst h;simp only[qZ,hd];exact Xl ..
  |succ k=>
   have:=SO l (n+1) k o d (by simpa using h) hd;have e:n+(k+1)=n+1+k:=by omega
   rw[e];simp only[qZ];split
   .exact Xg _ this
   .exact this
theorem Rm{ops:Array Oper}{B:List (List Nat)}{D:List (Nat×Nat)}:∀(l:List Oper) (n:Nat),Gy ops B D l n=true->∀(k:Nat) (o:Oper),l[k]?=some o->∀t∈m4 ops o,∀p∈D,p.1=t->
  p.2=n+k\/dD B p.2 (n+k)=true\/dD B (n+k) p.2=true
 | [],_,_,k,o,h=>by simp at h
 |x::l,n,h,k,o,hk=>by
  simp only[Gy,Xh]at h;cases k with
  |zero=>
   simp at hk;subst hk;intro t b p a e;have:=bA.1 (bA.1 h.1 t b) p a;simp only[pM,de]at this;rcases this with((h1|h1)|h1)|h1
   .rw[e]at h1;simp at h1
   .exact .inl (by simpa using h1)
   .exact .inr (.inl h1)
   .exact .inr (.inr h1)
  |succ k=>
   have:=Rm l (n+1) h.2 k o (by simpa using hk);have e:n+(k+1)=n+1+k:=by omega
   rw[e];exact this
structure RegOk(ops:Array Oper):Prop where
 back:∀(k:Nat) (o:Oper),ops[k]?=some o->∀d∈fM o,d<k
 one:Gz ops
 slots:∀(i:Nat) (o:Oper) (t:Nat),ops[i]?=some o->t∈m4 ops o->∀j,fd ops j=some t->j=i\/dD (dC ops.toList []) j i=true\/dD (dC ops.toList []) i j=true
theorem Lw{ops:Array Oper}{j t:Nat}(h:fd ops j=some t):(t,j)∈qZ ops.toList 0:=by
 unfold fd at h;obtain⟨o,b,a⟩:=jc.1 h;have:=SO ops.toList 0 j o t (by simpa using b) a;rw[bX]at this;exact this
theorem Wq8{ops:Array Oper}(h:GS ops (dC ops.toList [])=true):RegOk ops:=by
 simp only[GS,Xh]at h;obtain⟨⟨c,d⟩,f⟩:=h;refine⟨λk o b e g=>?_,λi j t l a=>?_,λi o t b m j a=>?_⟩
 .have:=Sg (ops:=ops) ops.toList 0 c k o (by simpa using b) e g;omega
 .have:=Sb d _ (Lw l) _ (Lw a) rfl;exact Wq (·.2) this
 .have:=Rm ops.toList 0 f i o (by simpa using b) t m _ (Lw a) rfl;simpa using this
theorem SH{ops:Array Oper}:∀(l done:List Nat),mw ops l done=true->done.Nodup->(∀i∈done,i<ops.size)->
  (done++l).Nodup/\(∀i∈done++l,i<ops.size)/\(done++l).length=ops.size/\(∀p i s,l=p++i::s->∀o,ops[i]?=some o->∀d∈fM o,d∈done++p)
 | [],done,h,g,ae=>by
  simp only[mw]at h;exact⟨by simpa using g,by simpa using ae,by simpa using h,λp i s e=>by simp at e⟩
 |x::l,done,h,g,ae=>by
  simp only[mw,Xh,de]at h;obtain⟨⟨k,f⟩,u⟩:=h;have w:x∉done:=λv=>by rw[(jx x done).2 v]at k;cases k
  cases ho:ops[x]? with
  |none=>rw[ho]at f;cases f
  |some o=>
   rw[ho]at f;have z:x<ops.size:=(vA.1 ho).1;obtain⟨n,q,r,t⟩:=SH l (x::done) u (cr.2 ⟨w,g⟩) (λi b=>by
    rcases Xr.1 b with rfl|b
    .exact z
    .exact ae i b)
   have j:List.Perm (x::done++l) (done++x::l):=by simpa using(List.perm_middle (a:=x) (l₁:=done) (l₂:=l)).symm
   refine⟨j.nodup_iff.1 n,λi b=>q i (j.mem_iff.2 b),by rw[←j.length_eq];exact r,λp i s e A c d m=>?_⟩;cases p with
   |nil=>
    simp only[df,List.cons.injEq]at e;obtain⟨rfl,_⟩:=e;rw[ho]at c;injection c with c;subst c;have:=bA.1 f d m;simpa using(jx d done).1 this
   |cons y p=>
    simp only[dO,List.cons.injEq]at e;obtain⟨rfl,e⟩:=e;have:=t p i s e A c d m;simp only[dO,Xr,Xp]at this⊢;rcases this with h|h|h
    .exact .inr (.inl h)
    .exact .inl h
    .exact .inr (.inr h)
theorem Wph{l:List Nat}{n:Nat}(s:l.Nodup)(o:∀i∈l,i<n)(t:l.length=n):∀i,i<n->i∈l:=by
 intro i r;refine Classical.byContradiction λh=>?_;have p:(i::l).Nodup:=cr.2 ⟨h,s⟩;have q:∀j∈i::l,j∈cK n:=λj c=>by
  rw[Hl];rcases Xr.1 c with rfl|c
  .exact r
  .exact o j c
 have d:∀(a b:List Nat),a.Nodup->(∀x∈a,x∈b)->a.length<=b.length:=by
  intro a
  induction a with
  |nil=>intro b _ _;simp
  |cons x a ih=>
   intro b f k;rw[cr]at f;have m:x∈b:=k x (Xl ..);have:=ih (b.erase x) f.2 λy g=>(YL (λe=>f.1 (by rw[←e];exact g))).2 (k y (Xg _ g));rw[YB m]at this;have u:=YF m;simp;omega
 have:=d _ _ p q;rw[NP,Xs]at this;omega
theorem Wo6{ops:Array Oper}{l:List Nat}(h:mw ops l []=true):Order ops l:=by
 obtain⟨a,b,c,f⟩:=SH l [] h p0 (by simp);rw[df]at a b c;exact⟨a,λi=>⟨Wph a b c i,b i⟩,λp i s e o j d g=>by simpa using f p i s e o j d g⟩
theorem Sa:∀(l:List Oper) (n i:Nat),i∈jL l n↔n<=i/\∃o,l[i-n]?=some o/\bw o=true
 | [],n,i=>by simp[jL]
 |o::l,n,i=>by
  have g:=Sa l (n+1) i;have j:(n<=i/\∃a,(o::l)[i-n]?=some a/\bw a=true)↔(i=n/\bw o=true)\/(n+1<=i/\∃a,l[i-(n+1)]?=some a/\bw a=true):=by
   by_cases d:i=n
   .subst d;constructor
    .rintro⟨_,a,b,c⟩;rw[pZ]at b;injection b with b;subst b;exact .inl ⟨rfl,c⟩
    .rintro(⟨_,h⟩|⟨h,_⟩)
     .exact⟨Xm _,o,by rw[pZ];rfl,h⟩
     .omega
   .constructor
    .rintro⟨f,a,b,c⟩;have e:i-n=(i-(n+1))+1:=by omega
     rw[e,Ye]at b;exact .inr ⟨by omega,a,b,c⟩
    .rintro(⟨h,_⟩|⟨f,a,b,c⟩)
     .exact Wz h d
     .have e:i-n=(i-(n+1))+1:=by omega
      exact⟨by omega,a,by rw[e,Ye];exact b,c⟩
  rw[j,←g];simp only[jL];cases hm:bw o with
  |true=>simp
  |false=>simp
theorem Woe{ops:Array Oper}{i:Nat}:i∈jL ops.toList 0↔bv ops i=true:=by
 rw[Sa];unfold bv;simp only[j6,true_and,rR,Array.getElem?_toList];cases ops[i]? with
 |none=>simp
 |some o=>simp
theorem Ul{B:List (List Nat)}:∀(σ rem:List Nat) (n:Nat),σ.length<=n->σ.Nodup->(∀i,i∈rem↔i∈σ)->(∀p m s,σ=p++m::s->∀a∈m::s,dD B a m=false)->σ∈lb B n rem
 | [],rem,n,d,c,b,hb=>by
  have:rem= []:=Yo.2 λi r=>by have:=(b i).1 r;cases this
  subst this;cases n<;>simp[lb]
 |m::s,rem,0,d,_,_,_=>by simp at d
 |m::s,rem,n+1,d,c,b,hb=>by
  have g:m∈rem:=(b m).2 (Xl ..);rw[cr]at c;cases hrem:rem with
  |nil=>rw[hrem]at g;cases g
  |cons x xs=>
   rw[←hrem];have l:lb B (n+1) rem=(rem.filter λm=>rem.all λa=>!dD B a m).flatMap λm=>(lb B n (rem.filter λx=>!bq x m)).map (m:: ·):=by rw[hrem];rfl
   rw[l];refine N1.2 ⟨m,ei.2 ⟨g,bA.2 λa k=>?_⟩,Xv.2 ⟨s,?_,rfl⟩⟩
   .rw[hb [] m s rfl a ((b a).1 k)];rfl
   .refine Ul s _ n (by simpa using d) c.2 (λi=>?_) (λp q t e=>hb (m::p) q t (by rw[e];rfl));rw[ei,b,Xr];constructor
    .rintro⟨f,o⟩;rcases f with rfl|f
     .simp at o
     .exact f
    .intro h;refine⟨.inr h,?_⟩;have j:i≠m:=λe=>c.1 (e▸h);cases c7:bq i m with
     |false=>rfl
     |true=>exact Wz (Nat.eq_of_beq_eq_true c7) j
theorem V2:∀(l m:List Nat),eqN l m=true->l=m
 | [],[],_=>rfl
 | [],_::_,h=>by cases h
 |_::_,[],h=>by cases h
 |i::l,j::m,h=>by
  simp only[eqN,Xh]at h;have:i=j:=by simpa using h.1
  rw[this,V2 l m h.2]
theorem Wt8{α:Type}{a b:Option α}{r:α}(h:ab a b=some r):a=some r/\b=some r:=by
 unfold ab at h;split at h
 .rename_i e;exact⟨h,e▸h⟩
 .cases h
section
variable{w0:World}{F:CS}{nt:Slots}{G0:GH}{P:Program}{T:Tab}{Γ:Ctx}{A:List (Nat×An)}{R:Type}{r:R}
theorem Uz{ops:Array Oper}{B:List (List Nat)}{st:St}{k:St->Option R}:∀(l:List (List Nat)),vx T Γ A ops B st k l=some r->∀σ∈l,∃L,mw ops L []=true/\L.filter (λi=>dl i σ)=σ/\rdx T Γ A ops B L [] [] st k=some r
 | [],_,σ,hσ=>by cases hσ
 |τ::l,h,σ,hσ=>by
  have one:pf (DB ops.toList B ops.size [] τ) (λL=>bif mw ops L []&&eqN (L.filter λi=>dl i τ) τ then rdx T Γ A ops B L [] [] st k else none)=some r->∃L,mw ops L []=true/\L.filter (λi=>dl i τ)=τ/\rdx T Γ A ops B L [] [] st k=some r:=λh=>by
   rw[lR]at h;obtain⟨a,h⟩:=W7 h;simp only[Xh]at a;exact⟨_,a.1,V2 _ _ a.2,h⟩
  cases l with
  |nil=>
   simp only[vx]at h;rcases Xr.1 hσ with rfl|hσ
   .exact one h
   .cases hσ
  |cons x l=>
   have h:ab (pf (DB ops.toList B ops.size [] τ) (λL=>bif mw ops L []&&eqN (L.filter λi=>dl i τ) τ then rdx T Γ A ops B L [] [] st k else none)) (vx T Γ A ops B st k (x::l))=some r:=h;obtain⟨b,c⟩:=Wt8 h;rcases Xr.1 hσ with rfl|hσ
   .exact one b
   .exact Uz (x::l) c σ hσ
theorem WuT(hM:P.follows .mixedOrders=true)(hT:ao P T)(hΓ:ez P Γ){id:Nat}{ops:Array Oper}(C:∀o∈ops,∀d,o.dst=some d->nt.Ok d){k:St->Option R}{Q:Exit->Act->World->Prop}(hK:kT w0 F nt G0 k r (Q .normal)):
  kT w0 F nt G0 (λst=>po T Γ A ops st k) r ((Code.region id ops true).wp P Q):=λst a w G ν q h=>by
 simp only[po,FU]at h;obtain⟨wA,h⟩:=W7 h;have B:=Wq8 wA;refine wp_region_draw λt=>?_;rw[hM];have f:Order ops (Region.schedule true ops t):=Wka B.back;generalize Region.schedule true ops t=l at f;have hσ:l.filter (bv ops)∈lb (dC ops.toList []) ops.size (jL ops.toList 0):=by
  refine Ul _ _ _ ?_ (f.nodup.filter _) (λi=>?_) (λp m s e n fA=>?_)
  .refine fP (Ay _ _) ?_;have V:l.length<=(cK ops.size).length:=by
    have S:∀(a b:List Nat),a.Nodup->(∀x∈a,x∈b)->a.length<=b.length:=by
     intro a
     induction a with
     |nil=>intro b _ _;simp
     |cons x a ih=>
      intro b U iF;rw[cr]at U;have sH:x∈b:=iF x (Xl ..);have:=ih (b.erase x) U.2 λy Z=>(YL (λe=>U.1 (by rw[←e];exact Z))).2 (iF y (Xg _ Z));rw[YB sH]at this;have hZ:=YF sH;simp;omega
    exact S _ _ f.nodup λx Y=>Hl.2 ((f.all x).2 Y)
   rw[NP]at V;exact V
  .rw[Woe,ei];constructor
   .intro h;refine⟨(f.all i).1 ?_,h⟩;unfold bv at h;split at h
    .rename_i o J;exact(vA.1 J).1
    .cases h
   .exactλh=>h.2
  .cases hb:dD (dC ops.toList []) n m with
   |false=>rfl
   |true=>
    exfalso;have nr:m∈l:=(ei.1 (by rw[e];simp:m∈l.filter (bv ops))).1;obtain⟨u,v,M⟩:=Hp nr;have I:n∈u++ [m]:=f.bef (p:=u++ [m]) (s:=v) (by rw[M];simp) hb (by simp);have yU:bv ops m=true:=(ei.1 (by rw[e];simp:m∈l.filter (bv ops))).2;have K:=f.nodup.filter (bv ops);have e2:l.filter (bv ops)=u.filter (bv ops)++m::v.filter (bv ops):=by rw[M,pK,en,Wf yU]
    have Ai:p=u.filter (bv ops):=by
     refine K9 (b:=s) (d:=v.filter (bv ops)) (x:=m) ?_ ?_
     .rw[←e];exact K
     .rw[←e,e2]
    rcases Xr.1 fA with rfl|hm's
    .
     have:=f.bef (p:=u++ [n]) (s:=v) (by rw[M];simp) hb (by simp);have dz:DM ops (λj=>j∈u\/(j=n/\False)):=λi o J D d C=>by
      rcases D with D|⟨_,N⟩
      .exact .inl (f.closed (p:=u) (s:=n::v) M i o J D d C)
      .exact N.elim
     have z:∀(j i:Nat),dD (dC ops.toList []) j i=true->j<i:=λj i pQ=>by
      have sM:DM ops (λx=>x<i\/(x=i)):=λx o J Y d C=>by
       have:d<x:=B.back x o J d C;omega
      refine Classical.byContradiction λhn=>?_;have ae:∀(l:List Oper) (c:List (List Nat)),(∀(k:Nat) (o:Oper),l[k]?=some o->ops[c.length+k]?=some o)->(∀i,∀j∈c.getD i [],j<i)->∀i,∀j∈(dC l c).getD i [],j<i:=by
       intro l
       induction l with
       |nil=>intro c _ h;exact h
       |cons o l ih=>
        intro c f h;refine ih _ (λk o' E=>?_) (λi j g=>?_)
        .have:=f (k+1) o' (by simpa using E);rw[Xz];have e:c.length+(k+1)=c.length+ [pq c (fM o) []].length+k:=by simp;omega
         rw[←e];exact this
        .rw[lg,eW]at g;split at g
         .exact h i j (by rw[lg];exact g)
         .by_cases he:i=c.length
          .subst he;simp only[pZ,NK,D8]at g;rcases(Lq _ _).1 g with⟨k,E,O⟩|g
           .have rf:k<c.length:=B.back c.length o (f 0 o (by simp)) k E;rcases O with rfl|O
            .exact rf
            .have:=h k j O;omega
           .cases g
          .have:[pq c (fM o) []][i-c.length]?=none:=gw (by simp;omega);rw[this]at g;cases g
      exact hn (ae ops.toList [] (λk o E=>by simpa using E) (λi j g=>by simp at g) i j ((jx _ _).1 pQ))
     have:=z n n hb;omega
    .
     have H:n∈p:=by
      rw[Ai];rcases Xp.1 I with h|h
      .refine ei.2 ⟨h,?_⟩;exact(ei.1 (by rw[e];simp[hm's]:n∈l.filter (bv ops))).2
      .simp at h;subst h;rw[e]at K;have:=(cr.1 (dc.1 K).2.1).1;exact Wz hm's this
     rw[e]at K;exact(dc.1 K).2.2 n H n (Xg _ hm's) rfl
 obtain⟨L,g1,g2,g3⟩:=Uz _ h _ hσ;have W:=Wo6 g1;obtain⟨rs,ai,q1,q2,q3,q4,_,_⟩:=Mj _ _ _ _ g3;have N:l.filter (bv ops)=L.filter (bv ops):=by
  rw[←g2];refine List.filter_congr λi D=>?_;cases X:bv ops i with
  |true=>exact(jx _ _).2 (ei.2 ⟨(f.all i).1 ((W.all i).2 D),X⟩)
  |false=>
   cases he:dl i (l.filter (bv ops))with
   |false=>rfl
   |true=>
    have:=(ei.1 ((jx _ _).1 he)).2;rw[X]at this;cases this
 have cG:Rel w0 F nt G0 G ν st a {w with drawn:=w.drawn+1}:=⟨q.defers,q.ntm,q.par,q.env,?_,q.gx,q.ex⟩
 .exact Ws7 hT hΓ C f W B.one B.slots N q1 q2 q4 (λa w G ν q=>hK ai a w G ν q q3) cG
 .exact q.h.drew
end
section
variable{w0:World}{F:CS}{nt:Slots}{G0:GH}{P:Program}{T:Tab}{Γ:Ctx}{A:List (Nat×An)}{R:Type}{r:R}
theorem rk(u:P.follows .mixedOrders=true)(q:ao P T)(s:ez P Γ){n:Nat}{t:List Nat}(z:nt.n=n)(A:∀p∈nt.kept,p.1∈t){ann:Nat->List Ghost}{N:Nat}(l:(∀x v,¬nt.ex x v)\/∀j,(ann j).all Ghost.quiet=true):∀(c:Code),iJ n t c=true->∀{k:Ex->St->Option R} {Q:Exit->Act->World->Prop},
  (∀e,kT w0 F nt G0 (k e) r (Q e.to))->kT w0 F nt G0 (λst=>sx T Γ ann N c st k) r (c.wp P Q)
 | .skip,_,k,Q,hK=>λst a w G ν f h=>wp_skip (hK .normal st a w G ν f h)
 | .exit j,_,k,Q,hK=>λst a w G ν f h=>wp_exit (hK (.exit j) st a w G ν f h)
 | .ret,_,k,Q,hK=>λst a w G ν f h=>wp_ret (hK .ret st a w G ν f h)
 | .region j ops draw,i,k,Q,hK=>λst a w G ν f h=>by
  have J:kT w0 F nt G0 (λai=>match fc (ann j) ai with|some (c,co)=>bif c then k .normal co else none|none=>none) r (Q .normal):=λai I w' G' L B g=>by
   simp only at g;split at g
   .rename_i c co hg;obtain⟨rfl,g⟩:=W7 g;obtain⟨H,M,C⟩:=C3 _ _ _ _ _ (l.imp_right λh=>h _) B hg;exact hK .normal _ _ _ _ _ C g
   .cases g
  have K:∀o∈ops,∀d,o.dst=some d->nt.Ok d:=λo D=>WoX z A (bA.1 i o (by simpa using D));cases draw with
  |true=>exact WuT u q s K J st a w G ν f h
  |false=>exact wp_region_list (V9 q s ops.toList (λo D=>K o (by simpa using D)) J st a w G ν f h)
 | .seq x y,i,k,Q,hK=>λst a w G ν f h=>by
  simp only[iJ,Xh]at i;refine wp_seq (rk u q s z A l x i.1 (Q:=Exit.then (y.wp P Q) Q) (λe=>?_) st a w G ν f h);cases e with
  |normal=>exact rk u q s z A l y i.2 hK
  |exit j=>exact hK (.exit j)
  |ret=>exact hK .ret
 | .cond c x y,i,k,Q,hK=>λst a w G ν f h=>by
  simp only[iJ,Xh]at i;simp only[sx]at h;split at h
  .rename_i b hb;cases hv:ev st c with
   |none=>simp[hv]at hb
   |some v=>
    simp only[hv,Xd]at hb;have O:=MO v _ b (WO f c v hv) hb;refine wp_cond O ?_;cases b with
    |true=>exact rk u q s z A l x i.1 hK st a w G ν f h
    |false=>exact rk u q s z A l y i.2 hK st a w G ν f h
  .cases h
 | .block j c,i,k,Q,hK=>λst a w G ν f h=>by
  simp only[iJ]at i;refine wp_block (rk u q s z A l c i (Q:=Exit.inBlock j Q) (λe=>?_) st a w G ν f h);cases e with
  |normal=>exact hK .normal
  |exit cA=>
   intro ai I w' G' L B g;simp only[Ex.to,Exit.inBlock];split
   .rename_i he;simp only[he,WN]at g;exact hK .normal _ _ _ _ _ B g
   .rename_i he;simp only[he,W4]at g;exact hK (.exit cA) _ _ _ _ _ B g
  |ret=>exact hK .ret
 | .loop c,i,k,Q,hK=>λst a w G ν f h=>by
  simp only[iJ]at i;refine wp_loop_rounds N ?_;have E:∀(m:Nat),kT w0 F nt G0 (λst=>vh (zt (ann (ug c)) λst k=>sx T Γ ann N c st k) m st k) r (Code.rounds P c Q m):=by
   intro m
   induction m with
   |zero=>intro st a w G ν f h;cases h
   |succ m ih=>
    intro st a w G ν f h;rw[rounds_succ];have h:sx T Γ ann N c st (λe ai=>match e with
     | .normal=>match fc (ann (ug c)) ai with
      |some (b,co)=>bif b then vh (zt (ann (ug c)) λst k=>sx T Γ ann N c st k) m co k else none
      |none=>none
     | .exit j=>k (.exit j) ai
     | .ret=>k .ret ai)=some r:=by
     rw[←h];simp only[vh,zt];congr 1
    refine rk u q s z A l c i (Q:=Exit.then (Code.rounds P c Q m) Q) (λe=>?_) st a w G ν f h;cases e with
    |normal=>
     intro ai I w' G' L B g;simp only at g;split at g
     .rename_i b co hg;obtain⟨rfl,g⟩:=W7 g;obtain⟨H,M,C⟩:=C3 _ _ _ _ _ (l.imp_right λh=>h _) B hg;exact ih _ _ _ _ _ C g
     .cases g
    |exit j=>exact hK (.exit j)
    |ret=>exact hK .ret
  have h:(match fc (ann (ug c)) st with
   |some (b,ai)=>bif b then vh (zt (ann (ug c)) λst k=>sx T Γ ann N c st k) N ai k else none
   |none=>none)=some r:=h
  split at h
  .rename_i b ai hg;obtain⟨rfl,h⟩:=W7 h;obtain⟨H,M,C⟩:=C3 _ _ _ _ _ (l.imp_right λh=>h _) f hg;exact E N _ _ _ _ _ C h
  .cases h
 | .scope ..,_,k,Q,hK=>λst a w G ν f h=>by cases h
 | .label ..,_,k,Q,hK=>λst a w G ν f h=>by cases h
 | .goto ..,_,k,Q,hK=>λst a w G ν f h=>by cases h
 | .rangeFunc ..,_,k,Q,hK=>λst a w G ν f h=>by cases h
 | .refuse ..,_,k,Q,hK=>λst a w G ν f h=>by cases h
end
section
variable{w0:World}{F:CS}{nt:Slots}{G0 G G':GH}{ν:Nat->Nu}{φ:Nat->CS}{objs:aa}{nx aq:Nat}{st ai:St}{a:Act}{w w':World}{P:Program}{T:Tab}{Γ:Ctx}
theorem Rz:∀(xs:List AVal) (j i:Nat),Wt (jF j xs) i=if j<=i then xs[i-j]? else none
 | [],j,i=>by simp[jF,Wt]
 |x::xs,j,i=>by
  simp only[jF];rw[WJ,Rz xs (j+1) i];by_cases h:j=i
  .subst h;simp
  .by_cases h2:j<=i
   .have h3:j+1<=i:=by omega
    rw[We h,Wf h3,Wf h2,show i-j=(i-(j+1))+1 by omega];rfl
   .rw[We h,We h2,We (by omega)]
theorem Sh:∀(l:List Nat),DU (da l)=l
 | []=>rfl
 |i::l=>by
  show i::DU (da l)=i::l;rw[Sh l]
theorem SF:∀(b:List PTy) (d:cu b) (objs:aa) (nx n:Nat),zy b n=true->∃a,a.length=n/\(WU b d objs nx).1.take n=da a
 |_,_,_,_,0,_=>⟨[],rfl,rfl⟩
 | [],_,_,_,_+1,h=>by cases h
 | .v _ _::_,_,_,_,_+1,h=>by cases h
 | .mut _::_,_,_,_,_+1,h=>by cases h
 | .clos _ _::_,_,_,_,_+1,h=>by cases h
 | .kv _ _::_,_,_,_,_+1,h=>by cases h
 | .rp _::_,_,_,_,_+1,h=>by cases h
 | .vj _::_,_,_,_,_+1,h=>by cases h
 | .boxal _ _::_,_,_,_,_+1,h=>by cases h
 | .box t::b,d,objs,nx,n+1,h=>by
  obtain⟨a,c,e⟩:=SF b d.2 ((nx,.box (unfold t d.1 (nx+1)).1)::((unfold t d.1 (nx+1)).2.1++objs)) (unfold t d.1 (nx+1)).2.2 n h;refine⟨nx::a,by simp[c],?_⟩;simp only[WU,List.take_succ_cons,e];rfl
theorem qr:∀(k:List PTy) (d:cu k) (vs:List Value) (A:List Pc) (L:List Nu) (objs:aa) (nx aq:Nat),fG k=true->gc G w k d vs A L->At ν φ nx A->nx+A.length<=aq->
  (WU k d objs nx).2.2=nx+A.length/\
  (∀i q,Wt (WU k d objs nx).2.1 i=some q->(nx<=i/\i<nx+A.length/\dt G ν aq w i (φ i) q)\/Wt objs i=some q)/\
  (WU k d objs nx).1.length=vs.length/\∀(j:Nat) (x:AVal) (v:Value),(WU k d objs nx).1[j]?=some x->vs[j]?=some v->AValRel G ν aq x v
 | [],d,vs,A,L,objs,nx,aq,_,⟨l,y,J⟩,_,_=>by
  subst l y;exact⟨rfl,λi q h=>.inr h,rfl,λj x v h=>by simp[WU]at h⟩
 | .v t agg::k,d,vs,A,L,objs,nx,aq,z,⟨v,B,n1,m,l,y,J,K⟩,p,hx=>by
  subst y;obtain⟨Q,Z⟩:=MJ J;have N:=W9 _ _ _ _ Z;have M:(n1++m).length=t.owns+m.length:=by rw[Xz,N]
  obtain⟨_,V⟩:=jz t d.1 nx Q n1 Z p.left;obtain⟨D,E,F,C⟩:=qr k d.2 B m L ((unfold t d.1 nx).2.1++objs) (nx+t.owns) aq z K (p.right N) (by omega);simp only[WU,jw];refine⟨by rw[D,M];omega,λi q R=>?_,by rw[l];simp[F],λj x u c a=>?_⟩
  .rcases E i q R with⟨H,O,r⟩|g
   .exact .inl ⟨by omega,by omega,r⟩
   .rcases WQ g with g|g
    .obtain⟨H,O,e,xs,rfl,r⟩:=V i q g;exact .inl ⟨H,by omega,r⟩
    .exact .inr g
  .rw[l]at a;cases j with
   |zero=>simp at c a;subst c a;exact L4 J p.left (by omega)
   |succ j=>exact C j x u (by simpa using c) (by simpa using a)
 | .kv t agg::k,d,vs,A,L,objs,nx,aq,z,⟨v,B,n1,m,S,l,y,_,J,K⟩,p,hx=>by
  subst y;obtain⟨Q,Z⟩:=MJ J;have N:=W9 _ _ _ _ Z;have M:(n1++m).length=t.owns+m.length:=by rw[Xz,N]
  obtain⟨_,V⟩:=jz t d.1 nx Q n1 Z p.left;obtain⟨D,E,F,C⟩:=qr k d.2 B m S ((unfold t d.1 nx).2.1++objs) (nx+t.owns) aq z K (p.right N) (by omega);simp only[WU,jw];refine⟨by rw[D,M];omega,λi q R=>?_,by rw[l];simp[F],λj x u c a=>?_⟩
  .rcases E i q R with⟨H,O,r⟩|g
   .exact .inl ⟨by omega,by omega,r⟩
   .rcases WQ g with g|g
    .obtain⟨H,O,e,xs,rfl,r⟩:=V i q g;exact .inl ⟨H,by omega,r⟩
    .exact .inr g
  .rw[l]at a;cases j with
   |zero=>simp at c a;subst c a;exact L4 J p.left (by omega)
   |succ j=>exact C j x u (by simpa using c) (by simpa using a)
 | .box t::k,d,vs,A,L,objs,nx,aq,z,⟨b,o,B,n1,m,S,l,y,J,⟨Q,bu,aN,Y⟩,h6⟩,p,hx=>by
  subst y;have N:=W9 _ _ _ _ Y;have M:((⟨c6 b o,rng b o t.size⟩:Pc)::(n1++m)).length=1+t.owns+m.length:=by rw[Xs,Xz,N];omega
  obtain⟨f,P⟩:ν nx=c6 b o/\φ nx=rng b o t.size:=by have:=p 0 _ rfl;simpa using this
  have I:At ν φ (nx+1) (n1++m):=p.right (n1:=[⟨c6 b o,rng b o t.size⟩]) rfl;obtain⟨c1,V⟩:=jz t d.1 (nx+1) Q n1 Y I.left;have X:=tR t d.1 (nx+1);obtain⟨D,E,F,C⟩:=qr k d.2 B m S ((nx,.box (unfold t d.1 (nx+1)).1)::((unfold t d.1 (nx+1)).2.1++objs)) (nx+1+t.owns) aq z h6 (I.right N) (by omega);simp only[WU,jw];refine⟨by rw[D,M];omega,λi q R=>?_,by rw[l];simp[F],λj x u c a=>?_⟩
  .rcases E i q R with⟨H,O,r⟩|g
   .exact .inl ⟨by omega,by omega,r⟩
   .rw[WJ]at g;split at g
    .rename_i e;subst e;injection g with g;subst g;exact .inl ⟨Xm _,by omega,b,Q,by rw[f];rfl,by rw[f,X];exact bu,by rw[f];exact aN,c1 aq (by omega),by rw[f,X,P];exactλ_ _ hh=>hh⟩
    .rcases WQ g with g|g
     .obtain⟨H,O,e,xs,rfl,r⟩:=V i q g;exact .inl ⟨by omega,by omega,r⟩
     .exact .inr g
  .rw[l]at a;cases j with
   |zero=>
    simp at c a;subst c a;exact⟨⟨by omega,b,by rw[f];rfl,by rw[f];rfl⟩,rfl⟩
   |succ j=>exact C j x u (by simpa using c) (by simpa using a)
 | .vj _::_,_,_,_,_,_,_,_,_,h,_,_=>h.elim
 | .boxal t lf::k,d,vs,A,L,objs,nx,aq,z,⟨b,o,b',W,B,n1,m,S,l,y,J,⟨Q,bu,aN,Y⟩,K,h5,h7,h6⟩,p,hx=>by
  subst y;have N:=W9 _ _ _ _ Y;have M:((⟨c6 b o,rng b o t.size⟩:Pc)::(n1++m)).length=1+t.owns+m.length:=by rw[Xs,Xz,N];omega
  obtain⟨f,P⟩:ν nx=c6 b o/\φ nx=rng b o t.size:=by have:=p 0 _ rfl;simpa using this
  have I:At ν φ (nx+1) (n1++m):=p.right (n1:=[⟨c6 b o,rng b o t.size⟩]) rfl;obtain⟨c1,V⟩:=jz t d.1 (nx+1) Q n1 Y I.left;have X:=tR t d.1 (nx+1);have uY:lf<n1.length:=(dp.1 K).1;have U:ν (nx+1+lf)=W.nu:=(I.left lf W K).1;obtain⟨D,E,F,C⟩:=qr k d.2.2 B m S ((nx,.box (unfold t d.1 (nx+1)).1)::((unfold t d.1 (nx+1)).2.1++objs)) (nx+1+t.owns) aq z h6 (I.right N) (by omega);simp only[WU,jw];refine⟨by rw[D,M];omega,λi q R=>?_,by rw[l];simp[F],λj x u c a=>?_⟩
  .rcases E i q R with⟨H,O,r⟩|g
   .exact .inl ⟨by omega,by omega,r⟩
   .rw[WJ]at g;split at g
    .rename_i e;subst e;injection g with g;subst g;exact .inl ⟨Xm _,by omega,b,Q,by rw[f];rfl,by rw[f,X];exact bu,by rw[f];exact aN,c1 aq (by omega),by rw[f,X,P];exactλ_ _ hh=>hh⟩
    .rcases WQ g with g|g
     .obtain⟨H,O,e,xs,rfl,r⟩:=V i q g;exact .inl ⟨by omega,by omega,r⟩
     .exact .inr g
  .rw[l]at a
   match j with
   |0=>
    simp at c a;subst c a;exact⟨⟨by omega,b,by rw[f];rfl,by rw[f];rfl⟩,rfl⟩
   |1=>
    simp at c a;subst c a;exact⟨⟨by omega,by rw[U];exact h7,b',by rw[U];exact h5,by rw[U];rfl⟩,rfl⟩
   |j+2=>exact C j x u (by simpa using c) (by simpa using a)
 | .rp t::k,d,vs,A,L,objs,nx,aq,z,⟨b,o,Q,B,l,y,J,K⟩,p,hx=>by
  obtain⟨D,E,F,C⟩:=qr k d.2 B A L objs nx aq z K p hx;simp only[WU];refine⟨D,E,by rw[l];simp[F],λj x u c a=>?_⟩;rw[l]at a;cases j with
  |zero=>
   simp at c a;subst c a;exact⟨⟨b,o,Q,by rw[c5],y,J⟩,rfl⟩
  |succ j=>exact C j x u (by simpa using c) (by simpa using a)
 | .mut e::k,d,vs,A,L,objs,nx,aq,z,⟨W,B,m,S,l,y,J,K,h5⟩,p,hx=>by
  subst y;have M:(W::m).length=1+m.length:=by rw[Xs];omega
  obtain⟨f,P⟩:ν nx=W.nu/\φ nx=W.fp:=by have:=p 0 _ rfl;simpa using this
  obtain⟨D,E,F,C⟩:=qr k d.2 B m S ((nx,.arr e d.1)::objs) (nx+1) aq z h5 (p.right (n1:=[W]) rfl) (by omega);simp only[WU];refine⟨by rw[D,M];omega,λi q R=>?_,by rw[l];simp[F],λj x u c a=>?_⟩
  .rcases E i q R with⟨H,O,r⟩|g
   .exact .inl ⟨by omega,by omega,r⟩
   .rw[WJ]at g;split at g
    .rename_i e;subst e;injection g with g;subst g;refine .inl ⟨Xm _,by omega,?_⟩;show ah w (WC G w _) _ (ν nx) d.1 (φ nx);rw[f,P];exact K
    .exact .inr g
  .rw[l]at a;cases j with
   |zero=>
    simp at c a;subst c a;exact⟨⟨by omega,by rw[f]⟩,Dz _⟩
   |succ j=>exact C j x u (by simpa using c) (by simpa using a)
 | .clos g n::k,d,vs,A,L,objs,nx,aq,z,⟨T,B,l,y,J,K⟩,p,hx=>by
  simp only[fG,Xh]at z;obtain⟨D,E,F,C⟩:=qr k d (T++B) A L objs nx aq z.2 K p hx;obtain⟨ids,H,O⟩:=SF k d objs nx n z.1;simp only[WU];rw[O,Sh];have M:(WU k d objs nx).1.length=n+B.length:=by rw[F,Xz,y]
  have wC:∀(j i:Nat),ids[j]?=some i->(WU k d objs nx).1[j]?=some (AVal.s (.one (.ptr i 0))):=λj i c=>by
   have ae:j<n:=by rw[←H];exact(dp.1 c).1
   have:((WU k d objs nx).1.take n)[j]?=some (.s (.one (.ptr i 0))):=by rw[O];simp[da,c]
   rw[List.getElem?_take,Wf ae]at this;exact this
  refine⟨D,E,by rw[l];simp[M],λj x u c a=>?_⟩;rw[l]at a;cases j with
  |zero=>
   simp at c a;subst c a;refine⟨⟨T,rfl,by rw[y,H],λj i u c a=>?_⟩,rfl⟩;have ae:j<T.length:=(dp.1 a).1;obtain⟨⟨q1,q2⟩,q3⟩:=C j _ u (wC j i c) (by rw[List.getElem?_append_left ae];exact a);exact⟨q1,q3,q2⟩
  |succ j=>
   have gh:(WU k d objs nx).1[n+j]?=some x:=by
    rw[←List.getElem?_drop];simpa using c
   exact C (n+j) x u gh (by rw[vC (by omega),y,rQ];simpa using a)
theorem qy:∀(a:List PTy) (d:cu a) (vs:List Value) (j:List Pc) (i:List Nu),gc G w a d vs j i->vs.length<=eK a
 | [],d,vs,j,i,⟨c,_,_⟩=>by rw[c];exact Xm _
 | .v t agg::a,d,vs,j,i,⟨v,k,r,p,c,l,m,f⟩=>by rw[c,Xs];have:=qy a _ _ _ _ f;simp only[eK];omega
 | .box t::a,d,vs,j,i,⟨b,o,k,r,p,q,c,l,m,f,u⟩=>by rw[c,Xs];have:=qy a _ _ _ _ u;simp only[eK];omega
 | .mut e::a,d,vs,j,i,⟨z,k,p,q,c,l,m,f,s⟩=>by rw[c,Xs];have:=qy a _ _ _ _ s;simp only[eK];omega
 | .clos g n::a,d,vs,j,i,⟨x,k,c,l,m,f⟩=>by rw[c,Xs];have:=qy a _ _ _ _ f;simp at this;simp only[eK];omega
 | .kv t agg::a,d,vs,j,i,⟨v,k,r,p,q,c,l,C,m,f⟩=>by rw[c,Xs];have:=qy a _ _ _ _ f;simp only[eK];omega
 | .rp t::a,d,vs,j,i,⟨b,o,D,k,c,l,m,f⟩=>by rw[c,Xs];have:=qy a _ _ _ _ f;simp only[eK];omega
 | .vj _::_,_,_,_,_,h=>h.elim
 | .boxal t lf::a,d,vs,j,i,⟨b,o,A,z,k,r,p,q,c,l,m,f,s,u,B,y⟩=>by rw[c,Xs,Xs];have:=qy a _ _ _ _ y;simp only[eK];omega
def vq(i:Nat)(vs:List Value):List (Nat×Value):=match vs with
 |v::_=>[(i,v)]
 | []=>[]
def WL:List PTy->Nat->Nat->List Value->List (Nat×Value)
 | [],_,_,_=>[]
 |_::ps,i,k+1,vs=>WL ps i k vs
 | .v _ _::ps,i,0,vs=>WL ps (i+1) 0 vs.tail
 | .box _::ps,i,0,vs=>vq i vs++WL ps (i+1) 0 vs.tail
 | .mut _::ps,i,0,vs=>vq i vs++WL ps (i+1) 0 vs.tail
 | .clos _ n::ps,i,0,vs=>vq i vs++WL ps (i+1) n vs.tail
 | .kv _ _::ps,i,0,vs=>vq i vs++WL ps (i+1) 0 vs.tail
 | .rp _::ps,i,0,vs=>WL ps (i+1) 0 vs.tail
 | .vj _::ps,i,0,vs=>WL ps (i+1) 0 vs.tail
 | .boxal _ _::ps,i,0,vs=>vq i vs++WL ps (i+2) 0 vs.tail.tail
theorem mW{i:Nat}{vs:List Value}{p:Nat×Value}(h:p∈vq i vs):p.1=i/\vs[0]?=some p.2:=by
 unfold vq at h;split at h
 .simp at h;subst h;exact⟨rfl,rfl⟩
 .cases h
theorem WY:∀(a:List PTy) (i k:Nat) (vs:List Value),∀p∈WL a i k vs,p.1∈kA a i k
 | [],_,_,_,p,h=>by simp[WL]at h
 | .v _ _::a,i,k+1,vs,p,h=>WY a i k vs p h
 | .box _::a,i,k+1,vs,p,h=>WY a i k vs p h
 | .mut _::a,i,k+1,vs,p,h=>WY a i k vs p h
 | .clos _ _::a,i,k+1,vs,p,h=>WY a i k vs p h
 | .v _ _::a,i,0,vs,p,h=>WY a (i+1) 0 vs.tail p h
 | .box _::a,i,0,vs,p,h=>by
  simp only[WL]at h;rcases Xp.1 h with h|h
  .rw[(mW h).1];exact Xl ..
  .exact Xg _ (WY a (i+1) 0 vs.tail p h)
 | .mut _::a,i,0,vs,p,h=>by
  simp only[WL]at h;rcases Xp.1 h with h|h
  .rw[(mW h).1];exact Xl ..
  .exact Xg _ (WY a (i+1) 0 vs.tail p h)
 | .clos _ n::a,i,0,vs,p,h=>by
  simp only[WL]at h;rcases Xp.1 h with h|h
  .rw[(mW h).1];exact Xl ..
  .exact Xg _ (WY a (i+1) n vs.tail p h)
 | .kv _ _::a,i,k+1,vs,p,h=>WY a i k vs p h
 | .kv _ _::a,i,0,vs,p,h=>by
  simp only[WL]at h;rcases Xp.1 h with h|h
  .rw[(mW h).1];exact Xl ..
  .exact Xg _ (WY a (i+1) 0 vs.tail p h)
 | .rp _::a,i,k+1,vs,p,h=>WY a i k vs p h
 | .rp _::a,i,0,vs,p,h=>WY a (i+1) 0 vs.tail p h
 | .vj _::a,i,k+1,vs,p,h=>WY a i k vs p h
 | .vj _::a,i,0,vs,p,h=>WY a (i+1) 0 vs.tail p h
 | .boxal _ _::a,i,k+1,vs,p,h=>WY a i k vs p h
 | .boxal _ _::a,i,0,vs,p,h=>by
  simp only[WL]at h;rcases Xp.1 h with h|h
  .rw[(mW h).1];exact Xl ..
  .exact Xg _ (WY a (i+2) 0 vs.tail.tail p h)
theorem WT:∀(a:List PTy) (i k:Nat) (vs:List Value),∀p∈WL a i k vs,i<=p.1/\vs[p.1-i]?=some p.2
 | [],_,_,_,p,h=>by simp[WL]at h
 | .v _ _::a,i,k+1,vs,p,h=>WT a i k vs p h
 | .box _::a,i,k+1,vs,p,h=>WT a i k vs p h
 | .mut _::a,i,k+1,vs,p,h=>WT a i k vs p h
 | .clos _ _::a,i,k+1,vs,p,h=>WT a i k vs p h
 | .v _ _::a,i,0,vs,p,h=>by
  obtain⟨c,b⟩:=WT a (i+1) 0 vs.tail p h;refine⟨by omega,?_⟩;rw[show p.1-i=(p.1-(i+1))+1 by omega,←pN];exact b
 | .box _::a,i,0,vs,p,h=>by
  simp only[WL]at h;rcases Xp.1 h with h|h
  .obtain⟨c,b⟩:=mW h;rw[c];exact⟨Xm _,by rw[pZ];exact b⟩
  .obtain⟨c,b⟩:=WT a (i+1) 0 vs.tail p h;refine⟨by omega,?_⟩;rw[show p.1-i=(p.1-(i+1))+1 by omega,←pN];exact b
 | .mut _::a,i,0,vs,p,h=>by
  simp only[WL]at h;rcases Xp.1 h with h|h
  .obtain⟨c,b⟩:=mW h;rw[c];exact⟨Xm _,by rw[pZ];exact b⟩
  .obtain⟨c,b⟩:=WT a (i+1) 0 vs.tail p h;refine⟨by omega,?_⟩;rw[show p.1-i=(p.1-(i+1))+1 by omega,←pN];exact b
 | .clos _ n::a,i,0,vs,p,h=>by
  simp only[WL]at h;rcases Xp.1 h with h|h
  .obtain⟨c,b⟩:=mW h;rw[c];exact⟨Xm _,by rw[pZ];exact b⟩
  .obtain⟨c,b⟩:=WT a (i+1) n vs.tail p h;refine⟨by omega,?_⟩;rw[show p.1-i=(p.1-(i+1))+1 by omega,←pN];exact b
 | .kv _ _::a,i,k+1,vs,p,h=>WT a i k vs p h
 | .kv _ _::a,i,0,vs,p,h=>by
  simp only[WL]at h;rcases Xp.1 h with h|h
  .obtain⟨c,b⟩:=mW h;rw[c];exact⟨Xm _,by rw[pZ];exact b⟩
  .obtain⟨c,b⟩:=WT a (i+1) 0 vs.tail p h;refine⟨by omega,?_⟩;rw[show p.1-i=(p.1-(i+1))+1 by omega,←pN];exact b
 | .rp _::a,i,k+1,vs,p,h=>WT a i k vs p h
 | .rp _::a,i,0,vs,p,h=>by
  obtain⟨c,b⟩:=WT a (i+1) 0 vs.tail p h;refine⟨by omega,?_⟩;rw[show p.1-i=(p.1-(i+1))+1 by omega,←pN];exact b
 | .vj _::a,i,k+1,vs,p,h=>WT a i k vs p h
 | .vj _::a,i,0,vs,p,h=>by
  obtain⟨c,b⟩:=WT a (i+1) 0 vs.tail p h;refine⟨by omega,?_⟩;rw[show p.1-i=(p.1-(i+1))+1 by omega,←pN];exact b
 | .boxal _ _::a,i,k+1,vs,p,h=>WT a i k vs p h
 | .boxal _ _::a,i,0,vs,p,h=>by
  simp only[WL]at h;rcases Xp.1 h with h|h
  .obtain⟨c,b⟩:=mW h;rw[c];exact⟨Xm _,by rw[pZ];exact b⟩
  .obtain⟨c,b⟩:=WT a (i+2) 0 vs.tail.tail p h;refine⟨by omega,?_⟩;rw[show p.1-i=(p.1-(i+2))+1+1 by omega,←pN,←pN];exact b
def uB(a:Array Value):ResultVar->Sem Value
 | .tmp t=>pure (a.getD t undef)
 | .cell b t=>do loadVar t (←asAddr (a.getD b undef))
theorem Ga(m:ao P T)(f:Rel w0 F nt G0 G ν st a w):∀(l:List ResultVar) (xs:List AVal),iO T st l=some xs->
  ∃e:List Value,(l.mapM (uB a.tmps)).run P w= .ok e w/\e.length=xs.length/\
   ∀(j:Nat) (x:AVal) (v:Value),xs[j]?=some x->e[j]?=some v->AValRel G ν st.nx x v
 | [],xs,h=>by
  simp only[iO]at h;injection h with h;subst h;exact⟨[],by simp,rfl,λj x v d=>by simp at d⟩
 | .tmp t::l,xs,h=>by
  simp only[iO]at h;split at h
  .rename_i x uS h1 h2;injection h with h;subst h;obtain⟨e,g,i,k⟩:=Ga m f l uS h2;obtain⟨v,o,r⟩:=f.env t x h1;refine⟨v::e,?_,by simp[i],λj y u d c=>?_⟩
   .have iG:a.tmps.getD t undef=v:=by simp[D4,o]
    simp only[Ed,Sem.run_bind,uB,Sem.run_pure,Result.andThen_ok,g,iG]
   .cases j with
    |zero=>simp at d c;subst d c;exact r
    |succ j=>exact k j y u (by simpa using d) (by simpa using c)
  .cases h
 | .cell b t::l,xs,h=>by
  simp only[iO]at h;split at h
  .rename_i x uS h1 h2;injection h with h;subst h;obtain⟨e,g,i,k⟩:=Ga m f l uS h2;cases hb:Wt st.env b with
   |none=>simp[hb]at h1
   |some y=>
    simp only[hb,Xd]at h1;obtain⟨v,o,r⟩:=f.env b y hb;obtain⟨u,c,s⟩:=Rp m f.h r h1;refine⟨u::e,?_,by simp[i],λj z q d n=>?_⟩
    .have iG:a.tmps.getD b undef=v:=by simp[D4,o]
     unfold Instr.loadAt at c;rw[Sem.run_bind]at c;obtain⟨p,rfl⟩:∃p,v= .pointer (some p):=by
      unfold Instr.sureAddr at c;split at c
      .exact⟨_,rfl⟩
      .simp[stuck]at c
     simp only[Instr.sureAddr,Sem.run_pure,Result.andThen_ok]at c;have A:(asAddr (.pointer (some p))).run P w= .ok p w:=rfl;simp only[Ed,Sem.run_bind,uB,Sem.run_pure,Result.andThen_ok,iG,A,c,g]
    .cases j with
     |zero=>simp at d n;subst d n;exact s
     |succ j=>exact k j z q (by simpa using d) (by simpa using n)
  .cases h
theorem FA(h:HR w0 F G ν φ objs nx w)(I:GLe G G'):∀(B:List PTy) (xs:List AVal) (vs:List Value) (A:Outs (db B)),vs.length=xs.length->
  (∀(j:Nat) (x:AVal) (v:Value),xs[j]?=some x->vs[j]?=some v->AValRel G ν nx x v)->Lent G' w φ objs A.lent->A.moved.Nodup->eZ B xs objs=some A->
  ∃W,pi G' w B A.d vs W/\Sep (fps W)/\(∀q∈W,CS.le q.fp (FromL φ objs A.moved))/\(∀i∈A.moved,Live objs i)
 | [],xs,vs,A,g,z,s,D,c=>by
  simp only[eZ]at c;split at c
  .injection c with c;subst c;have ig:vs= []:=dV (by simpa using g);exact⟨[],⟨ig,rfl⟩,List.Pairwise.nil,by simp,by simp⟩
  .cases c
 | .v t agg::B,xs,vs,A,g,z,s,D,c=>by
  simp only[eZ]at c;split at c
  .rename_i x xs;split at c
   .rename_i d m l A' h1 h2;injection c with c;subst c
    match vs,g with
    |v::vs,g=>
     cases hc:cellsOf agg x with
     |none=>simp[hc]at h1
     |some cs=>
      simp[hc]at h1;obtain⟨P,Q,R⟩:=dc.1 D;obtain⟨n1,H,J,p,K,_⟩:=Gi h I (z 0 x v rfl rfl) (s.mono (λi a=>Xo _ a)) P hc h1;obtain⟨C,L,M,r,N⟩:=FA h I B xs vs A' (by simpa using g) (λj y u k O=>z (j+1) y u (by simpa using k) (by simpa using O)) (s.mono (λi a=>Xi _ a)) Q h2;refine⟨n1++C,⟨v,vs,n1,C,rfl,rfl,H,L⟩,mZ h J M p r (λi a k=>R i a i k rfl),λq e=>?_,λi a=>?_⟩
      .rcases Xp.1 e with e|e
       .exactλb o f=>FromL.mono (λi a=>Xo _ a) b o (p q e b o f)
       .exactλb o f=>FromL.mono (λi a=>Xi _ a) b o (r q e b o f)
      .rcases Xp.1 a with a|a
       .exact K i a
       .exact N i a
   .cases c
  .cases c
 | .box t::B,xs,vs,A,g,z,s,D,c=>by
  simp only[eZ]at c;split at c
  .rename_i id xs;split at c
   .rename_i cs Y;split at c
    .rename_i d m l A' h1 h2;injection c with c;subst c
     match vs,g with
     |v::vs,g=>
      obtain⟨k0,P⟩:=cr.1 D;obtain⟨Q,R,k4⟩:=dc.1 P;obtain⟨⟨_,b,V,rfl⟩,_⟩:=z 0 _ v rfl rfl;have T:Live objs id:=⟨_,Y,by simp⟩;obtain⟨b'',n,S,Z,aN,E,U⟩:dt G ν nx w id (φ id) (.box cs):=h.ob _ _ Y;rw[V]at S;injection S with S;subst S;obtain⟨n1,H,J,p,K,_⟩:=fz h I t cs n d m l E (s.mono (λi a=>Xo _ a)) Q h1;have ew:cs.length=t.size:=by rw[←E.1];exact WI _ _ _ _ H
      obtain⟨C,L,M,r,N⟩:=FA h I B xs vs A' (by simpa using g) (λj y u k O=>z (j+1) y u (by simpa using k) (by simpa using O)) (s.mono (λi a=>Xi _ a)) R h2;rw[ew]at Z U;refine⟨⟨c6 b ((ν id).off+0),rng b ((ν id).off+0) t.size⟩::(n1++C),⟨b,(ν id).off+0,vs,n1,C,rfl,rfl,⟨n,Z,aN,H⟩,L⟩,?_,λq e=>?_,λi a=>?_⟩
      .refine mZ h (n1:=[⟨c6 b ((ν id).off+0),rng b ((ν id).off+0) t.size⟩]) (m:=[id]) (l:=m++A'.moved) (rP _ _) (mZ h J M p r (λi a k=>k4 i a i k rfl)) (λq e=>?_) (λq e=>?_) (λi a k=>k0 (by rw[←cw.1 a];exact k))
       .rw[cw.1 e];exactλb o f=>⟨id,by simp,T,U b o f⟩
       .rcases Xp.1 e with e|e
        .exactλb o f=>FromL.mono (λi a=>Xo _ a) b o (p q e b o f)
        .exactλb o f=>FromL.mono (λi a=>Xi _ a) b o (r q e b o f)
      .rcases Xr.1 e with rfl|e
       .exactλb o f=>⟨id,by simp,T,U b o f⟩
       .rcases Xp.1 e with e|e
        .exactλb o f=>FromL.mono (λi a=>Xg _ (Xo _ a)) b o (p q e b o f)
        .exactλb o f=>FromL.mono (λi a=>Xg _ (Xi _ a)) b o (r q e b o f)
      .rcases Xr.1 a with rfl|a
       .exact T
       .rcases Xp.1 a with a|a
        .exact K i a
        .exact N i a
    .cases c
   .cases c
  .cases c
 | .mut _::_,_,_,_,_,_,_,_,h=>by simp only[eZ]at h;cases h
 | .clos _ _::_,_,_,_,_,_,_,_,h=>by simp only[eZ]at h;cases h
 | .kv _ _::_,_,_,_,_,_,_,_,h=>by simp only[eZ]at h;cases h
 | .rp _::_,_,_,_,_,_,_,_,h=>by simp only[eZ]at h;cases h
 | .vj t::B,xs,vs,A,g,z,s,D,c=>by
  simp only[eZ]at c;split at c
  .rename_i cs xs;split at c
   .rename_i dz;split at c
    .rename_i d m l A' h1 h2;injection c with c;subst c
     match vs,g with
     |v::vs,g=>
      obtain⟨P,Q,R⟩:=dc.1 D;obtain⟨n,rfl,E⟩:=z 0 _ v rfl rfl;obtain⟨n1,H,J,p,K,_⟩:=fz h I t (cs.take t.size) (n.take t.size) d m l (E.take t.size) (s.mono (λi a=>Xo _ a)) P h1;obtain⟨C,L,M,r,N⟩:=FA h I B xs vs A' (by simpa using g) (λj y u k O=>z (j+1) y u (by simpa using k) (by simpa using O)) (s.mono (λi a=>Xi _ a)) Q h2;have ew:n.length=t.size+1:=by rw[E.1,dz]
      have X:t.size<n.length:=by omega
      have e0:n=n.take t.size++ [n[t.size]]:=by
       rw[←List.take_succ_eq_append_getElem X,vD (by omega)]
      have ho:=(E.2 t.size (cs[t.size]'(by omega)) n[t.size] (Xq (by omega)) (Xq X)).2;refine⟨n1++C,⟨n.take t.size,n[t.size],vs,n1,C,by rw[←e0],ho,rfl,H,L⟩,mZ h J M p r (λi a k=>R i a i k rfl),λq e=>?_,λi a=>?_⟩
      .rcases Xp.1 e with e|e
       .exactλb o f=>FromL.mono (λi a=>Xo _ a) b o (p q e b o f)
       .exactλb o f=>FromL.mono (λi a=>Xi _ a) b o (r q e b o f)
      .rcases Xp.1 a with a|a
       .exact K i a
       .exact N i a
    .cases c
   .cases c
  .cases c
 | .boxal _ _::_,_,_,_,_,_,_,_,h=>by simp only[eZ]at h;cases h
theorem Wpm{p:PTy}{a:List PTy}{k:Nat}(h:zy (p::a) (k+1)=true):(∃t,p= .box t)/\zy a k=true:=by
 cases p with
 |box t=>exact⟨⟨t,rfl⟩,h⟩
 |_=>cases h
theorem Di(d:Rel w0 F nt G0 G ν st a w){i:Nat}{u:Value}(c:a.tmps[i]?=some u):(Wt st.env i).getD (.tup [])= .tup []\/AValRel G ν st.nx ((Wt st.env i).getD (.tup [])) u:=by
 cases he:Wt st.env i with
 |none=>exact .inl rfl
 |some y=>
  obtain⟨v,b,e⟩:=d.env i y he;rw[c]at b;injection b with b;subst b;exact .inr e
theorem oM{wb:World}{Gb:GH}(y:Rel w0 F nt G0 G ν st a w):∀(f:List PTy) (d:cu f) (vs:List Value) (A:List Pc) (z:List Nu) (i k:Nat),gc Gb wb f d vs A z->fG f=true->zy f k=true->k<=vs.length->
  (∀p∈WL f i k (vs.drop k),a.tmps[p.1]?=some p.2)->(WF f i k st).length+k=vs.length/\
  ∀(j:Nat) (x:AVal) (v:Value),(WF f i k st)[j]?=some x->vs[k+j]?=some v->x= .tup []\/AValRel G ν st.nx x v
 | [],d,vs,A,z,i,k,⟨m,_,_⟩,_,_,N,_=>by
  subst m;have:k=0:=by simpa using N
  subst this;exact⟨rfl,λj x v c=>by simp[WF]at c⟩
 |p::f,d,vs,A,z,i,k+1,h,q,S,N,hp=>by
  obtain⟨⟨t,rfl⟩,Q⟩:=Wpm S;obtain⟨b,o,r,L,C,H,m,E,J,B,K⟩:=h;subst m;have T:fG f=true:=q;obtain⟨I,s⟩:=oM y f d.2 r C H i k K T Q (by simpa using N) (by simpa [WL]using hp);refine⟨by simp only[WF,Xs];omega,λj x v c P=>s j x v (by simpa [WF]using c) ?_⟩;rw[show k+1+j=(k+j)+1 by omega]at P;simpa using P
 | .v t agg::f,d,vs,A,z,i,0,⟨v,r,L,C,m,E,J,B⟩,q,_,_,hp=>by
  subst m;obtain⟨I,s⟩:=oM y f d.2 r C z (i+1) 0 B q (by cases f<;>rfl) (j6 _) (by simpa [WL]using hp);refine⟨by simp only[WF,Xs];omega,λj x u c l=>?_⟩;cases j with
  |zero=>simp[WF]at c;exact .inl c.symm
  |succ j=>exact s j x u (by simpa [WF]using c) (by simpa using l)
 | .rp t::f,d,vs,A,z,i,0,⟨b,o,Y,r,m,E,J,B⟩,q,_,_,hp=>by
  subst m;obtain⟨I,s⟩:=oM y f d.2 r A z (i+1) 0 B q (by cases f<;>rfl) (j6 _) (by simpa [WL]using hp);refine⟨by simp only[WF,Xs];omega,λj x u c l=>?_⟩;cases j with
  |zero=>simp[WF]at c;exact .inl c.symm
  |succ j=>exact s j x u (by simpa [WF]using c) (by simpa using l)
 | .box t::f,d,vs,A,z,i,0,⟨b,o,r,L,C,H,m,E,J,B,K⟩,q,_,_,hp=>by
  subst m;simp only[WL,eC,Eb]at hp;obtain⟨I,s⟩:=oM y f d.2 r C H (i+1) 0 K q (by cases f<;>rfl) (j6 _) (λp D=>hp p (Xi _ (by simpa using D)));refine⟨by simp only[WF,Xs];omega,λj x u c l=>?_⟩;cases j with
  |zero=>
   simp[WF]at c l;subst c l;exact Di y (hp (i,_) (Xo _ (Xl ..)))
  |succ j=>exact s j x u (by simpa [WF]using c) (by simpa using l)
 | .vj _::_,_,_,_,_,_,_,h,_,_,_,_=>h.elim
 | .boxal t lf::f,d,vs,A,z,i,0,⟨b,o,V,U,r,L,C,H,m,E,J,B,O,K,W,R⟩,q,_,_,hp=>by
  subst m;simp only[WL,eC,Eb]at hp;obtain⟨I,s⟩:=oM y f d.2.2 r C H (i+2) 0 R q (by cases f<;>rfl) (j6 _) (λp D=>hp p (Xi _ (by simpa using D)));refine⟨by simp only[WF,Xs];omega,λj x u c l=>?_⟩
  match j with
  |0=>
   simp[WF]at c l;subst c l;exact Di y (hp (i,_) (Xo _ (Xl ..)))
  |1=>simp[WF]at c;exact .inl c.symm
  |j+2=>exact s j x u (by simpa [WF]using c) (by simpa using l)
 | .mut e::f,d,vs,A,z,i,0,⟨U,r,C,H,m,E,J,B,O⟩,q,_,_,hp=>by
  subst m;simp only[WL,eC,Eb]at hp;obtain⟨I,s⟩:=oM y f d.2 r C H (i+1) 0 O q (by cases f<;>rfl) (j6 _) (λp D=>hp p (Xi _ (by simpa using D)));refine⟨by simp only[WF,Xs];omega,λj x u c l=>?_⟩;cases j with
  |zero=>
   simp[WF]at c l;subst c l;exact Di y (hp (i,_) (Xo _ (Xl ..)))
  |succ j=>exact s j x u (by simpa [WF]using c) (by simpa using l)
 | .clos g n::f,d,vs,A,z,i,0,⟨M,r,m,E,J,B⟩,q,_,_,hp=>by
  subst m;simp only[fG,Xh]at q;simp only[WL,eC,Eb]at hp;obtain⟨I,s⟩:=oM y f d (M++r) A z (i+1) n B q.2 q.1 (by simp[E]) (λp D=>hp p (Xi _ (by rw[List.drop_left' E]at D;exact D)));refine⟨by simp only[WF,Xs];simp at I;omega,λj x u c l=>?_⟩;cases j with
  |zero=>
   simp[WF]at c l;subst c l;exact Di y (hp (i,_) (Xo _ (Xl ..)))
  |succ j=>exact s j x u (by simpa [WF]using c) (by rw[vC (by omega),E,rQ];simpa using l)
 | .kv t agg::f,d,vs,A,z,i,0,⟨v,r,L,C,H,m,E,X,J,B⟩,q,_,_,hp=>by
  subst m;simp only[WL,eC,Eb]at hp;obtain⟨I,s⟩:=oM y f d.2 r C H (i+1) 0 B q (by cases f<;>rfl) (j6 _) (λp D=>hp p (Xi _ (by simpa using D)));refine⟨by simp only[WF,Xs];omega,λj x u c l=>?_⟩;cases j with
  |zero=>
   simp[WF]at c l;subst c l;exact Di y (hp (i,_) (Xo _ (Xl ..)))
  |succ j=>exact s j x u (by simpa [WF]using c) (by simpa using l)
theorem UX{G G':GH}{wb w:World}{nu sO:Nu}{e:Ty}{xs m:List e.den}{S S':CS}(d:ah wb (WC G wb e) e.size nu xs S)(f:ah w (WC G' w e) e.size sO m S')(c:nu.hdr=sO.hdr):ah w (WC G' w e) e.size nu m S':=by
 unfold Nu.hdr at c;cases hb:sO.blk with
 |none=>
  cases c7:nu.blk with
  |some b=>simp[hb,c7]at c
  |none=>
   have n:=qv d c7;have i:=qv f hb;refine⟨by rw[i,←d.1,n],d.2.1,?_⟩;simp only[c7];exact i
 |some b=>
  cases c7:nu.blk with
  |none=>simp[hb,c7]at c
  |some b'=>
   simp only[hb,c7]at c;injection c with a j k;injection a with a;injection a with a l _;have g:=d.2.1;have h:=f.2.1;have:nu=sO:=by
    obtain⟨o,p,q,r,s⟩:=nu;obtain⟨t,u,v,x,y⟩:=sO;simp only at hb c7 a j k l g h;subst hb c7 a j k l;rw[g,h]
   rw[this];exact f
theorem FL{G G':GH}{wb w:World}:∀(t:Ty) (k d:t.den) (us:List Value) (n1 j:List Pc),WC G wb t k us n1->WC G' w t d us j->∃o,WC G' w t d us o/\nus o=nus n1/\fps o=fps j
 | .own e,k,d,us,n1,j,⟨y,f,m,n⟩,⟨x,i,c,l⟩=>by
  subst f i;have D:y.nu.hdr=x.nu.hdr:=by rw[m]at c;simpa using c
  exact⟨[⟨y.nu,x.fp⟩],⟨_,rfl,m,UX n l D⟩,rfl,rfl⟩
 | .prod a b,k,d,us,n1,j,⟨v1,v2,L,M,f,m,n,C⟩,⟨u1,u2,J,K,i,c,l,B⟩=>by
  have E:=WI a _ _ _ n;have F:=WI a _ _ _ l;obtain⟨H,I⟩:=List.append_inj (f.symm.trans i) (by rw[E,F]);subst H I m c;obtain⟨p,z,q,r⟩:=FL a _ _ _ _ _ n l;obtain⟨s,A,u,v⟩:=FL b _ _ _ _ _ C B;exact⟨p++s,⟨_,_,p,s,f,rfl,z,A⟩,by unfold nus at q u⊢;rw[Xx,Xx,q,u],by unfold fps at r v⊢;rw[Xx,Xx,r,v]⟩
 | .int _,k,d,us,n1,j,h,g=>by obtain⟨f,_⟩:=h;obtain⟨i,c⟩:=g;subst f i;exact⟨[],⟨rfl,c⟩,rfl,rfl⟩
 | .bool,k,d,us,n1,j,h,g=>by obtain⟨f,_⟩:=h;obtain⟨i,c⟩:=g;subst f i;exact⟨[],⟨rfl,c⟩,rfl,rfl⟩
 | .str,k,d,us,n1,j,h,g=>by obtain⟨f,_⟩:=h;obtain⟨i,c⟩:=g;subst f i;exact⟨[],⟨rfl,c⟩,rfl,rfl⟩
 | .slice _,k,d,us,n1,j,h,g=>by obtain⟨f,_⟩:=h;obtain⟨i,c⟩:=g;subst f i;exact⟨[],⟨rfl,c⟩,rfl,rfl⟩
theorem WsM{G G':GH}{wb w:World}{t:Ty}{a:Bool}{f d:t.den}{v:Value}{n1 n2:List Pc}(h:ec G wb t a f v n1)(g:ec G' w t a d v n2):∃c e,WC G' w t d c e/\nus e=nus n1/\fps e=fps n2:=by
 unfold ec at h g;split at h
 .rename_i ha;rw[Wf ha]at g;obtain⟨c,j,k⟩:=h;obtain⟨Ak,b,i⟩:=g;have:c=Ak:=by
   rw[j]at b;injection b with b;have:=Wq Array.toList b;simpa using this
  subst this;exact⟨c,FL _ _ _ _ _ _ k i⟩
 .rename_i ha;rw[We ha]at g;exact⟨_,FL _ _ _ _ _ _ h g⟩
structure OOk(G':GH)(φ:Nat->CS)(objs:aa)(w:World)(ps:List PTy)(B:OutK (cT ps))(ks:List Nu)(kf:List CS)(ms:List Pc):Prop where
 outs:gS G' w ps B.d ks kf ms
 sepk:Sep kf
 sepm:Sep (fps ms)
 kf:∀S∈kf,CS.le S (FromL φ objs B.kept)
 ms:∀q∈ms,CS.le q.fp (FromL φ objs B.moved)
theorem Hg(h:HR w0 F G ν φ objs nx w){k1 a:List CS}{m l:List Nat}(d:Sep k1)(e:Sep a)(b:∀S∈k1,CS.le S (FromL φ objs m))(c:∀S∈a,CS.le S (FromL φ objs l))(f:∀i∈m,i∉l):Sep (k1++a):=
 MP d e (A:=FromL φ objs m) (B:=FromL φ objs l) b c (FromL.disj h f)
theorem RI{wb:World}{Gb:GH}(O:GLe G G')(h:HR w0 F G ν φ objs nx w){t:Ty}{D:List PTy}{id b o:Nat}{cs:List Cell}{n:t.den}{m l:List Nat}{A:OutK (cT D)}{W:List Nu}{r:List CS}{s:List Pc}
  (T:CellRel G ν nx (.ptr id 0) (.pointer (some ⟨b,o,none⟩))) (B:Wt objs id=some (.box cs)) (N:aC t cs objs=some (n,m,l)) (Q:Lent G' w φ objs l) (P:(id::A.kept).Nodup) (R:(m++A.moved).Nodup) (e:OOk G' φ objs w D A W r s):
  ∃j,nh G' w t n b o j/\Sep (rng b o t.size::r)/\Sep (fps (j++s))/\(∀S∈rng b o t.size::r,CS.le S (FromL φ objs (id::A.kept)))/\(∀q∈j++s,CS.le q.fp (FromL φ objs (m++A.moved))):=by
 obtain⟨_,Y,H,d⟩:=T;injection d with d;injection d with d;injection d with d X _;subst d X;have K:Live objs id:=⟨_,B,by simp⟩;obtain⟨J,E,k,u,I,v,z⟩:dt G ν nx w id (φ id) (.box cs):=h.ob _ _ B;rw[H]at k;injection k with k;subst k;obtain⟨k1,Z⟩:=cr.1 P;obtain⟨U,k4,V⟩:=dc.1 R;obtain⟨j,x,L,y,_⟩:=fz h O t cs E n m l v Q U N;have M:cs.length=t.size:=by rw[←v.1];exact WI _ _ _ _ x
 rw[M]at u z;have C:CS.le (rng b ((ν id).off+0) t.size) (FromL φ objs [id]):=λb o c=>⟨id,by simp,K,z b o c⟩;refine⟨j,⟨E,u,I,x⟩,?_,mZ h L e.sepm y e.ms (λi a p=>V i a i p rfl),λS f=>?_,λq g=>?_⟩
 .exact Hg h (k1:=[rng b ((ν id).off+0) t.size]) (m:=[id]) (rP _ _) e.sepk (λS f=>by rw[cw.1 f];exact C) e.kf (λi a p=>k1 (by rw[←cw.1 a];exact p))
 .rcases Xr.1 f with rfl|f
  .exactλb o c=>FromL.mono (λi a=>by rw[cw.1 a];exact Xl ..) b o (C b o c)
  .exactλb o c=>FromL.mono (λi a=>Xg _ a) b o (e.kf S f b o c)
 .rcases Xp.1 g with g|g
  .exactλb o c=>FromL.mono (λi a=>Xo _ a) b o (y q g b o c)
  .exactλb o c=>FromL.mono (λi a=>Xi _ a) b o (e.ms q g b o c)
theorem qp{wb:World}{Gb:GH}(M:GLe G G')(h:HR w0 F G ν φ objs nx w):∀(k:List PTy) (d:cu k) (vs:List Value) (P:List Pc) (L:List Nu) (xs:List AVal) (B:OutK (cT k)),gc Gb wb k d vs P L->xs.length=vs.length->
  (∀(j:Nat) (x:AVal) (v:Value),xs[j]?=some x->vs[j]?=some v->x= .tup []\/AValRel G ν nx x v)->Lent G' w φ objs B.lent->B.kept.Nodup->B.moved.Nodup->W3 k xs objs=some B->
  ∃z C,OOk G' φ objs w k B L z C
 | [],d,vs,P,L,xs,B,⟨_,_,s⟩,_,_,_,_,_,a=>by
  simp only[W3]at a;injection a with a;subst a;exact⟨[],[],⟨s,rfl,rfl⟩,List.Pairwise.nil,List.Pairwise.nil,by simp,by simp⟩
 | .v t agg::k,d,vs,P,L,xs,B,⟨v,K,n1,R,E,T,Q,O⟩,r,p,D,s,H,a=>by
  subst E;simp only[W3]at a;cases hA:W3 k xs.tail objs with
  |none=>simp[hA]at a
  |some A=>
   simp[hA]at a;subst a
   match xs,r with
   |x::xs,r=>
    obtain⟨z,C,c⟩:=qp M h k d.2 K R L xs A O (by simpa using r) (λj y u f q=>p (j+1) y u (by simpa using f) (by simpa using q)) D s H hA;exact⟨z,C,c.outs,c.sepk,c.sepm,c.kf,c.ms⟩
 | .rp t::k,d,vs,P,L,xs,B,⟨b,o,Y,K,E,T,Q,O⟩,r,p,D,s,H,a=>by
  subst E;simp only[W3]at a;cases hA:W3 k xs.tail objs with
  |none=>simp[hA]at a
  |some A=>
   simp[hA]at a;subst a
   match xs,r with
   |x::xs,r=>
    obtain⟨z,C,c⟩:=qp M h k d.2 K P L xs A O (by simpa using r) (λj y u f q=>p (j+1) y u (by simpa using f) (by simpa using q)) D s H hA;exact⟨z,C,c.outs,c.sepk,c.sepm,c.kf,c.ms⟩
 | .box t::k,d,vs,P,L,xs,B,⟨b,o,K,n1,R,N,E,T,Q,O,h6⟩,r,p,D,s,H,a=>by
  subst E;simp only[W3]at a;split at a
  .rename_i id xs;split at a
   .rename_i cs W;split at a
    .rename_i dd m l A g1 g2;injection a with a;subst a;have U:=((p 0 _ _ rfl rfl).resolve_left (λe=>by cases e)).1;obtain⟨z,C,c⟩:=qp M h k d.2 K R N xs A h6 (by simpa using r) (λj y u f q=>p (j+1) y u (by simpa using f) (by simpa using q)) (D.mono λj f=>Xi _ f) (cr.1 s).2 (dc.1 H).2.1 g2;obtain⟨X,e1,e2,e3,e4,e5⟩:=RI (wb:=wb) (Gb:=Gb) M h U W g1 (D.mono λj f=>Xo _ f) s H c;exact⟨_,X++C,⟨b,o,N,z,X,C,Q,rfl,rfl,e1,c.outs⟩,e2,e3,e4,e5⟩
    .cases a
   .cases a
  .cases a
 | .vj _::_,_,_,_,_,_,_,h,_,_,_,_,_,_=>h.elim
 | .boxal t lf::k,d,vs,P,L,xs,B,⟨b,o,b',pc,K,n1,R,N,E,T,Q,O,h5,h6,h7,h8⟩,r,p,D,s,H,a=>by
  subst E;simp only[W3]at a;split at a
  .rename_i id y xs;split at a
   .rename_i cs W;split at a
    .rename_i dd m l A g1 g2;injection a with a;subst a;have U:=((p 0 _ _ rfl rfl).resolve_left (λe=>by cases e)).1;obtain⟨z,C,c⟩:=qp M h k d.2.2 K R N xs A h8 (by simpa using r) (λj y u f q=>p (j+2) y u (by simpa using f) (by simpa using q)) (D.mono λj f=>Xi _ f) (cr.1 s).2 (dc.1 H).2.1 g2;obtain⟨X,e1,e2,e3,e4,e5⟩:=RI (wb:=wb) (Gb:=Gb) M h U W g1 (D.mono λj f=>Xo _ f) s H c;exact⟨_,X++C,⟨b,o,N,z,X,C,Q,rfl,rfl,e1,c.outs⟩,e2,e3,e4,e5⟩
    .cases a
   .cases a
  .cases a
 | .mut e::k,d,vs,P,L,xs,B,⟨pc,K,R,N,E,T,Q,O,h5⟩,r,p,D,s,H,a=>by
  subst E;simp only[W3]at a;split at a
  .rename_i id xs;split at a
   .rename_i e' ys W;split at a
    .rename_i dd A g1 g2;injection a with a;subst a;obtain⟨lj,hd⟩:=jB g1;subst lj;simp only at hd;subst hd;obtain⟨⟨_,U⟩,_⟩:=(p 0 _ _ rfl rfl).resolve_left (λe=>by cases e);have ba:Live objs id:=⟨_,W,by simp⟩;have bd:ah w (WC G w e') e'.size (ν id) ys (φ id):=h.ob _ _ W;have ij:=tZ M (Same.refl _ w) (λ_ _ V=>V) bd;obtain⟨k1,k2⟩:=cr.1 s;obtain⟨z,C,c⟩:=qp M h k d.2 K R N xs A h5 (by simpa using r) (λj y u f q=>p (j+1) y u (by simpa using f) (by simpa using q)) D k2 H g2;refine⟨φ id::z,C,⟨⟨pc.nu,φ id⟩,N,z,Q,rfl,UX O ij U,c.outs⟩,?_,c.sepm,λS I=>?_,c.ms⟩
     .exact Hg h (k1:=[φ id]) (m:=[id]) (rP _ _) c.sepk (λS I=>by rw[cw.1 I];exact FromL.one (by simp) ba) c.kf (λi J f=>k1 (by rw[←cw.1 J];exact f))
     .rcases Xr.1 I with rfl|I
      .exact FromL.one (Xl ..) ba
      .exactλb o V=>FromL.mono (λi J=>Xg _ J) b o (c.kf S I b o V)
    .cases a
   .cases a
  .cases a
 | .clos g n::k,d,vs,P,L,xs,B,⟨cvs,K,E,T,Q,O⟩,r,p,D,s,H,a=>by
  subst E;simp only[W3]at a;split at a
  .rename_i g' caps xs;split at a
   .rename_i hc;obtain⟨rfl,dz⟩:=hc;cases hA:W3 k (da caps++xs) objs with
    |none=>simp[hA]at a
    |some A=>
     simp[hA]at a;subst a;obtain⟨⟨Y,wD,yV,Am⟩,_⟩:=(p 0 _ _ rfl rfl).resolve_left (λe=>by cases e);have lD:Y=cvs:=by
      injection wD with _ _ wD;have:=Wq Array.toList wD;simpa using this.symm
     subst lD;obtain⟨z,C,c⟩:=qp M h k d (Y++K) P L (da caps++xs) A O (by simp[da,yV];simpa using r) (λj y u f q=>by
      rw[eW]at f q;simp only[da,List.length_map]at f;rw[yV]at q;split at f
      .rename_i ae;rw[Wf ae]at q;rw[dF]at f;obtain⟨id,ck,rfl⟩:=Xw.1 f;obtain⟨q1,q3,q2⟩:=Am _ id u ck q;exact .inr ⟨⟨q1,q2⟩,q3⟩
      .rename_i ae;rw[We ae]at q;exact p (j-caps.length+1) y u (by simpa using f) (by simpa using q)) D s H hA
     exact⟨z,C,c.outs,c.sepk,c.sepm,c.kf,c.ms⟩
   .cases a
  .cases a
 | .kv t agg::k,d,vs,P,L,xs,B,⟨v,K,n1,R,N,E,T,lF,Q,O⟩,r,p,D,s,H,a=>by
  subst E;simp only[W3]at a;split at a
  .rename_i x xs;split at a
   .rename_i dd m l A g1 g2;split at a
    .rename_i jp;injection a with a;subst a;cases hc:cellsOf agg x with
     |none=>simp[hc]at g1
     |some cs=>
      simp[hc]at g1;obtain⟨k1,k2,k3⟩:=dc.1 s;have U:=(p 0 _ _ rfl rfl).resolve_left (λe=>by subst e;cases hc);have cg:Lent G' w φ objs l:=D.mono λj f=>Xo _ f;obtain⟨_,_,_,_,q4,_⟩:=Gi h M U cg k1 hc g1;obtain⟨v1,_⟩:=Tj h M U cg hc g1 jp;obtain⟨Y,Z,r1,r2,r3⟩:=WsM Q v1;obtain⟨z,C,c⟩:=qp M h k d.2 K R N xs A O (by simpa using r) (λj y u f q=>p (j+1) y u (by simpa using f) (by simpa using q)) (D.mono λj f=>Xi _ f) k2 H g2;have gp:∀S∈fps Z,CS.le S (FromL φ objs m):=λS I=>by
       rw[r3,MI]at I;obtain⟨i,J,rfl⟩:=Xv.1 I;exact FromL.one J (q4 i J)
      have gs:Sep (fps Z):=by
       rw[r3,MI];refine List.pairwise_map.2 (k1.imp_of_mem λ{i j} J f bI=>?_)
       exactλb o E T=>bI (h.inj i j b o (q4 i J) (q4 j f) E T)
      refine⟨fps Z++z,C,⟨Z,N,z,Y,by rw[lF,r2],rfl,r1,c.outs⟩,Hg h gs c.sepk gp c.kf (λi J f=>k3 i J i f rfl),c.sepm,λS I=>?_,c.ms⟩;rcases Xp.1 I with I|I
      .exactλb o V=>FromL.mono (λi J=>Xo _ J) b o (gp S I b o V)
      .exactλb o V=>FromL.mono (λi J=>Xi _ J) b o (c.kf S I b o V)
    .cases a
   .cases a
  .cases a
end
section
variable{P:Program}{T:Tab}{Γ:Ctx}
theorem Wuk{sg:Sig}{d:cu sg.ps}{G:GH}{w:World}{vs:List Value}{ns:List Pc}{I:List Nu}{n:Nat}(Z:eK sg.ps<=n)(S:fG sg.ps=true)(A:gc G w sg.ps d vs ns I)(X:Sep (fps ns))
  (B:∀q∈ns,∀b r,q.fp b r->G b r=none/\b<w.heap.size) (V:∀b o v,G b o=some v->w.cell? ⟨b,o,none⟩=some v):
  ∃ν,Rel w (Of ns) ⟨n,WL sg.ps 0 0 vs,λ_ _=>False⟩ G G ν {env:=jF 0 (WU sg.ps d [] 0).1,objs:=(WU sg.ps d [] 0).2.1,nx:=(WU sg.ps d [] 0).2.2}
   {tmps:=vs.toArray++AD (n-vs.toArray.size) undef,defers:=[]} w:=by
 obtain⟨ν,W⟩:∃ν:Nat->Nu,ν= λi=>((nus ns)[i]?).getD ⟨none,0,0,0,0⟩:=⟨_,rfl⟩;obtain⟨φ,H⟩:∃φ:Nat->CS,φ= λi=>((fps ns)[i]?).getD (λ_ _=>False):=⟨_,rfl⟩;have u:At ν φ 0 ns:=λj J E=>by
  have O:(nus ns)[j]?=some J.nu:=by unfold nus;rw[dF,E];rfl
  have P:(fps ns)[j]?=some J.fp:=by unfold fps;rw[dF,E];rfl
  rw[W,H];simp only[bX,O,P];exact⟨rfl,rfl⟩
 obtain⟨t,C,T,U⟩:=qr (ν:=ν) (φ:=φ) sg.ps d vs ns I [] 0 (0+ns.length) S A u (Xm _);have rb:=qy _ _ _ _ _ A;have R:∀a,Live (WU sg.ps d [] 0).2.1 a->a<ns.length:=λa ⟨ob,z,_⟩=>by
  rcases C a ob z with⟨_,h,_⟩|h
  .simpa using h
  .cases h
 have k:∀a b o,φ a b o->∃q,ns[a]?=some q/\(fps ns)[a]?=some q.fp/\q.fp b o:=λa b o c=>by
  rw[H]at c
  try simp only at c
  cases hq:ns[a]? with
  |none=>
   have:(fps ns)[a]?=none:=by unfold fps;rw[dF,hq];rfl
   rw[this]at c;exact c.elim
  |some q=>
   have:(fps ns)[a]?=some q.fp:=by unfold fps;rw[dF,hq];rfl
   rw[this]at c;exact⟨q,rfl,this,c⟩
 have K:∀(i:Nat) (v:Value),vs[i]?=some v->(vs.toArray++AD (n-vs.toArray.size) undef)[i]?=some v:=λi v D=>by
  have s:=(dp.1 D).1;rw[Yw (by simpa using s)];simpa using D
 refine⟨ν,rfl,by simp;omega,λp c=>?_,λi x m=>?_,⟨φ,?_⟩,⟨λ_ _ _ y=>y,λ_ _ _ y=>.inl y⟩,λ_ _ h=>h.elim⟩
 .obtain⟨_,e⟩:=WT _ _ _ _ p c;exact K _ _ (by simpa using e)
 .simp only at m;rw[Rz]at m;simp only[j6,WN,rR]at m;have s:=(dp.1 m).1;rw[T]at s;have F:=Xq s;refine⟨_,K i _ F,?_⟩;have:=U i x _ m F;simp only[t];exact this
 .exact{
   g:=V
   ob:=λa ob z=>by
    rcases C a ob z with⟨_,_,h⟩|h
    .simp only[t];exact h
    .cases h
   gf:=λa b o l c=>by
    obtain⟨q,f,_,e⟩:=k a b o c;exact(B q (fN f) b o e).1
   inj:=λa N b o l Y c Q=>by
    obtain⟨q,_,f,e⟩:=k a b o c;obtain⟨q',_,L,M⟩:=k N b o Q;exact GB X f L e M
   own:=λa b o l c=>by
    obtain⟨q,f,_,e⟩:=k a b o c;exact .inr ⟨q,fN f,e⟩
   lt:=λa l=>by simp only[t];have:=R a l;omega
   bl:=λa b o l c=>by
    obtain⟨q,f,_,e⟩:=k a b o c;exact(B q (fN f) b o e).2
   le:=WLe.refl _ w}
theorem Wsq(hT:ao P T){f:Func}{sg:Sig}{d:cu sg.ps}{G:GH}{w:World}{vs:List Value}{F:List Pc}{J:List Nu}{n:Nat}(Z:fG sg.ps=true)(R:gc G w sg.ps d vs F J)
  {st:St} {a:Act} {w':World} {L:GH} {ν:Nat->Nu} (D:Rel w (Of F) ⟨n,WL sg.ps 0 0 vs,λ_ _=>False⟩ G L ν st a w') {xs:List AVal} (hx:iO T st f.results.toList=some xs)
  {A:Outs (db sg.rs)} (hA:eZ sg.rs xs st.objs=some A) {B:OutK (cT sg.ps)} (hB:W3 sg.ps (WF sg.ps 0 0 st) st.objs=some B)
  (M:d8 (B.kept++(B.moved++A.moved))=true) (N:gZ (A.lent++B.lent) (B.kept++(B.moved++A.moved))=true):
  ∃y I K H G',(results f a.tmps).run P w'= .ok (uJ y) w'/\After sg (B.d,A.d) G w F J y I K H G' w':=by
 have M:=(FD _).1 M;have N:=TU N;obtain⟨φ,k⟩:=D.h;have Q:=k.addG_le (A.lent++B.lent);have W:=k.addG_w (A.lent++B.lent);have V:Lent (kR L w' (FromL φ st.objs (A.lent++B.lent))) w' φ st.objs (A.lent++B.lent):=λid X hl=>(LI _).mono (FromL.one X hl);obtain⟨k1,k2,k3⟩:=dc.1 M;obtain⟨k4,k5,k6⟩:=dc.1 k2;obtain⟨y,pV,pW,pX⟩:=Ga hT D _ xs hx;obtain⟨H,q1,q2,O,q4⟩:=FA k Q sg.rs xs y A pW pX (V.mono λi c=>Xo _ c) k5 hA;obtain⟨jY,Y⟩:=oM D sg.ps d vs F J 0 0 R Z (by cases sg.ps<;>rfl) (j6 _) (by simpa using D.par);obtain⟨I,K,s⟩:=qp Q k sg.ps d vs F J _ B R jY (λj x v t E=>Y j x v t (by simpa using E)) (V.mono λi c=>Xi _ c) k1 k4 hB;have il:∀S∈I++fps (K++H),CS.le S (FromL φ st.objs (B.kept++(B.moved++A.moved))):=λS r=>by
  rcases Xp.1 r with r|r
  .exactλb o m=>FromL.mono (λi c=>Xo _ c) b o (s.kf S r b o m)
  .obtain⟨q,p,rfl⟩:=Xv.1 r;rcases Xp.1 p with p|p
   .exactλb o m=>FromL.mono (λi c=>Xi _ (Xo _ c)) b o (s.ms q p b o m)
   .exactλb o m=>FromL.mono (λi c=>Xi _ (Xi _ c)) b o (O q p b o m)
 refine⟨y,I,K,H,kR L w' (FromL φ st.objs (A.lent++B.lent)),?_,?_⟩
 .show(do let vs←f.results.mapM (uB a.tmps);pure (if h:vs.size=1 then vs[0]else .tuple vs):Sem Value).run P w'=_;have jt:(f.results.mapM (uB a.tmps)).run P w'= .ok y.toArray w':=by
   rw[Yc,Sem.run_map,pV];rfl
  rw[Sem.run_bind,jt];simp only[Result.andThen_ok,Sem.run_pure];congr 1;unfold uJ
  match y with
  | []=>rfl
  | [v]=>rfl
  |u::v::l=>simp
 .exact{
   res:=q1
   outs:=s.outs
   sep:=by
    refine Hg k s.sepk (mZ k s.sepm q2 s.ms O (λi c t=>k6 i c i t rfl)) s.kf (l:=B.moved++A.moved) (λS r=>?_) (λi c t=>k3 i c i t rfl);obtain⟨q,p,rfl⟩:=Xv.1 r;rcases Xp.1 p with p|p
    .exactλb o m=>FromL.mono (λi c=>Xo _ c) b o (s.ms q p b o m)
    .exactλb o m=>FromL.mono (λi c=>Xi _ c) b o (O q p b o m)
   own:=λS r b e m=>by
    obtain⟨i,c,z,C⟩:=il S r b e m;refine⟨?_,(k.own i b e z C).symm,k.bl i b e z C⟩;rw[qI (λ⟨j,t,h3,h4⟩=>by
     have:=k.inj i j b e z h3 C h4;subst this;exact N _ t c)]
    exact k.gf i b e z C
   gx:=by
    refine⟨λb o v E=>Q b o v (D.gx.le b o v E),λb e v E=>?_⟩;by_cases U:FromL φ st.objs (A.lent++B.lent) b e
    .obtain⟨j,t,z,C⟩:=U;exact .inr (k.own j b e z C)
    .rw[qI U]at E;exact D.gx.new b e v E
   g:=W
   le:=k.le}
theorem WwZ(Y:P.follows .mixedOrders=true)(F:ao P T)(hΓ:ez P Γ){f:Func}{k:FuncId}{c:Code}(Z:P.funcs[k]?=some f)(H:f.body=some c){sg:Sig}(Q:iJ f.ntmps (kA sg.ps 0 0) c=true)(D:fG sg.ps=true)
  (hn:eK sg.ps<=f.ntmps) {ann:Nat->List Ghost} (h:∀d o,sg.run d=some o->∃N,den T Γ ann N sg f d some=some o):Ar P k sg:=by
 intro d o R G w z y J C ll S hg;obtain⟨N,j⟩:=h d o R;unfold den at j;simp only[H]at j;obtain⟨ν,L⟩:=Wuk hn D C ll S hg;split at j
 case h_2=>cases j
 rename_i c' b st0 x M;injection x with x;subst x;obtain⟨rfl,j⟩:=W7 j;obtain⟨O,ν0',hr⟩:=C3 _ _ _ _ _ (.inl λ_ _ h=>h) L M;refine calls_of_wp Z H ?_
 suffices g:∀e,kT w (Of y) ⟨f.ntmps,WL sg.ps 0 0 z,λ_ _=>False⟩ G (NA T sg f.results.toList some e) o (bodyPost P f (λe w'=>∃l p q m G',e= .returned (uJ l)/\After sg o G w y J l p q m G' w') e.to)from
  rk (nt:=⟨f.ntmps,WL sg.ps 0 0 z,λ_ _=>False⟩) Y F hΓ (n:=f.ntmps) rfl (WY sg.ps 0 0 z) (.inl λ_ _ h=>h) c Q g _ _ _ _ _ hr j
 intro e st a w' G1 ν1 I g;have E:(∃i,iO T st f.results.toList=some i/\∃A B,eZ sg.rs i st.objs=some A/\W3 sg.ps (WF sg.ps 0 0 st) st.objs=some B/\d8 (B.kept++(B.moved++A.moved))=true/\gZ (A.lent++B.lent) (B.kept++(B.moved++A.moved))=true/\(B.d,A.d)=o)->
   a.defers= []/\∃v,(results f a.tmps).run P w'= .ok v w'/\∃l p q m G',Ending.returned v= .returned (uJ l)/\After sg o G w y J l p q m G' w':=by
  rintro⟨i,u,A,B,r,s,U,V,rfl⟩;obtain⟨l,p,q,m,G',W,X⟩:=Wsq F (f:=f) D C I u r s U V;exact⟨I.defers,_,W,l,p,q,m,G',rfl,X⟩
 have K:(match iO T st f.results.toList with
   |some i=>match eZ sg.rs i st.objs,W3 sg.ps (WF sg.ps 0 0 st) st.objs with
    |some A,some B=>if d8 (B.kept++(B.moved++A.moved))&&gZ (A.lent++B.lent) (B.kept++(B.moved++A.moved))then some (B.d,A.d)else none
    |_,_=>none
   |none=>none)=some o->(∃i,iO T st f.results.toList=some i/\∃A B,eZ sg.rs i st.objs=some A/\W3 sg.ps (WF sg.ps 0 0 st) st.objs=some B/\d8 (B.kept++(B.moved++A.moved))=true/\gZ (A.lent++B.lent) (B.kept++(B.moved++A.moved))=true/\(B.d,A.d)=o):=λg=>by
  split at g
  .rename_i i u;split at g
   .rename_i A B r s;obtain⟨t,g⟩:=im g;simp only[Xh]at t;injection g with g;exact⟨i,u,A,B,r,s,t.1,t.2,g⟩
   .cases g
  .cases g
 cases e with
 |normal=>exact E (K g)
 |ret=>exact E (K g)
 |exit id=>cases g
end
def zv1:Value->Value->Bool
 | .int k n,.int k' n'=>decide (k=k')&&decide (n=n')
 | .bool b,.bool b'=>b==b'
 | .string s,.string s'=>match s.data.toList,s'.data.toList with
  | [],[]=>true
  |_,_=>false
 | .slice none 0 0,.slice none 0 0=>true
 | .pointer none,.pointer none=>true
 |_,_=>false
theorem Wvr(x y:Value)(h:zv1 x y=true):x=y:=by
 unfold zv1 at h;split at h
 .simp only[Xh,Wg]at h;obtain⟨rfl,rfl⟩:=h;rfl
 .have:=eq_of_beq h;subst this;rfl
 .rename_i s s';split at h
  .rename_i e1 e2;have:s=s':=by
    cases s with|mk a=>cases s' with|mk b=>
    congr 1;apply Array.ext';simp only at e1 e2;rw[e1,e2]
   rw[this]
  .cases h
 .rfl
 .rfl
 .cases h
def He:List Value->List Value->Bool
 | [],[]=>true
 |x::l,y::m=>zv1 x y&&He l m
 |_,_=>false
theorem TP:∀(l m:List Value),He l m=true->l=m
 | [],[],_=>rfl
 | [],_::_,h=>by cases h
 |_::_,[],h=>by cases h
 |x::l,y::m,h=>by
  simp only[He,Xh]at h;rw[Wvr x y h.1,TP l m h.2]
def FN:List Field->List (Nat×TypeId)->Bool
 | [],[]=>true
 |f::l,p::m=>bq f.offset p.1&&bq f.type p.2&&(f.name != "_")&&FN l m
 |_,_=>false
def Nc(P:Program)(T:Tab)(t:TypeId)(a:TE):Bool:=match a.shape with
 | .basic=>!a.agg&&(match a.ty with
  | .int k=>match P.underlying t with|some (.int k')=>decide (k'=k)|_=>false
  | .bool=>match P.underlying t with|some .bool=>true|_=>false
  | .str=>match P.underlying t with|some .string=>true|_=>false
  |_=>false)
 | .slice e=>!a.agg&&(match P.underlying t with|some (.slice e')=>bq e' e|_=>false)&&(match Wt T e with|some fo=>decide (a.ty= .slice fo.ty)|none=>false)
 | .struct fs=>a.agg&&(match P.underlying t with|some (.struct fields)=>FN fields.toList fs|_=>false)&& !P.stoodInHeld t&& !P.eqGuardType P.depth t
 | .ptr e=>!a.agg&&(match P.underlying t with|some (.pointer e')=>bq e' e|_=>false)
 | .arr n e=>a.agg&&(match P.underlying t with|some (.array n' e')=>bq n' n&&bq e' e|_=>false)&&(match Wt T e with|some fo=>decide (fo.ty=a.ty)&&fo.plain|none=>false)
def Ms(P:Program)(t:TypeId)(a:TE):Bool:=match P.info? t with
 |some i=>match i.zero with
  |some z=>bq i.size a.size&&He z.cells.toList a.cells&&Hu i.bytes 4096
  |none=>false
 |none=>false
def DJ(P:Program)(T:Tab):Tab->Bool
 | []=>true
 |(t,te)::l=>Nc P T t te&&Ms P t te&&DJ P T l
theorem QX:∀(l:List Field) (m:List (Nat×TypeId)),FN l m=true→l.map (λf=>(f.offset,f.type))=m∧∀f∈l,f.name≠ "_"
 | [],[],_=>⟨rfl,by simp⟩
 | [],_::_,h=>by cases h
 |_::_,[],h=>by cases h
 |f::l,p::m,h=>by
  simp only[FN,Xh,bne_iff_ne,ne_eq]at h;obtain⟨⟨⟨b,c⟩,d⟩,e⟩:=h;obtain⟨i,j⟩:=QX l m e;have b:f.offset=p.1:=by simpa using b
  have c:f.type=p.2:=by simpa using c
  refine⟨by rw[bz,i,b,c],λg a=>?_⟩;rcases Xr.1 a with a|a
  .subst a;exact d
  .exact j g a
theorem Wpr{P:Program}{T:Tab}{t:TypeId}{te:TE}(h:Nc P T t te=true)(hi:Ms P t te=true):TEok P T t te:=by
 obtain⟨C,q,shape⟩:=te;refine⟨?_,?_⟩
 .unfold Nc at h;cases shape with
  |basic=>
   simp only[Xh,de]at h⊢;refine⟨h.1,?_⟩;have h:=h.2;cases C with
   |int k=>
    simp only at h⊢;split at h
    .rename_i k' j;simp only[Wg]at h;rw[j,h]
    .cases h
   |bool=>
    simp only at h⊢;split at h
    .assumption
    .cases h
   |str=>
    simp only at h⊢;split at h
    .assumption
    .cases h
   |slice e=>cases h
   |own e=>cases h
   |prod a b=>cases h
  |slice e=>
   simp only[Xh,de]at h⊢;obtain⟨⟨l,c⟩,d⟩:=h;refine⟨l,?_,?_⟩
   .split at c
    .rename_i e' j;rw[j];have:e'=e:=by simpa using c
     rw[this]
    .cases c
   .split at d
    .rename_i o p;exact⟨o,p,by simpa using d⟩
    .cases d
  |struct fs=>
   simp only[Xh,de]at h⊢;obtain⟨⟨⟨l,c⟩,d⟩,u⟩:=h;refine⟨l,?_⟩;split at c
   .rename_i g j;obtain⟨v,w⟩:=QX _ _ c;exact⟨g,j,v,λf x=>w f (by simpa using x),d,u⟩
   .cases c
  |ptr e=>
   simp only[Xh,de]at h⊢;refine⟨h.1,?_⟩;have h:=h.2;split at h
   .rename_i e' j;rw[j];have:e'=e:=by simpa using h
    rw[this]
   .cases h
  |arr n e=>
   simp only[Xh]at h⊢;obtain⟨⟨l,c⟩,d⟩:=h;refine⟨l,?_,?_⟩
   .split at c
    .rename_i n' e' j;simp only[Xh]at c;have r:n'=n:=by simpa using c.1
     have s:e'=e:=by simpa using c.2
     rw[j,r,s]
    .cases c
   .split at d
    .rename_i o p;simp only[Xh,Wg]at d;refine⟨o,p,d.1,λm f y=>?_⟩;have:=d.2;unfold TE.plain at this;rw[y]at this;cases this
    .cases d
 .unfold Ms at hi;split at hi
  .rename_i i B;split at hi
   .rename_i z A;simp only[Xh]at hi;obtain⟨⟨l,c⟩,d⟩:=hi;exact⟨i,z,B,by simpa using l,A,TP _ _ c,NS d⟩
   .cases hi
  .cases hi
theorem Wx3{P:Program}{T:Tab}(h:DJ P T T=true):ao P T:=by
 have c:∀l,DJ P T l=true->∀t te,Wt l t=some te->TEok P T t te:=by
  intro l
  induction l with
  |nil=>intro _ t te a;cases a
  |cons p l ih=>
   intro b t te a;obtain⟨f,d⟩:=p;simp only[DJ,Xh]at b;rw[WJ]at a;split at a
   .rename_i e;subst e;injection a with a;subst a;exact Wpr b.1.1 b.1.2
   .exact ih b.2 t te a
 exact c T h
theorem MR{P:Program}:ez P []:=λk sg h=>by cases h
theorem Wym{P:Program}{k:FuncId}{s:Sig}(hi:s.inl=none)(h:Ar P k s):vr P k s:=by
 unfold vr;rw[hi];exact h
theorem Wu8{P:Program}{Γ:Ctx}{k:FuncId}{sg:Sig}(d:vr P k sg)(c:Dl P k)(h:ez P Γ):ez P ((k,sg)::Γ):=λk' b a=>by
 simp only[Wt]at a;split at a
 .rename_i e;have:k=k':=by simpa using e
  subst this;injection a with a;subst a;exact⟨d,c⟩
 .exact h k' b a
def vl(f:Func):Bool:=f.body.isSome&& !(f.name== "runtime.NumGoroutine")
theorem Ft{P:Program}{k:FuncId}{f:Func}(a:P.funcs[k]?=some f)(h:vl f=true):Dl P k:=by
 simp only[vl,Xh,de]at h;refine⟨f,a,?_,h.2⟩;cases hb:f.body with
 |none=>rw[hb]at h;cases h.1
 |some c=>rfl
def Dt(f:Func)(a:List PTy):Bool:=match f.body with
 |some c=>iJ f.ntmps (kA a 0 0) c&&Hu (eK a) f.ntmps&&fG a
 |none=>false
theorem Wr5{P:Program}{T:Tab}{Γ:Ctx}(b:P.follows .mixedOrders=true)(e:ao P T)(i:ez P Γ){f:Func}{k:FuncId}(g:P.funcs[k]?=some f){sg:Sig}(a:Dt f sg.ps=true){ann:Nat->List Ghost}
  (h:∀d o,sg.run d=some o->∃N,den T Γ ann N sg f d some=some o):Ar P k sg:=by
 unfold Dt at a;split at a
 .rename_i c hb;simp only[Xh]at a;exact WwZ b e i g hb a.1.1 a.2 (NS a.1.2) h
 .cases a
def ub:Code->List Code
 | .seq a b=>ub a++ub b
 | .cond _ a b=>ub a++ub b
 | .block _ c=>ub c
 | .loop c=>c::ub c
 |_=>[]
def MK(f:Func):Code:=match f.body with
 |some c=>c
 |none=>.skip
def Vr(f:Func)(i:Nat):Code:=(ub (MK f)).getD i .skip
noncomputable def vz{R:Type}(T:Tab)(Γ:Ctx)(ann:Nat->List Ghost)(N:Nat):Code->List Nat->(Ex->St->Option R)->Ex->St->Option R
 | .seq a b,p,k=>match p with
  |0::p=>vz T Γ ann N a p λe ai=>match e with
   | .normal=>sx T Γ ann N b ai k
   | .exit id=>k (.exit id) ai
   | .ret=>k .ret ai
  |_::p=>vz T Γ ann N b p k
  | []=>k
 | .cond _ x y,p,k=>match p with
  |0::p=>vz T Γ ann N x p k
  |_::p=>vz T Γ ann N y p k
  | []=>k
 | .block id c,p,k=>match p with
  |_::p=>vz T Γ ann N c p λe ai=>match e with
   | .exit cA=>if cA=id then k .normal ai else k (.exit cA) ai
   | .normal=>k .normal ai
   | .ret=>k .ret ai
  | []=>k
 |_,_,k=>k
def WyD{R:Type}(a:List Ghost)(L:St->(Ex->St->Option R)->Option R)(K:Ex->St->Option R):Ex->St->Option R:=λe st=>match e with
 | .normal=>match fc a st with
  |some (c,ai)=>bif c then L ai K else none
  |none=>none
 | .exit id=>K (.exit id) st
 | .ret=>K .ret st
abbrev vI(x:Int):AVal:=.s (.one (.val (.int .i64) x))
abbrev vB(x:Bool):AVal:=.s (.one (.val .bool x))
abbrev vV(t:Ty)(x:t.den):AVal:=.s (.one (.val t x))
abbrev vO(i:Nat):AVal:=.s (.one (.own i))
abbrev vP(i o:Nat):AVal:=.s (.one (.ptr i o))
abbrev Qs(s:Sig):=cT s.ps×db s.rs
structure Fn where
 F:Func
 a:Nat->List Ghost
 s:Nat->Sig
 c:Nat->Ctx
def Wy:Nat->List Ghost:=λ_=>[]
def W5:Nat->Ctx:=λ_=>[]
noncomputable def lpM{R:Type}(T:Tab)(Γ:Ctx)(ann:Nat->List Ghost)(N:Nat)(F:Func)(i k n:Nat)(st:St)(K:Ex->St->Option R):Option R:=vh (zt (ann k) λst k=>sx T Γ ann N (Vr F i) st k) n st K
noncomputable def cxF(T:Tab)(Γ:Ctx)(ann:Nat->List Ghost)(N:Nat)(sg:Sig)(F:Func)(p:List Nat):Ex->St->Option (Qs sg):=vz (R:=Qs sg) T Γ ann N (MK F) p (NA T sg F.results.toList some)
noncomputable def cxL{R:Type}(T:Tab)(Γ:Ctx)(ann:Nat->List Ghost)(N:Nat)(F:Func)(i k:Nat)(p:List Nat)(n:Nat)(K:Ex->St->Option R):Ex->St->Option R:=vz T Γ ann N (Vr F i) p (WyD (ann k) (lpM T Γ ann N F i k n) K)
def pJ{R:Type}(T:Tab)(rv:List ResultVar)(k:KV R)(e:Ex)(st:St):Option R:=match e with
 | .exit _=>none
 |_=>match iO T st rv with
  |some [x]=>k x st.objs st.nx
  |_=>none
def Ghost.opens:Ghost->Bool
 | .unfC _ _ _=>true
 |_=>false
def nc(ann:Nat->List Ghost):Code->Bool
 | .skip| .ret=>true
 | .region id ops draw=>(ann id).all Ghost.opens&&(!draw||decide ((lb (dC ops.toList []) ops.size (jL ops.toList 0)).length<=1))
 | .seq a b=>nc ann a&&nc ann b
 |_=>false
section
variable{T:Tab}{Γ:Ctx}{A:List (Nat×An)}{ops:Array Oper}{ann:Nat->List Ghost}{N:Nat}
theorem via{S R a:Type}{X:(Q:Type)->(S->Option Q)->Option Q}(b:∀Q k,X Q k=(X S some).bind k){f:S->Option R}{g:S->Option a}{h:a->Option R}(e:∀s,f s=(g s).bind h):X R f=(X a g).bind h:=by
 rw[b R f,b a g,NY];congr 1;funext s;exact e s
theorem Me{R:Type}:∀(l:List Oper) (st:St) (k:St->Option R),rxs T Γ A ops l st k=(rxs T Γ A ops l st some).bind k
 | [],st,k=>rfl
 |o::l,st,k=>by
  simp only[rxs];refine via (X:=λQ k=>rxg T Γ A ops o st k) (λQ k=>FZ o st k) λai=>?_;cases opG A o ai with
  |none=>rfl
  |some p=>
   obtain⟨c,s⟩:=p;cases c with
   |false=>rfl
   |true=>exact Me l s k
theorem LZ{R:Type}{B:List (List Nat)}:∀(l:List Nat) (a b:List (Nat×List Nat)) (st:St) (k:St->Option R),rdx T Γ A ops B l a b st k=(rdx T Γ A ops B l a b st some).bind k
 | [],_,_,st,k=>rfl
 |i::l,a,b,st,k=>by
  simp only[rdx];cases ops[i]? with
  |none=>rfl
  |some o=>
   dsimp only;cases bw o with
   |true=>
    simp only[Wa,lR];refine via (X:=λQ k=>rxg T Γ A ops o st k) (λQ k=>FZ o st k) λai=>?_;generalize a.all (λp=>dD B p.1 i||gZ p.2 (GM st.objs ai.objs))=c;cases c with
    |false=>rfl
    |true=>exact LZ l _ _ ai k
   |false=>
    simp only[Wb,lR];generalize b.all (λp=>dD B p.1 i||gZ (kt o st) p.2)=c;cases c with
    |false=>rfl
    |true=>
     simp only[Wa];refine via (X:=λQ k=>rxg T Γ A ops o st k) (λQ k=>FZ o st k) λai=>?_;exact LZ l _ _ ai k
theorem Sj{R:Type}(h:(lb (dC ops.toList []) ops.size (jL ops.toList 0)).length<=1)(st:St)(k:St->Option R):po T Γ A ops st k=(po T Γ A ops st some).bind k:=by
 simp only[po,FU];generalize GS ops (dC ops.toList [])=c;cases c with
 |false=>rfl
 |true=>
  simp only[Wa];generalize lb (dC ops.toList []) ops.size (jL ops.toList 0)=l at h
  match l,h with
  | [],_=>rfl
  | [σ],_=>
   simp only[vx,lR];generalize (mw ops (DB ops.toList (dC ops.toList []) ops.size [] σ) []&&_)=c;cases c with
   |false=>rfl
   |true=>exact LZ _ _ _ _ _
theorem Du{R:Type}:∀(c:Code),nc ann c=true->∀(st:St) (k:Ex->St->Option R),sx T Γ ann N c st k=(sx T Γ ann N c st λe s=>some (e,s)).bind λp=>k p.1 p.2
 | .skip,_,st,k=>rfl
 | .ret,_,st,k=>rfl
 | .seq a b,h,st,k=>by
  simp only[nc,Xh]at h;simp only[sx];refine via (X:=λQ k=>sx T Γ ann N a st λe s=>k (e,s)) (λQ k=>Du a h.1 st λe s=>k (e,s)) (f:=λp=>match p.1 with
   | .normal=>sx T Γ ann N b p.2 k
   | .exit id=>k (.exit id) p.2
   | .ret=>k .ret p.2) (g:=λp=>match p.1 with
   | .normal=>sx T Γ ann N b p.2 λe s=>some (e,s)
   | .exit id=>some (.exit id,p.2)
   | .ret=>some (.ret,p.2)) λp=>?_
  obtain⟨e,s⟩:=p;cases e with
  |normal=>exact Du b h.2 s k
  |exit _=>rfl
  |ret=>rfl
 | .region id ops draw,h,st,k=>by
  simp only[nc,Xh,pM,de,Wg]at h;simp only[sx];have e:∀ai:St,(match fc (ann id) ai with|some (c,co)=>bif c then k .normal co else none|none=>none)
    =(match fc (ann id) ai with|some (c,co)=>bif c then some (Ex.normal,co)else none|none=>none).bind λp=>k p.1 p.2:=λai=>by
   cases fc (ann id) ai with
   |none=>rfl
   |some p=>
    obtain⟨c,s⟩:=p;cases c<;>rfl
  cases draw with
  |true=>
   simp only[Wa];exact via (X:=λQ k=>po T Γ (dS (ann id)) ops st k) (λQ k=>Sj (h.2.resolve_left (by simp)) st k) e
  |false=>
   simp only[Wb];exact via (X:=λQ k=>rxs T Γ (dS (ann id)) ops ops.toList st k) (λQ k=>Me _ st k) e
 | .cond ..,h,_,_| .block ..,h,_,_| .loop ..,h,_,_| .exit ..,h,_,_| .scope ..,h,_,_| .label ..,h,_,_| .goto ..,h,_,_| .rangeFunc ..,h,_,_| .refuse ..,h,_,_=>by cases h
def Fw(st ai:St):Prop:=∃a,ai.objs=a++st.objs
theorem Fw.refl(st:St):Fw st st:=⟨[],rfl⟩
theorem Fw.trans{a b c:St}(h:Fw a b)(g:Fw b c):Fw a c:=by
 obtain⟨p,h⟩:=h;obtain⟨q,g⟩:=g;exact⟨q++p,by rw[g,h,List.append_assoc]⟩
theorem M9{o:Oper}{st ai:St}(h:rx1 T Γ A o st some=some ai):Fw st ai:=by
 unfold rx1 at h;rw[y6]at h;obtain⟨p,c,a⟩:=jc.1 h;obtain⟨b,d⟩:=SC _ _ _ _ _ c;injection a with a;subst a;exact⟨b,by cases o.dst<;>exact d⟩
theorem Nd{o:Oper}{st ai:St}(h:rxg T Γ A ops o st some=some ai):Fw st ai:=by
 unfold rxg at h;split at h
 .exact M9 h
 .split at h
  .split at h
   .injection h with h;subst h;exact⟨[],by rw[iz];rfl⟩
   .rename_i t _ x _ _;split at h
    .rename_i b _;cases b
     .simp only[Wb]at h;split at h
      .injection h with h;subst h;exact⟨[],by rw[iz,iz];rfl⟩
      .obtain⟨a,c⟩:=M9 h;exact⟨a,by rw[c,iz]⟩
     .simp only[Wa]at h;split at h
      .obtain⟨a,c⟩:=M9 h;exact⟨a,by rw[c,iz]⟩
      .injection h with h;subst h;exact⟨[],by rw[iz,iz];rfl⟩
    .cases h
   .cases h
  .cases h
theorem Wsz{st ai:St}{r:Nat}{d:Option Nat}{c:Bool}(h:zn st r d=some (c,ai)):Fw st ai:=by
 unfold zn at h;split at h
 .obtain⟨s,a,b⟩:=Xw.1 h;injection b with _ b;subst b;unfold zs at a;split at a
  .injection a with a;subst a;exact⟨_::_::_,rfl⟩
  .cases a
 .cases h
theorem Wvg{g:Ghost}(a:g.opens=true){st ai:St}{c:Bool}(h:eL g st=some (c,ai)):Fw st ai:=by
 cases g<;>simp only[Ghost.opens,dq]at a;simp only[eL]at h;split at h
 .split at h
  .split at h
   .exact Wsz h
   .cases h
  .cases h
 .cases h
theorem Ts:∀(l:List Ghost) (st ai:St) (c:Bool),l.all Ghost.opens=true->fc l st=some (c,ai)->Fw st ai
 | [],st,ai,c,_,h=>by injection h with h;injection h with _ h;subst h;exact .refl _
 |g::l,st,ai,c,a,h=>by
  simp only[dG,Xh]at a;simp only[fc]at h;split at h
  .rename_i c1 s hg;split at h
   .rename_i c2 s2 hl;injection h with h;injection h with _ h;subst h;exact(Wvg a.1 hg).trans (Ts l _ _ _ a.2 hl)
   .cases h
  .cases h
theorem Ss:∀(l:List Ghost),l.all Ghost.opens=true->dS l= []
 | [],_=>rfl
 |g::l,h=>by
  simp only[dG,Xh]at h;cases g<;>simp only[Ghost.opens,dq,false_and]at h;exact Ss l h.2
theorem V7:∀(l:List Oper) (st ai:St),rxs T Γ [] ops l st some=some ai->Fw st ai
 | [],st,ai,h=>by injection h with h;subst h;exact .refl _
 |o::l,st,ai,h=>by
  simp only[rxs]at h;obtain⟨s,b,a⟩:=Dm h;have e:opG [] o s=some (true,s):=by unfold opG;cases hd:o.dst<;>simp[DW,hd,Wt]
  rw[e]at a;exact(Nd b).trans (V7 l s ai a)
theorem M4{B:List (List Nat)}:∀(l:List Nat) (c d:List (Nat×List Nat)) (st ai:St),rdx T Γ A ops B l c d st some=some ai->Fw st ai
 | [],_,_,st,ai,h=>by injection h with h;subst h;exact .refl _
 |i::l,c,d,st,ai,h=>by
  simp only[rdx]at h;split at h
  .rename_i o _;cases hm:bw o with
   |true=>
    rw[hm]at h;simp only[Wa]at h;obtain⟨s,b,a⟩:=Dm h;rw[lR]at a;obtain⟨_,a⟩:=W7 a;exact(Nd b).trans (M4 l _ _ s ai a)
   |false=>
    rw[hm]at h;simp only[Wb,lR]at h;obtain⟨_,h⟩:=W7 h;obtain⟨s,b,a⟩:=Dm h;exact(Nd b).trans (M4 l _ _ s ai a)
  .cases h
theorem WuV(a:(lb (dC ops.toList []) ops.size (jL ops.toList 0)).length<=1){st ai:St}(h:po T Γ A ops st some=some ai):Fw st ai:=by
 simp only[po,FU]at h;obtain⟨_,h⟩:=W7 h;generalize lb (dC ops.toList []) ops.size (jL ops.toList 0)=l at a h
 match l,a with
 | [],_=>cases h
 | [σ],_=>
  simp only[vx,lR]at h;obtain⟨_,h⟩:=W7 h;exact M4 _ _ _ _ _ h
theorem Np:∀(c:Code),nc ann c=true->∀(st ai:St) (e:Ex),sx T Γ ann N c st (λe s=>some (e,s))=some (e,ai)->Fw st ai
 | .skip,_,st,ai,e,h=>by injection h with h;injection h with _ h;subst h;exact .refl _
 | .ret,_,st,ai,e,h=>by injection h with h;injection h with _ h;subst h;exact .refl _
 | .seq a b,f,st,ai,e,h=>by
  simp only[nc,Xh]at f;simp only[sx]at h;rw[Du a f.1]at h;obtain⟨⟨k,s⟩,i,d⟩:=jc.1 h;refine(Np a f.1 _ _ _ i).trans ?_;cases k with
  |normal=>exact Np b f.2 _ _ _ d
  |exit id=>injection d with d;injection d with _ d;subst d;exact .refl _
  |ret=>injection d with d;injection d with _ d;subst d;exact .refl _
 | .region id ops draw,f,st,ai,e,h=>by
  simp only[nc,Xh,pM,de,Wg]at f;simp only[sx,Ss _ f.1]at h;have g:∀s:St,(match fc (ann id) s with|some (c,co)=>bif c then some (Ex.normal,co)else none|none=>none)=some (e,ai)->Fw s ai:=λs h=>by
   split at h
   .rename_i c s2 hg;obtain⟨_,h⟩:=W7 h;injection h with h;injection h with _ h;subst h;exact Ts _ _ _ _ f.1 hg
   .cases h
  cases draw with
  |true=>
   simp only[Wa]at h;have i:=f.2.resolve_left (by simp);rw[Sj i]at h;obtain⟨s,d,j⟩:=jc.1 h;exact(WuV i d).trans (g s j)
  |false=>
   simp only[Wb]at h;rw[Me]at h;obtain⟨s,d,j⟩:=jc.1 h;exact(V7 _ _ _ d).trans (g s j)
 | .cond ..,h,_,_,_,_| .block ..,h,_,_,_,_| .loop ..,h,_,_,_,_| .exit ..,h,_,_,_,_| .scope ..,h,_,_,_,_| .label ..,h,_,_,_,_| .goto ..,h,_,_,_,_| .rangeFunc ..,h,_,_,_,_| .refuse ..,h,_,_,_,_=>by cases h
theorem WtU{R:Type}{rv:List ResultVar}(k:KV R)(e:Ex)(st:St):pJ T rv k e st=(pJ T rv cC e st).bind λp=>k p.1 p.2.1 p.2.2:=by
 unfold pJ;cases e with
 |exit _=>rfl
 |normal|ret=>all_goals
  cases iO T st rv with
  |none=>rfl
  |some l=>match l with
   | []=>rfl
   | [x]=>rfl
   |_::_::_=>rfl
end
noncomputable def DO(T:Tab)(ann:Nat->List Ghost)(n:Nat)(c:Code)(rv:List ResultVar)(R:Type)(st:St)(k:KV R):Option R:=
 bif Hu st.env.length n then sx T [] ann 0 c st (pJ T rv k)else none
noncomputable def Inl.of(T:Tab)(ann:Nat->List Ghost)(n:Nat)(c:Code)(rv:List ResultVar)(h:nc ann c=true):Inl where
 fn:=DO T ann n c rv
 law R st k:=by
  unfold DO;cases Hu st.env.length n with
  |false=>rfl
  |true=>
   simp only[Wa];exact via (X:=λQ k=>sx T [] ann 0 c st λe s=>k (e,s)) (λQ k=>Du c h st λe s=>k (e,s)) (f:=λp=>pJ T rv k p.1 p.2) (g:=λp=>pJ T rv cC p.1 p.2) λp=>WtU _ _ _
 suf st x objs nx hh:=by
  unfold DO at hh;obtain⟨_,hh⟩:=W7 hh;rw[Du c h]at hh;obtain⟨⟨e,s⟩,d,a⟩:=jc.1 hh;obtain⟨b,i⟩:=Np c h _ _ _ d;refine⟨b,?_⟩;rw[←i];simp only[pJ]at a;split at a
  .cases a
  .split at a
   .injection a with a;exact(Wq (λp:Out=>p.2.1) a).symm
   .cases a
noncomputable def Sig.inline(i:Inl):Sig:=⟨[],[],λ_ _ _=>none,λ_=>none,λ_ _ _=>rfl,some i⟩
theorem Ghost.opens_quiet{l:List Ghost}(h:l.all Ghost.opens=true):l.all Ghost.quiet=true:=by
 rw[bA]at h⊢;intro g a;have:=h g a;cases g<;>simp_all [Ghost.opens,Ghost.quiet]
theorem Wvd{P:Program}{T:Tab}(J:P.follows .mixedOrders=true)(y:ao P T){f:Func}{k:FuncId}{c:Code}{ann:Nat->List Ghost}(M:P.funcs[k]?=some f)(L:f.body=some c)
  (C:iJ f.ntmps [] c=true) (O:nc ann c=true) (K:∀s,(ann s).all Ghost.opens=true):XT P k (Inl.of T ann f.ntmps c f.results.toList O):=by
 intro st m out l X w0 F G0 G ν o w q N I E;have l:DO T ann f.ntmps c f.results.toList Out st cC=some out:=l;unfold DO at l;obtain⟨z,l⟩:=W7 l;have z:=NS z;refine calls_of_wp M L ?_;have Q:Rel w0 F ⟨f.ntmps,[],o⟩ G0 G ν st {tmps:=m.toArray++AD (f.ntmps-m.toArray.size) undef,defers:=[]} w:=
  ⟨rfl,by simp;omega,λp u=>by simp at u,λi x g=>by
   obtain⟨v,A,g⟩:=q i x g;refine⟨v,?_,g⟩;have D:=(dp.1 A).1;rw[Yw (by simpa using D)];simpa using A,N,I,E⟩
 suffices d:∀e,kT w0 F ⟨f.ntmps,[],o⟩ G0 (pJ T f.results.toList cC e) out (bodyPost P f (λe w'=>∃b G' j,e= .returned b/\AValRel G' j out.2.2 out.1 b/\HRel w0 F G' j out.2.1 out.2.2 w'/\GExt w0.heap.size F G0 G'/\∀x v,o x v->AValRel G' j out.2.2 x v) e.to)from
  rk (nt:=⟨f.ntmps,[],o⟩) J y MR (n:=f.ntmps) rfl (λp u=>by simp at u) (.inr λs=>Ghost.opens_quiet (K s)) c C d _ _ _ _ _ Q l
 intro e ai a w' B W r d;have H:∀x,iO T ai f.results.toList=some [x]->cC x ai.objs ai.nx=some out->a.defers= []/\∃v,(results f a.tmps).run P w'= .ok v w'/\∃b G' j,Ending.returned v= .returned b/\AValRel G' j out.2.2 out.1 b/\HRel w0 F G' j out.2.1 out.2.2 w'/\GExt w0.heap.size F G0 G'/\∀x v,o x v->AValRel G' j out.2.2 x v:=λx g t=>by
  injection t with t;subst t;obtain⟨b,S,U,V⟩:=Ga y r _ _ g;obtain⟨v,rfl⟩:∃v,b= [v]:=by
   match b,U with
   | [v],_=>exact⟨v,rfl⟩
  refine⟨r.defers,v,?_,v,B,W,rfl,V 0 x v rfl rfl,r.h,r.gx,r.ex⟩;show(do let m←f.results.mapM (uB a.tmps);pure (if h:m.size=1 then m[0]else .tuple m):Sem Value).run P w'=_;have R:(f.results.mapM (uB a.tmps)).run P w'= .ok [v].toArray w':=by
   rw[Yc,Sem.run_map,S];rfl
  rw[Sem.run_bind,R];simp only[Result.andThen_ok,Sem.run_pure];rfl
 cases e with
 |exit s=>cases d
 |normal|ret=>all_goals
  simp only[pJ]at d;split at d
  .rename_i x g;exact H x g d
  .cases d
section
open Go.ChangeShapes Go.WideShapes Go.ChangeAt Go.RowKit
def pe:(t:Ty)->t.den->Prop
 | .int k,n=>(Lit.int k n).wf=true
 | .bool,_=>True
 | .str,s=>Xb s<=maxLen
 | .slice e,l=>Xb l<=maxLen/\∀x,List.Mem x l->pe e x
 | .own _,_=>False
 | .prod a b,d=>pe a d.1/\pe b d.2
def iT:(t:Ty)->t.den->Nat
 | .int _,_=>1
 | .bool,_=>1
 | .str,s=>Xb s+1
 | .slice e,l=>(List.map (iT e) l).sum+1
 | .own _,_=>0
 | .prod a b,d=>iT a d.1+iT b d.2
structure Bulk{H:Type}(β:DataW H->Nat):Prop where
 lit:∀l,1<=β (.lit l)
 str:∀s,s.length+1<=β (.lit (.string s))
 nil:1<=β .nil
 slice:∀es sp,(es.map β).sum+1<=β (.slice es sp)
 agg:∀ps,(ps.map β).sum<=β (.agg ps)
def zz(T:Tab):List (Nat×TypeId)->Nat->Option (List Ty)
 | [],_=>some []
 |(o,ft)::fs,off=>match Wt T ft with
  |some te=>bif bq o off&&te.plain then(zz T fs (off+te.ty.size)).map (te.ty:: ·)else none
  |none=>none
def kO:List Ty->Ty
 | []=>.bool
 | [t]=>t
 |t::ts=>.prod t (kO ts)
def vt(T:Tab):Nat->TypeId->Bool
 |0,_=>false
 |n+1,t=>match Wt T t with
  |some te=>match te.shape with
   | .basic=>match te.ty with
    | .int _=>true
    | .bool=>true
    | .str=>true
    | .slice _=>false
    | .own _=>false
    | .prod _ _=>false
   | .slice e=>vt T n e&&(match Wt T e with|some fo=>fo.plain|none=>false)
   | .struct fs=>fs.all (λf=>vt T n f.2)&&(match zz T fs 0 with
    |some (t::ts)=>decide (te.ty=kO (t::ts))
    |_=>false)
   | .ptr _=>false
   | .arr _ _=>false
  |none=>false
section
variable{P:Program}{T:Tab}{H:Type}{enc:TypeId×Value->H}{β:DataW H->Nat}{w:World}
theorem Le{t:TypeId}{a:TE}(h:TEok P T t a):P.cellsOf t=a.size:=by
 obtain⟨i,z,b,c,_⟩:=h.info;unfold Program.cellsOf;rw[b];exact c
def va(w:World):GH:=λb o=>w.cell? ⟨b,o,none⟩
theorem WsL{b:Nat}{a:Addr}{n:Nat}{cs:List Value}(h:w.cells? b a n=some cs):cs.length=n/\∀(j:Nat) (v:Value),cs[j]?=some v->w.cell? (a.add j)=some v:=by
 unfold World.cells? at h;split at h
 .refine⟨by simpa using mapM_some_length h,λj v c=>?_⟩;have d:j<n:=by
   have:=mapM_some_length h;have e:=(dp.1 c).1;simp at this;omega
  have:=mapM_some_get h j j (by simp[d]);rw[this];exact c
 .cases h
theorem UD{e:Ty}{a:Addr}(n:Nat)(F:0<n):∀(k:Nat) (b:Nat) (c:Nat->Option (DataW H×List MemPlace)) (f:List Value->Option (DataW H×List MemPlace)),
  (∀cs y,f cs=some y->∃d:e.den,Enc (va w) e d cs/\pe e d/\iT e d<=β y.1)->
  (∀i,b<=i->i<b+k->∃y cs,w.cells? 0 (a.add (i*n)) n=some cs/\f cs=some y/\c i=some y)->
  ∃(l:List e.den) (cs:List Value),l.length=k/\bG (Enc (va w) e) l cs/\(∀x∈l,pe e x)/\(∀(j:Nat) (v:Value),cs[j]?=some v->w.cell? (a.add (b*n+j))=some v)/\
   cs.length=k*n/\(l.map (iT e)).sum<=((cK k).map λi=>match c (b+i)with|some y=>β y.1|none=>0).sum
 |0,b,c,f,h,he=>⟨[],[],rfl,rfl,by simp,by simp,by simp,by simp⟩
 |k+1,b,c,f,h,he=>by
  obtain⟨y,o,z,A,B⟩:=he b (Xm _) (by omega);obtain⟨d,I,G,C⟩:=h _ _ A;obtain⟨l,cs,q,r,s,t,u,J⟩:=UD n F k (b+1) c f h (λi E K=>he i (by omega) (by omega));obtain⟨p,D⟩:=WsL z;refine⟨d::l,o++cs,by simp[q],⟨o,cs,rfl,I,r⟩,λx m=>?_,λj v g=>?_,?_,?_⟩
  .rcases Xr.1 m with rfl|m
   .exact G
   .exact s x m
  .rw[eW]at g;split at g
   .have:=D j v g;rw[Addr.add_add]at this;exact this
   .rename_i ae;have:=t _ v g;rw[p]at this ae;have e:(b+1)*n+(j-n)=b*n+j:=by rw[j8];omega
    rw[e]at this;exact this
  .rw[Xz,p,u,j8];omega
  .rw[List.range_succ_eq_map,bz,bz,D6,D6,D7];simp only[c5,B];have:((λi=>match c (b+i)with|some y=>β y.1|none=>0)∘Nat.succ)= λi=>match c (b+1+i)with|some y=>β y.1|none=>0:=by
    funext i;simp only[Function.comp,Nat.succ_eq_add_one];rw[show b+(i+1)=b+1+i by omega]
   rw[this];omega
theorem WwY{a:DataW H×List MemPlace->Nat}(xs:List (DataW H×List MemPlace)):((cK xs.length).map λi=>match xs[0+i]? with|some y=>a y|none=>0).sum=(xs.map a).sum:=by
 congr 1;apply List.ext_getElem
 .simp
 .intro i h1 h2;simp at h1;simp[h1]
theorem Wot{t:Ty}{a:List Ty}(h:a≠ []):kO (t::a)= .prod t (kO a):=by
 cases a with
 |nil=>exact Wz rfl h
 |cons _ _=>rfl
theorem SN(u:ao P T)(M:Bulk β)(f:TypeId->List Value->Option (DataW H×List MemPlace)){cs:List Value}:∀(k:List (Nat×TypeId)) (off:Nat) (j:List Ty) (h:List (DataW H×List MemPlace)),j≠ []->zz T k off=some j->
  (∀b∈k,∀c cs y,Wt T b.2=some c->f b.2 cs=some y->∃d:c.ty.den,Enc (va w) c.ty d cs/\pe c.ty d/\iT c.ty d<=β y.1)->
  h.length=k.length->(∀(i:Nat) (b:Nat×TypeId),k[i]?=some b->f b.2 ((cs.drop b.1).take (P.cellsOf b.2))=h[i]?)->cs.length=off+(kO j).size->
  ∃d:(kO j).den,Enc (va w) (kO j) d (cs.drop off)/\pe (kO j) d/\iT (kO j) d<=(h.map λy=>β y.1).sum
 | [],off,j,h,p,e,_,_,_,_=>by injection e with e;exact Wz e.symm p
 |(o,ft)::k,off,j,h,p,e,v,l,A,cl=>by
  cases h with
  |nil=>simp at l
  |cons y h=>
   simp only[zz]at e;split at e
   .rename_i c hl;obtain⟨n,e⟩:=W7 e;simp only[Xh]at n;have L:o=off:=by simpa using n.1
    obtain⟨B,a,rfl⟩:=Xw.1 e;have D:P.cellsOf ft=c.ty.size:=by rw[Le (u _ _ hl),W1 n.2]
    have s:=A 0 (o,ft) rfl;simp only[NK,D,L]at s;obtain⟨q,m,r,F⟩:=v (o,ft) (Xl ..) c _ y hl s;cases gI:k with
    |nil=>
     subst gI;simp only[zz]at a;injection a with a;subst a;have Q:h= []:=by cases h with
      |nil=>rfl
      |cons _ _=>simp at l
     subst Q;have O:(cs.drop off).take c.ty.size=cs.drop off:=vD (by rw[List.length_drop,cl];simp[kO]);rw[O]at m;exact⟨q,m,r,by rw[bz,eX,D6,List.sum_nil,c5];exact F⟩
    |cons g gs=>
     have z:B≠ []:=by
      rw[gI]at a;obtain⟨S,J⟩:=g;simp only[zz]at a;split at a
      .obtain⟨_,a⟩:=W7 a;obtain⟨x,_,rfl⟩:=Xw.1 a;simp
      .cases a
     have C:=Wot (t:=c.ty) z;obtain⟨E,G,I,R⟩:=SN u M f (cs:=cs) k (off+c.ty.size) B h z a (λb N=>v b (Xg _ N)) (by simpa using l)
      (λi b K=>by have:=A (i+1) b (by simpa using K);simpa using this) (by rw[cl,C,Ty.size];omega)
     rw[C];refine⟨(q,E),⟨_,_,?_,m,G⟩,⟨r,I⟩,?_⟩
     .rw[←List.drop_drop];exact(List.take_append_drop _ _).symm
     .simp only[iT,bz,D6];omega
   .cases e
theorem LW(E:ao P T)(f:Bulk β):∀(n o:Nat) (t:TypeId) (g:TE) (cs:List Value) (x:DataW H×List MemPlace),vt T n t=true->Wt T t=some g->
  DataW.trod enc P w 0 (λ_=>true) true o t cs=some x->∃d:g.ty.den,Enc (va w) g.ty d cs/\pe g.ty d/\iT g.ty d<=β x.1
 |0,_,_,_,_,_,h,_,_=>by cases h
 |n+1,o,t,g,cs,x,h,Y,z=>by
  have G:=E _ _ Y;simp only[vt,Y]at h;obtain⟨ty,agg,shape⟩:=g;cases shape with
  |basic=>
   have u:=G.und.2;cases ty with
   |int k=>
    obtain⟨m,rfl,rfl,hw⟩:=DataW.trod_int u z;exact⟨m,rfl,hw,f.lit _⟩
   |bool=>
    obtain⟨b,rfl,rfl⟩:=DataW.trod_bool u z;exact⟨b,rfl,trivial,f.lit _⟩
   |str=>
    obtain⟨s,rfl,rfl,hs⟩:=DataW.trod_string u z;refine⟨s.data.toList,by simp[Enc],?_,f.str _⟩;show s.data.toList.length<=maxLen;rw[Array.length_toList];exact hs
   |slice e=>cases h
   |own e=>cases h
   |prod a b=>cases h
  |slice e=>
   simp only[Xh]at h;obtain⟨ha,u,p,L,K⟩:=G.und;simp only at K;subst K;have hp:p.plain=true:=by have:=h.2;rw[L]at this;exact this
   have M:P.cellsOf e=p.ty.size:=by rw[Le (E _ _ L),W1 hp]
   rcases DataW.trod_slice u z with⟨rfl,rfl⟩|⟨a,B,D,c,F,m,rfl,rfl,rfl,hb,Aw,kX,wI,sh,gH,_⟩
   .exact⟨([]:List p.ty.den),⟨_,rfl,.inl ⟨rfl,rfl⟩⟩,⟨by simp,λx z=>by cases z⟩,by simpa [iT]using f.nil⟩
   .have A:=UD (w:=w) (β:=β) (e:=p.ty) (a:=a) p.ty.size (lP _) B 0 (λi=>c[i]?) (λcs=>DataW.trod enc P w 0 (λ_=>true) true m e cs)
     (λcs y R=>LW E f n m e p cs y h.1 L R) (λi _ C=>by
      rw[bX]at C;have:=sh i C;rw[M]at this;have V:i<c.length:=by omega
      rw[Xq V]at this;obtain⟨cs,J,r⟩:=jc.1 this;exact⟨c[i],cs,J,r,Xq V⟩)
    obtain⟨l,cs,q,O,Q,W,g5,g6⟩:=A;refine⟨l,⟨_,rfl,?_⟩,⟨by rw[q];omega,Q⟩,?_⟩
    .by_cases h0:B=0
     .subst h0;exact .inr (.inr ⟨a,D,rfl,dV q⟩)
     .have vS:0<cs.length:=by rw[g5];exact Nat.mul_pos (by omega) (lP _)
      have Z:=W 0 _ (Xq vS);have sS:a.spot=none:=by
       rw[Ec,c5]at Z;have:=World.cell?_spot Z;simpa [Addr.add]using this
      obtain⟨b,S,spot⟩:=a;subst sS;refine .inr (.inl ⟨b,S,D,cs,by rw[q],by rw[q];exact Aw,kX,O,λj v hj=>?_⟩);have:=W j v hj;rw[Ec,bX,gM]at this;exact this
    .have J:=f.slice (c.map (·.1)) (F.map (·.1));have r:((cK B).map λi=>match c[0+i]? with|some y=>β y.1|none=>0).sum=(c.map λy=>β y.1).sum:=by
      rw[←wI];exact WwY c
     rw[r]at g6;rw[D7]at J;simp only[iT];have h3:(List.map (β∘λx=>x.1) c)=c.map λy=>β y.1:=rfl;rw[h3]at J;show(List.map (iT p.ty) l).sum+1<=_;omega
  |struct fs=>
   simp only[Xh]at h;obtain⟨ha,I,u,X,y0,_⟩:=G.und;have r:=h.2;split at r
   .rename_i U ts Ax;have K:ty=kO (U::ts):=Waf r;subst K;obtain⟨xs,m,rfl,rfl,dz,jH,no⟩:=DataW.trod_struct u z;have M:P.cellsOf t=(kO (U::ts)).size:=by rw[Le G];rfl
    have A:=SN (w:=w) (P:=P) E f (λt cs=>DataW.trod enc P w 0 (λ_=>true) true m t cs) (cs:=cs) fs 0 (U::ts) xs (by simp) Ax
     (λN kD g cs y uY R=>LW E f n m N.2 g cs y (bA.1 h.1 N kD) uY R) (by rw[jH,←X];simp)
     (λi N C=>by
      rw[←X]at C;rw[dF]at C;obtain⟨fl,jo,he⟩:=Xw.1 C;subst he;exact no i fl (by simpa using jo)) (by rw[dz,M,bX])
    obtain⟨d,q,O,Q⟩:=A;rw[eC]at q;refine⟨d,q,O,fP Q ?_⟩;have:=f.agg (xs.map (·.1));rw[D7]at this;exact this
   .cases r
  |ptr e=>cases h
  |arr m e=>cases h
theorem Da{G:GH}{w:World}:∀(t:Ty) (d:t.den) (vs:List Value),Enc G t d vs->WC G w t d vs []
 | .int _,_,_,h=>⟨rfl,h⟩
 | .bool,_,_,h=>⟨rfl,h⟩
 | .str,_,_,h=>⟨rfl,h⟩
 | .slice _,_,_,h=>⟨rfl,h⟩
 | .own _,_,_,h=>h.elim
 | .prod a b,d,vs,⟨c,e,i,f,g⟩=>⟨c,e,[],[],i,rfl,Da a _ _ f,Da b _ _ g⟩
def GO:(a:List PTy)->cu a->Prop
 | [],_=>True
 | .v t _::a,d=>pe t d.1/\GO a d.2
 | .box _::_,_=>False
 | .mut _::_,_=>False
 | .clos _ _::_,_=>False
 | .kv _ _::_,_=>False
 | .rp _::_,_=>False
 | .vj _::_,_=>False
 | .boxal _ _::_,_=>False
def Dd:(a:List PTy)->cu a->Nat
 | [],_=>0
 | .v t _::a,d=>iT t d.1+Dd a d.2
 | .box _::_,_=>0
 | .mut _::_,_=>0
 | .clos _ _::_,_=>0
 | .kv _ _::_,_=>0
 | .rp _::_,_=>0
 | .vj _::_,_=>0
 | .boxal _ _::_,_=>0
def Aq(P:Program)(T:Tab):List TypeId->List PTy->Bool
 | [],[]=>true
 |t::ts,p::ps=>(match p with
  | .v ty agg=>(match Wt T t with|some te=>decide (te.ty=ty)&&(te.agg==agg)|none=>false)&&vt T 20 t&&P.readableRec t&&Nat.blt t P.types.size&&Aq P T ts ps
  | .box _=>false
  | .mut _=>false
  | .clos _ _=>false
  | .kv _ _=>false
  | .rp _=>false
  | .vj _=>false
  | .boxal _ _=>false)
 |_,_=>false
theorem Tb(E:ao P T)(K:Bulk β):∀(i:List TypeId) (g:List PTy) (vs:List Value) (C:List (DataW H)) (F:List MemPlace),Aq P T i g=true->DataW.TrodAll enc P w 0 (λ_=>true) true i vs C F->
  (∀(j:Nat) (t:TypeId) (v:Value),i[j]?=some t->vs[j]?=some v->∃o,Value.okWide P w .any o t v)->
  ∃d:cu g,gc (va w) w g d vs [] []/\GO g d/\Dd g d<=(C.map β).sum
 | [],[],vs,C,F,_,h,_=>by
  obtain⟨rfl,rfl,_⟩:=trodAll_nil h;exact⟨(),⟨rfl,rfl,rfl⟩,trivial,by simp[Dd]⟩
 | [],_::_,_,_,_,h,_,_=>by cases h
 |_::_,[],_,_,_,h,_,_=>by cases h
 |t::i,.box _::g,_,_,_,h,_,_=>by cases h
 |t::i,.mut _::g,_,_,_,h,_,_=>by cases h
 |t::i,.clos _ _::g,_,_,_,h,_,_=>by cases h
 |t::i,.kv _ _::g,_,_,_,h,_,_=>by cases h
 |t::i,.rp _::g,_,_,_,h,_,_=>by cases h
 |t::i,.vj _::g,_,_,_,h,_,_=>by cases h
 |t::i,.boxal _ _::g,_,_,_,h,_,_=>by cases h
 |t::i,.v ty agg::g,vs,C,F,J,h,ji=>by
  obtain⟨v,I,d,sT,p,q,rfl,rfl,rfl,U,X⟩:=trodAll_cons h;simp only[Aq,Xh]at J;obtain⟨⟨⟨⟨z,A⟩,h3⟩,h4⟩,V⟩:=J;split at z
  .rename_i te hl;simp only[Xh]at z;have O:te.ty=ty:=Waf z.1;have Q:te.agg=agg:=eq_of_beq z.2;subst O Q;obtain⟨y,Z⟩:=U;obtain⟨x,B,L,G⟩:=LW E K 20 y t te _ (d,p) A hl Z;obtain⟨o,s⟩:=ji 0 t v rfl rfl;obtain⟨N,R,S,g3⟩:=Tb E K i g I sT q V X (λj t v W Y=>ji (j+1) t v (by simpa using W) (by simpa using Y));refine⟨(x,N),⟨v,I,[],[],rfl,rfl,?_,R⟩,⟨L,S⟩,?_⟩
   .have f:=(E _ _ hl).und;unfold ec;obtain⟨ty,ag,shape⟩:=te;simp only at B L G⊢;have gi:∀u:Value,u.cells= #[u]->u=v->v.cells.toList= [v]:=λu h e=>by rw[←e,h]
    cases shape with
    |basic=>
     obtain⟨r,f⟩:=f;simp only at r;subst r;simp only[dq,W4];have:v.cells.toList= [v]:=by
      cases ty with
      |int k=>obtain⟨n,rfl⟩:=okWide_int f s;rfl
      |bool=>obtain⟨n,rfl⟩:=okWide_bool f s;rfl
      |str=>obtain⟨n,rfl⟩:=okWide_string f s;rfl
      |slice e=>cases f
      |own e=>cases f
      |prod a b=>cases f
     rw[this]at B;exact Da _ _ _ B
    |slice e=>
     obtain⟨r,f,_⟩:=f;simp only at r;subst r;simp only[dq,W4];obtain⟨a,l,c,rfl⟩:=okWide_slice f s;exact Da _ _ _ B
    |struct fs=>
     obtain⟨r,D,f,_⟩:=f;simp only at r;subst r;simp only[WN];obtain⟨M,rfl,_⟩:=okWide_struct f s;exact⟨M.toList,by simp,Da _ _ _ B⟩
    |ptr e=>simp only[vt,hl]at A;cases A
    |arr m e=>simp only[vt,hl]at A;cases A
   .have G:iT te.ty x<=β d:=G;simp only[Dd,bz,D6];omega
  .cases z
theorem Th:∀(b:List TypeId) (vs:List Value) (a:List (DataW H)) (c:List MemPlace),DataW.TrodAll enc P w 0 (λ_=>true) true b vs a c->a.length=b.length
 | [],vs,a,c,h=>by obtain⟨_,rfl,_⟩:=trodAll_nil h;rfl
 |t::b,vs,a,c,h=>by
  obtain⟨v,e,d,g,p,q,rfl,rfl,rfl,i,f⟩:=trodAll_cons h;simp[Th b e g q f]
theorem SZ(m:laidOutB P=true){W g:World}(k:Below W.heap.size W g){n:Nat->Bool}:∀(a:List TypeId) (b:List PTy) (vs:List Value) (f:List (DataW H)) (e:List MemPlace),Aq P T a b=true->
  DataW.TrodAll enc P W 0 (λ_=>true) true a vs f e->(∀p∈e,p.block<W.heap.size)->(∀p∈e,n p.block=true)->DataW.TrodAll enc P g 0 n true a vs f e
 | [],b,vs,f,e,_,h,_,_=>by
  obtain⟨rfl,rfl,rfl⟩:=trodAll_nil h;exact trodAll_mk0
 |t::a,[],_,_,_,h,_,_,_=>by cases h
 |t::a,.box _::b,_,_,_,h,_,_,_=>by cases h
 |t::a,.mut _::b,_,_,_,h,_,_,_=>by cases h
 |t::a,.clos _ _::b,_,_,_,h,_,_,_=>by cases h
 |t::a,.kv _ _::b,_,_,_,h,_,_,_=>by cases h
 |t::a,.rp _::b,_,_,_,h,_,_,_=>by cases h
 |t::a,.vj _::b,_,_,_,h,_,_,_=>by cases h
 |t::a,.boxal _ _::b,_,_,_,h,_,_,_=>by cases h
 |t::a,.v ty agg::b,vs,f,e,l,h,i,gH=>by
  obtain⟨v,o,d,z,p,q,rfl,rfl,rfl,s,y⟩:=trodAll_cons h;simp only[Aq,Xh]at l;obtain⟨⟨⟨⟨A,B⟩,u⟩,j⟩,w⟩:=l;have r:t<P.types.size:=by rw[N3]at j;exact j
  exact⟨p,q,WideElems.Trod_stays m u r s (λx c=>k.same (i x (Xo _ c))) (λx c=>gH x (Xo _ c)),
   SZ m k a b o z q w y (λx c=>i x (Xi _ c)) (λx c=>gH x (Xi _ c)),rfl⟩
theorem Wux{f:Func}{s:ChangeSpec}{mp e B again:Bool}{W W':World}{c:Array Value}{v:Value}{h i:List (DataW H)}{before pa pv:List MemPlace}
  (l:DataW.Whole enc P f.params.toList s.vars mp W c.toList h i before)
  (q:∀(b:Nat) (g:Nat->Bool) (x:Bool),DataW.TrodAll enc P W' b g x f.resultTypes.toList (v.resultList f.resultTypes.size) (s.fn H (h++i)).results [])
  (m:∀g:Nat->Bool,(∀p∈before,g p.block=true)->DataW.TrodAll enc P W' 0 g true f.params.toList c.toList (s.fn H (h++i)).args pa)
  (u:∀g:Nat->Bool,(∀p∈before,g p.block=true)->DataW.TrodVars enc P W' g s.vars (s.fn H (h++i)).vars pv)
  (k:before=pa++pv) (y:W.keptBut W' (· ∈before)) (C:∀a,a.block<W.heap.size->W'.frozen? a=W.frozen? a)
  (w:∀(j:Nat) (t:TypeId) (r:Value),f.resultTypes[j]?=some t->(v.resultList f.resultTypes.size)[j]?=some r->Value.okWide P W' .any 0 t r):
  s.post enc P f mp e B again W c v W':=by
 have o:∀p∈before,(λb=>decide (b<W.heap.size)) p.block=true:=λp d=>by simpa using l.lt p d
 refine⟨h,i,before,[],pa,pv,l,q _ _ _,m _ o,u _ o,World.keptBut_mono (λp d=>⟨d,?_⟩) y,λ_=>?_⟩
 .rw[k,Xp]at d;exact Or.inr d
 .have ae:=l.lt;obtain⟨_,_,_,_,_,A,z⟩:=l;refine⟨w,_,_,([]++pa)++pv,⟨[]++pa,pv,trodAll_append (m _ (λ_ _=>rfl)) (q _ _ _),u _ (λ_ _=>rfl),rfl,?_,?_⟩,?_⟩
  .intro b off d;have n:MemPlace.cell b off∈before:=by rw[k];simpa using d
   rw[C ⟨b,off,none⟩ (ae _ n)];exact A b off n
  .intro ha;have:=z ha;rw[k]at this;simpa using this
  .intro p d _;rw[k];simpa using d
theorem law_row(hT:ao P T)(kN:laidOutB P=true){f:Func}{k:FuncId}{s:ChangeSpec}(D:s.vars= [])(hs:∀g:List (DataW H),g.length=f.params.toList.length->s.fn H g={results:=[.lit (.bool true)],args:=g})
  {ps:List PTy} (C:Aq P T f.params.toList ps=true) {tb:TypeId} (I:f.resultTypes= #[tb]) (J:P.underlying tb=some .bool) {run:Nat->cu ps->Option (cT ps×db [.v .bool false])}
  (S:∀N,Ar P k (Sig.of ps [.v .bool false] (run N))) (hβ:Bulk β) {ok:List (DataW H)->Prop} {M:Nat->Prop} (sX:∀g m,ok g->m<=(g.map β).sum->M m)
  (wK:∀d:cu ps,GO ps d->M (Dd ps d)->∃N o,run N d=some (o,(true,()))) {mp l iH again:Bool}
  (W:World) (h:Nat) (args:Array Value) (g Y:List (DataW H)) (c:List MemPlace)
  (ji:∀(j:Nat) t v,f.params[j]?=some t->args[j]?=some v->Value.okWide P W .any h t v)
  (y:DataW.Whole enc P f.params.toList s.vars mp W args.toList g Y c) (hk:ok g):
  Calls P k args W λe W'=>∃v,e= .returned v/\s.post enc P f mp l iH again W args v W':=by
 have z:=y;have Q:=y.lt;obtain⟨p,q,x,E,K,sW,bs⟩:=y;rw[D]at E;obtain⟨L,A⟩:=trodVars_none E;subst L A;rw[hU]at K;subst K;obtain⟨d,Z,h2,h3⟩:=Tb (w:=W) hT hβ f.params.toList ps args.toList g c C x (λj t v hj r=>⟨h,ji j t v (by simpa using hj) (by simpa using r)⟩);obtain⟨N,o,ho⟩:=wK d h2 (sX g _ hk h3);have F:=S N d (o,(true,())) ho (va W) W args.toList [] [] Z List.Pairwise.nil (by simp) (λb o v r=>r);have O:args.toList.toArray=args:=by simp
 rw[O]at F;refine F.mono λe W' ⟨rv,kf,ms,dM,G',G,i⟩=>?_;have n:Below W.heap.size W W':=⟨i.le.os,i.le.tape,i.le.output,i.le.size,λb n=>i.le.whole b n (λo ⟨q,A,_⟩=>by simp at A)⟩;obtain⟨v,ay,n1,n2,U,e2,u,V⟩:=i.res;obtain⟨X,_⟩:=V;subst X;have r:v= .bool true:=by
  unfold ec at u;simp only[dq,W4]at u;have:=u.2;simpa [Enc]using this
 subst r;have nv:uJ rv= .bool true:=by rw[U];rfl
 rw[nv]at G;refine⟨.bool true,G,?_⟩;have R:=Th _ _ _ _ x;have B:=hs (g++ []) (by rw[hU];exact R);refine Wux (pa:=c) (pv:=[]) z ?_ ?_ ?_ (by simp) (n.frame _) (λa i=>n.frozen i) (ok_one I rfl (okWide_bool_mk J _))
 .intro b sp hd;rw[B,I];exact trodAll_cons_mk (shut_bool J _) trodAll_mk0
 .intro sp gH;rw[B,hU];exact SZ kN n _ _ _ _ _ C x Q gH
 .intro sp gH;rw[B,D];rfl
end
end

def pA{α:Type}(r:α->α->Bool):List α->Bool
 | []=>true
 |x::l=>l.all (r x)&&pA r l
def mg{α:Type}(cf:α->α->Int)(x y:α):Bool:=decide (cf x y<0)
def mp{α:Type}(cf:α->α->Int)(x y:α):Bool:=mg cf x y||mg cf y x
def ky{α:Type}(cf:α->α->Int)(xs:List α):List α:=xs.mergeSort λx y=>!mg cf y x
def yp{α:Type}(rng:α->Bool)(cf:α->α->Int)(N:Nat)(xs:List α):Option ((List α×Unit)×Unit):=
 bif xs.all rng&&(pA (mp cf) xs&&decide (xs.length<4611686018427387904))then some ((ky cf xs,()),())else none
structure SwoOn{α:Type}(rng:α->Bool)(cf:α->α->Int):Prop where
 irr:∀x,rng x=true->¬cf x x<0
 tr:∀x y z,rng x=true->rng y=true->rng z=true->cf x y<0->cf y z<0->cf x z<0
 nt:∀x y z,rng x=true->rng y=true->rng z=true->¬cf x y<0->¬cf y z<0->¬cf x z<0
theorem WoT{α:Type}{rng:α->Bool}{cf:α->α->Int}{N:Nat}{xs:List α}{o:(List α×Unit)×Unit}(h:yp rng cf N xs=some o):
  (∀x∈xs,rng x=true)/\pA (mp cf) xs=true/\xs.length<4611686018427387904/\o=((ky cf xs,()),()):=by
 unfold yp at h;cases hb:xs.all rng&&(pA (mp cf) xs&&decide (xs.length<4611686018427387904))
 .rw[hb]at h;cases h
 .rw[hb]at h;simp only[Wa]at h;injection h with h;simp only[Xh,Wg]at hb;exact⟨bA.1 hb.1,hb.2.1,hb.2.2,h.symm⟩
theorem Tq{α:Type}{r:α->α->Bool}:∀{l:List α},pA r l=true->∀(i j:Nat) (hi:i<l.length) (a:j<l.length),i<j->r l[i] l[j]=true
 | [],_,i,_,hi,_,_=>by simp at hi
 |x::l,h,0,j+1,hi,a,rt=>by
  simp only[pA,Xh]at h;exact bA.1 h.1 _ (List.getElem_mem _)
 |x::l,h,i+1,j+1,hi,a,rt=>by
  simp only[pA,Xh]at h;simpa using Tq h.2 i j (by simpa using hi) (by simpa using a) (by omega)
def rH(k:Int):Bool:=decide (-1000000000<=k)&&decide (k<=1000000000)
def D0(a:Int×Int×Int):Bool:=rH a.1
def cfE(a b:Int×Int×Int):Int:=a.1-b.1
def vu(a:Int×Int×Int):Bool:=rH a.1&&rH a.2.1
def cfH(a b:Int×Int×Int):Int:=bif a.2.1==b.2.1 then a.1-b.1 else a.2.1-b.2.1
theorem zf{k:Int}(h:rH k=true):-1000000000<=k/\k<=1000000000:=by unfold rH at h;simpa using h
theorem WyO:SwoOn D0 cfE:=⟨λx _=>by unfold cfE;omega,λx y z _ _ _=>by unfold cfE;omega,λx y z _ _ _=>by unfold cfE;omega⟩
theorem gg{a b:Int×Int×Int}:cfH a b<0↔(a.2.1<b.2.1\/(a.2.1=b.2.1/\a.1<b.1)):=by
 unfold cfH;by_cases h:a.2.1=b.2.1
 .have:(a.2.1==b.2.1)=true:=by simpa using h
  rw[this];simp only[Wa];omega
 .have:(a.2.1==b.2.1)=false:=by simpa using h
  rw[this];simp only[Wb];omega
theorem WxZ{a b:Int×Int×Int}(h:(a.2.1 !=b.2.1)=false):a.1-b.1=cfH a b:=by
 have h:a.2.1=b.2.1:=bne_eq_false_iff_eq.1 h;unfold cfH;rw[beq_iff_eq.2 h];rfl
theorem Wx7{a b:Int×Int×Int}(h:(a.2.1 !=b.2.1)=true):a.2.1-b.2.1=cfH a b:=by
 have h:a.2.1≠b.2.1:=bne_iff_ne.1 h;unfold cfH;rw[beq_eq_false_iff_ne.2 h];rfl
theorem WyQ:SwoOn vu cfH:=⟨λx _=>by rw[gg];omega,λx y z _ _ _=>by rw[gg,gg,gg];omega,λx y z _ _ _=>by rw[gg,gg,gg];omega⟩
end Go.Sx
