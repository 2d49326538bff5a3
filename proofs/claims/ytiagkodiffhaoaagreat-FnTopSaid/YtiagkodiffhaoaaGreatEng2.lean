/- The abstract machine, part 2: a reflective interpreter of the program's code over data, with its soundness over the model. -/
import Derived.Test.YtiagkodiffhaoaaGreatEng1
open List renaming getElem?_of_mem->So,getElem?_eq_getElem->Xq,mem_append->Xo,eq_nil_of_length_eq_zero->eY,getElem?_drop->pS,getElem?_take->p3,map_toArray->Ee,map_cons->bo,map_nil->d6,length_take->gv,pairwise_cons->Xz,map_append->Xw,mem_append_left->Xn,pairwise_append->dZ,append->Xh,length_append->bX,ext_getElem?->HX,mem_cons_self->Xg,mem_cons_of_mem->Xe,mem_map_of_mem->ju,getElem?_eq_some_iff->iW,mem_cons->Xr,mem_map->Xy,getElem?_eq_none->sG,take_length->jz,mem_singleton->dq,nodup_cons->dH,length->Xa,replicate->Xp,getElem?_cons_zero->H0,all_eq_true->cS,nodup_append->gI,length_drop->HZ,mem_append_right->Xk,sublist_append_right->Xgj,getElem?_append->ko,length_map->aP,getElem?_map->hV,nodup_nil->Ec,all_cons->o4,mem_of_getElem?->nl,getD_eq_getElem?_getD->Xs,range->bJ,mem_filter->fc,mem_range->HV,filter_cons->io,cons_append->hZ,mem_flatMap->Xgp
open Option renaming map_eq_some_iff->im,map_some->vp,bind_eq_some_iff->mx,bind_some->Xd,bind_assoc->Xhx,map->H6
open Nat renaming add_assoc->gU,lt_succ_self->nq,add_zero->gJ,add_mul->o5,le_refl->Xj,min_eq_left->jB,mul_le_mul_right->lu,eq_of_beq_eq_true->D8,le_trans->mA,add_sub_cancel_left->AJ,le_succ->EG,blt_eq->Xid
open Array renaming length_toList->kj,getD_eq_getD_getElem?->D5,getElem?_setIfInBounds->Xfx,getElem?_eq_getElem->L1,replicate->Ef
open Bool renaming not_true->Xu,false_eq_true->my,or_eq_true->sH,and_eq_true->Xl,not_eq_true'->hU
namespace Go.Sx
set_option linter.defProp false
set_option linter.unusedVariables false
set_option linter.unusedSimpArgs false
theorem WBz{G}(t)(d)(a)(h:Enc G t d a):∀u∈a,u.oneCell'=true:=λu e=>by
 obtain⟨j,c⟩:=So e;have f:=pm (a:=λ_=>⟨none,0,0,0,0⟩) (b:=0) t d a h;have b:j<(split t d).length:=by rw[<-f.1];grind
 exact(f.2 j _ u (Xq b) c).2
def WsI{G}{t}:∀(l) (a),da (Enc G t) l a->∀u∈a,u.oneCell'=true
 | [],a,h,u,g=>by grind [da]
 |x::l,a,⟨e,b,d,f,c⟩,u,g=>by
  subst d;rcases Xo.1 g with g|g
  .grind [WBz]
  .exact WsI l b c u g
theorem Wvo{G}{w}(t)(d)(a)(ps)(h:WL G w t d a ps):∀u∈a,u.oneCell'=true:=λu e=>by
 obtain⟨j,c⟩:=So e;have f:=KZ (a:=λ_=>⟨none,0,0,0,0⟩) (b:=0) t d a ps h;have b:j<(split t d).length:=by rw[<-f.1];grind
 exact(f.2 j _ u (Xq b) c).2
def Yy{G}{w}{t}:∀(l) (a) (b),dU (WL G w t) l a b->∀u∈a,u.oneCell'=true
 | [],a,b,h,u,m=>by rw[h.1]at m;simp at m
 |x::l,a,b,⟨g,c,k,f,e,j,i,d⟩,u,m=>by
  subst e;rcases Xo.1 m with m|m
  .grind [Wvo]
  .exact Yy l c f d u m
section
variable{S:World}{F:CS}{nt:Slots}{G0 G:GH}{Q:Nat->Nu}{d:Nat->CS}{p:ai}{u:Nat}{b an:St}{a:Act}{w c:World}{P:Program}{T:Tab}
structure Src(S:World)(F:CS)(G:GH)(Q:Nat->Nu)(b:St)(w:World)(e:Ty)(l:List e.den)(m:List Nat)(v:Value)(a:List Value):Prop where
 enc:∀d,HR S F G Q d b.objs b.nx w->∃ps,dU (WL G w e) l a ps/\Sep (ps.map Pc.fp)/\∀p∈ps,CS.le p.fp (FromL d b.objs m)
 rd:(v= .slice none 0 0/\l= [])\/∃(p:Addr) (c:Nat),v= .slice (some p) l.length c/\∀(j:Nat) (u:Value),a[j]?=some u->w.cell? (p.add j)=some u
def uB{g}(a:g.data=true){l}{m}{v}{e}(h:da (Enc G g) l e)
  (f:(v= .slice none 0 0/\l= [])\/∃(p:Addr) (c:Nat),v= .slice (some p) l.length c/\∀(j) (u),e[j]?=some u->w.cell? (p.add j)=some u):Src S F G Q b w g l m v e:=
 ⟨λd _=>⟨[],(w5 a l e []).2 ⟨h,rfl⟩,List.Pairwise.nil,Δ⟩,f⟩
def PP(D:Rel S F nt G0 G Q b a w){Z}(d:Z.data=true){x}{u}{l}(m)(t:AValRel G Q b.nx x u)(h:Oq b Z x=some l):∃e,Src S F G Q b w Z l m u e:=by
 unfold Oq at h;split at h
 .rename_i e' d';obtain⟨q,k⟩:=pg h;subst q;simp only at k;subst k;obtain⟨⟨v,i,M⟩,_⟩:=t;simp at i;subst i;rcases M with⟨rfl,s⟩|⟨g,E,o,p,rfl,y,H,z,A⟩|⟨J,o,rfl,s⟩
  rotate_left 2
  .exact⟨[],uB d (by rw[s];rfl) (.inr ⟨J,o,Θ,λj u f=>by simp at f⟩)⟩
  .exact⟨[],uB d (by rw[s];rfl) (.inl ⟨rfl,s⟩)⟩
  .exact⟨p,uB d z (.inr ⟨⟨g,E,none⟩,o,rfl,λj u f=>by rw[nD];exact D.h.g (A j u f)⟩)⟩
 .injection h with h;subst h;obtain⟨i,_⟩:=t;simp only[CellRel]at i;subst i;exact⟨[],uB d rfl (.inl ⟨rfl,rfl⟩)⟩
 .rename_i id;split at h
  .rename_i e' W ho;obtain⟨q,k⟩:=pg h;subst q;simp only at k;subst k;obtain⟨⟨_,i⟩,_⟩:=t;subst i;obtain⟨X,n⟩:=D.h.obj ho;unfold Nu.hdr;cases hb:(Q id).blk with
   |none=>have:=zz n hb;exact⟨[],uB d (by rw[this];rfl) (.inl ⟨rfl,this⟩)⟩
   |some g=>
    obtain⟨y,H,z,A,p,B,C,L⟩:=J5 d n hb;exact⟨p,uB d B (.inr ⟨⟨g,(Q id).off,none⟩,(Q id).cap,by rw[y],λj u f=>by rw[nD];exact C j u f⟩)⟩
  grind
 .rename_i id c Y;split at h
  .rename_i e' W ho;obtain⟨T,r,h⟩:=im.1 h;subst h;obtain⟨q,k⟩:=pg r;subst q;simp only at k;subst k;obtain⟨⟨_,P,U,R,i⟩,_⟩:=t;subst i;obtain⟨X,n⟩:=D.h.obj ho;have K:=n.2.1;have O:=n.1;unfold Nu.vhdr;cases hb:(Q id).blk with
   |none=>
    have:=zz n hb;subst this;exact⟨[],uB d (by simp;rfl) (.inl ⟨rfl,Δ⟩)⟩
   |some g=>
    obtain⟨y,H,z,A,p,B,C,L⟩:=J5 d n hb;have I:((W.take Y).drop c).length=Y-c:=Φ
    by_cases N:(Q id).cap=c
    .have h0:(W.take Y).drop c= []:=eY Ω;exact⟨[],uB d (by rw[h0];rfl) (.inr ⟨_,_,by rw[I],λj u f=>by simp at f⟩)⟩
    .refine⟨(p.take (Y*e'.size)).drop (c*e'.size),uB d (GG (λx V r=>fi e' x V r) _ _ c (GI (λx V r=>fi e' x V r) _ _ Y B)) (.inr ⟨_,_,by rw[I,Wa N],λj u f=>?_⟩)⟩;rw[pS,p3]at f;rw[nD,K,gU];split at f
     .exact C _ u f
     grind
  grind
 grind
def Wwp(g:Rel S F nt G0 G Q b a w){e:Option Tmp}(j:∀i,e=some i->nt.Ok i)(k)(m):
  ∃c,Rel S F nt G0 G c (({env:=b.env,objs:=(b.nx,.arr k [])::kill b.objs m,nx:=b.nx+1}:St).put e (.s (.one (.own b.nx)))) (a.put e (.slice none 0 0)) w:=by
 refine⟨upd Q b.nx ⟨none,0,0,0,k.size⟩,g.fresh j m (.arr k []) _ (λ_ _ _=>False) _ _ (λd _=>WLe.refl _ w) (λd _ h o f=>f.elim) (λd _=>?_) ⟨⟨nq _,by rw[jf];rfl⟩,rfl⟩⟩;show az _ _ _ (upd Q b.nx ⟨none,0,0,0,k.size⟩ b.nx) _ _;rw[jf];exact⟨rfl,rfl,rfl⟩
def WkJ(t e s TT)(i)(l:P.underlying t=some (.slice s))(c:P.info? s=some i)
  (g r sLen sCap) (cur) (h:w.heap[g]?=some (.cells cur TT (0,0)))
  (p) (m q) (v) (k:v.length=m*i.size) (n:∀j u,v[j]?=some u->w.cell? (p.add j)=some u) (d:∀u∈v,u.oneCell'=true)
  (b:sLen+m<=sCap) (o:r+sLen*i.size+v.length<=cur.size):
  (Builtin.append_ #[t,t] e #[.slice (some ⟨g,r,none⟩) sLen sCap,.slice (some p) m q]).run P w=
   .ok (.slice (some ⟨g,r,none⟩) (sLen+m) sCap) (w.setRow g (cur.toList.take (r+sLen*i.size)++v++cur.toList.drop (r+sLen*i.size+v.length)).toArray):=by
 have f:=run_firstCells_some (P:=P) w i.size m p m q v k n;have a:=run_storeCells_at P g (r+sLen*i.size) TT v 0 cur w h Ω d;simp only[gJ]at a;simp[Builtin.append_,Wt l,sizeOf,typeInfo,c,Builtin.lenOf,b,f,nD,a]
theorem Uj(t e f)(i)(a:P.underlying t=some (.slice f))(b:P.info? f=some i)(c)(n d)(h:n<=d):
  (Builtin.append_ #[t,t] e #[.slice c n d,.slice none 0 0]).run P w= .ok (.slice c n d) w:=by
 cases c<;>simp[Builtin.append_,Wt a,sizeOf,typeInfo,b,Builtin.lenOf,h,Builtin.firstCells,storeCells]
theorem WkU(t d e)(i)(a:P.underlying t=some (.slice e))(b:P.info? e=some i)(p)(c):
  (Builtin.append_ #[t,t] d #[.slice none 0 0,.slice (some p) 0 c]).run P w= .ok (.slice none 0 0) w:=by
 simp[Builtin.append_,Wt a,sizeOf,typeInfo,b,Builtin.lenOf,Builtin.firstCells,loadCells,loadCellsFrom]
def CN{o}{k}(j:o.op= .call k){s x}{t}(h:k.callee= .builtin .append)(g:k.args.toList= [s,x])(f:k.argTypes.toList= [t,t]){v}
  (i:(Builtin.append_ #[t,t] o.type #[a.eval s,a.eval x]).run P w= .ok v c):(execOp a.eval o).run P w= .ok (.value v) c:=by
 obtain⟨e,d,b⟩:=k;obtain⟨d⟩:=d;obtain⟨b⟩:=b;simp only at h g f;subst h g f;simp only[execOp,j,resolve,invoke,builtin,Sem.run_bind,Sem.run_pure,Result.andThen_ok,Ee,bo,d6,i]
def WzK(w)(need old)(e)(h:WH need=true):need<=grownCap w need old e/\grownCap w need old e<=maxLen:=
 ⟨grownCap_ge w need old e,grownCap_le_maxLen w need old e (by grind [WH,maxLen])⟩
def VG(h:Rel S F nt G0 G Q b a w){v:Option Tmp}(f:∀o,v=some o->nt.Ok o)(m){r}{c}{q}(g:q.length=c.length*r.size)
  (n:∀d,HR S F G Q d b.objs b.nx w->∃l,dU (WL G w r) c q l/\Sep (l.map Pc.fp)/\∀p∈l,CS.le p.fp (FromL d b.objs m)) {e} (j:c.length<=e) (k:e<=maxLen) (z) (i:z.size=r.size) (t):
  ∃s,Rel S F nt G0 G s (({env:=b.env,objs:=(b.nx,.arr r c)::kill b.objs m,nx:=b.nx+1}:St).put v (.s (.one (.own b.nx)))) (a.put v (.slice (some ⟨w.heap.size,0,none⟩) c.length e)) (w.drew.alloc (.cells (q.toArray++Builtin.zeroCells z (e-c.length)) t)):=by
 refine(K4 h f m (e:=r) (V:=c) (K:=e) (X:=q) (W:=q.toArray++Builtin.zeroCells z (e-c.length)) (t:=t) j k ?_ n ?_ w.drew rfl rfl rfl rfl).1
 .simp only[Array.size_append,List.size_toArray,size_zeroCells,i,g,<-o5];simp_all
 .simp
structure ElT(P:Program)(t et:TypeId)(e:Ty):Prop where
 u:P.underlying t=some (.slice et)
 i:∃i z,P.info? et=some i/\i.size=e.size/\i.zero=some z/\z.cells.size=e.size/\i.bytes<=4096
def elT(d:bv P T){t a:TypeId}{e}{j}{te}{o}(l:look T t=some ⟨e,j,.slice a⟩)(h:look T a=some te)(g:te.plain=true)(f:te.ty.size=o.size):ElT P t a o:=by
 obtain⟨i,z,k,b,m,c,n⟩:=(d _ _ h).info;rw[jQ g]at b;rw[zo g]at c;exact⟨(d _ _ l).und.2.1,i,z,k,by rw[b,f],m,by rw[<-kj,c,rI,f],n⟩
def Gg(j:Rel S F nt G0 G Q b a w){o:Oper}(v:∀qa1,o.dst=some qa1->nt.Ok qa1){c}{s x}{t et}{e}(H:ElT P t et e)
  (y:o.op= .call c) (u:c.callee= .builtin .append) (r:c.args.toList= [s,x]) (n:c.argTypes.toList= [t,t]) (Z:a.eval s= .slice none 0 0)
  {l} {m W} {V} (g:Src S F G Q b w e l m (a.eval x) V) (I:∀i∈m,i∈W) (B:WH l.length=true):
  Done P S F nt G0 o a w (({env:=b.env,objs:=(b.nx,.arr e l)::kill b.objs W,nx:=b.nx+1}:St).put o.dst (.s (.one (.own b.nx)))):=by
 obtain⟨hu,i,z,hi,Y,hz,K,qa3⟩:=H;have T:l.length<=1073741824:=by grind [WH]
 have X:=qh e;rcases g.rd with⟨C,k⟩|⟨pa,qa5,C,qa4⟩
 .subst k;obtain⟨U,f⟩:=Wwp j v e W;exact⟨_,_,_,G,U,CN y u r n (by simp_all [Uj,Xj]),.inl rfl,f⟩
 .by_cases h0:l.length=0
  .have k:l= []:=eY h0;subst k;obtain⟨U,f⟩:=Wwp j v e W;exact⟨_,_,_,G,U,CN y u r n (by grind [WkU]),.inl rfl,f⟩
  .obtain⟨d,A⟩:=j.h;obtain⟨qa2,D,_⟩:=g.enc d A;have O:V.length=l.length*e.size:=ma (λx c q g=>WV e x c q g) _ _ _ D;obtain⟨qa0,E⟩:=WzK w l.length 0 et B;obtain⟨U,f⟩:=VG j v W O (λd A=>by
    obtain⟨R,L,M,N⟩:=g.enc d A;exact⟨R,L,M,λp J h o f=>FromL.mono I h o (N p J h o f)⟩) qa0 E z.cells K et
   have ud:l.length*i.bytes<=281474976710656:=by
    have:=Nat.mul_le_mul T qa3;omega
   refine⟨_,_,_,G,U,CN y u r n ?_,.inl rfl,f⟩
   grind [run_append_nil]
def C9{e}{c}{M}{S}{b k}(h:az w (WL G w e) e.size c M S)(y:c.blk=some b)(z:k<=M.length):
  ∃a d,dU (WL G w e) (M.take k) a d/\a.length=k*e.size/\Mem w b c.off a/\Sep (rng b c.off (c.cap*e.size)::d.map Pc.fp)/\(∀s∈rng b c.off (c.cap*e.size)::d.map Pc.fp,CS.le s S):=by
 obtain⟨E,F,g⟩:=h;simp only[y]at g;obtain⟨H,I,J,p,B,u,i,v,o⟩:=g;obtain⟨a,C,d,K,r,t,f,D⟩:=GK M p B k u;have j:=ma (λx L q A=>WV e x L q A) _ _ _ f;rw[gv,jB z]at j;obtain⟨m,n⟩:=Xz.1 v;rw[t,Xw]at m n o;refine⟨a,d,f,j,by rw[r]at i;exact i.left,Xz.2 ⟨λs l=>m s (Xn _ l),(dZ.1 n).1⟩,λs l=>?_⟩
 grind
def OL(hr:Rel S F nt G0 G Q b a w){o:Oper}(hd:∀qa0,o.dst=some qa0->nt.Ok qa0){c}{s x}{t et}{e}(hE:ElT P t et e)
  (ho:o.op= .call c) (hc:c.callee= .builtin .append) (ha:c.args.toList= [s,x]) (eU:c.argTypes.toList= [t,t])
  {id g k} {n} (R:look b.objs id=some (.arr e n)) (U:(Q id).blk=some g) (hk:k<=n.length) (eX:a.eval s= .slice (some ⟨g,(Q id).off,none⟩) k (Q id).cap)
  {l} {m} {z} (C:Src S F G Q b w e l m (a.eval x) z) (hm:id∉m) (aM:WH (k+l.length)=true):
  Done P S F nt G0 o a w (({env:=b.env,objs:=(b.nx,.arr e (Xh (n.take k) l))::kill b.objs (id::m),nx:=b.nx+1}:St).put o.dst (.s (.one (.own b.nx)))):=by
 obtain⟨hu,i,qa3,hi,K,hz,jG,qQ⟩:=hE;have ub:k+l.length<=1073741824:=by grind [WH]
 have dg:=qh e;have aa:(Xh (n.take k) l).length=k+l.length:=by show(n.take k++l).length=_;rw[bX,gv,jB hk]
 obtain⟨φ0,hφ0⟩:=hr.h;have ld:az w (WL G w e) e.size (Q id) n (φ0 id):=hφ0.ob _ _ R;have pU:=ld.2.2;simp only[U]at pU;obtain⟨hxc,mS,⟨E,TT,iT,ae⟩,_⟩:=pU;obtain⟨c1,Ak,_,ue,uf,_,_⟩:=C9 ld U hk;obtain⟨BA,e0,_⟩:=C.enc φ0 hφ0;have M:z.length=l.length*e.size:=ma (λx c q C=>WV e x c q C) _ _ _ e0;have J:Live b.objs id:=⟨_,R,Δ⟩;have ug:∀{T:List Value},T.length=k*e.size->Mem w g (Q id).off T->T=c1:=λ{T} D H=>HX λj=>by
  by_cases u:j<k*e.size
  .have s7:j<T.length:=Ω
   have wz:j<c1.length:=Ω
   have a1:=H j _ (Xq s7);have a2:=uf j _ (Xq wz);simp_all
  simp_all
 have qa1:∀(W:World),WLe (rng g ((Q id).off+k*e.size) (l.length*e.size)) w W->Mem W g ((Q id).off+k*e.size) z->k+l.length<=(Q id).cap->
   ∃y,Rel S F nt G0 G y (({env:=b.env,objs:=(b.nx,.arr e (Xh (n.take k) l))::kill b.objs (id::m),nx:=b.nx+1}:St).put o.dst (.s (.one (.own b.nx)))) (a.put o.dst (.slice (some ⟨g,(Q id).off,none⟩) (k+l.length) (Q id).cap)) W:=by
  intro W Z hM V;have mM:(k+l.length)*e.size<=(Q id).cap*e.size:=lu _ V;rw[o5]at mM;have kq:CS.le (rng g ((Q id).off+k*e.size) (l.length*e.size)) (rng g (Q id).off ((Q id).cap*e.size)):=λh o ⟨k0,k1,k2⟩=>⟨k0,Ω,Ω⟩;refine⟨upd Q b.nx ⟨some g,(Q id).off,k+l.length,(Q id).cap,e.size⟩,hr.fresh hd (id::m) (.arr e (Xh (n.take k) l)) _ (λd h o=>d id h o\/FromL d b.objs m h o) _ _ (λd B=>?_) (λd B h o f=>?_) (λd B=>?_) ⟨⟨nq _,by rw[jf];rfl⟩,rfl⟩⟩
  .have O:az w (WL G w e) e.size (Q id) n (d id):=B.ob _ _ R;obtain⟨_,_,_,_,_,_,aO⟩:=C9 O U hk;exact Z.mono λh o f=>⟨id,.inr (Xg ..),J,aO _ (Xg ..) h o (kq h o f)⟩
  .rcases f with f|⟨j,u,D,H⟩
   .exact .inl ⟨id,.inr (Xg ..),J,f⟩
   .exact .inl ⟨j,.inr (Xe _ u),D,H⟩
  .have O:az w (WL G w e) e.size (Q id) n (d id):=B.ob _ _ R;obtain⟨s9,N,g3,g4,g5,g6,g7⟩:=C9 O U hk;obtain⟨ps,k1,k2,L⟩:=C.enc d B;obtain⟨q1,q2⟩:=Xz.1 g6;have jJ:=g7 _ (Xg ..);have pV:∀p∈N,CS.le p.fp (d id):=λp r=>g7 _ (Xe _ (ju r));have uh:∀p∈ps,∀qa2,CS.le qa2 (d id)->CS.disj qa2 p.fp:=λp r qa2 hS h o D H=>by
    obtain⟨j,u,X,Y⟩:=L p r h o H;have:=B.inj id j h o J X (hS h o D) Y;simp_all
   have kY:∀p∈N,Same p.fp w W:=λp r=>Z.same ((q1 p.fp (ju r)).mono kq (λ_ _ f=>f)) (λh o f=>B.bl id h o J (pV p r h o f));have mQ:∀p∈ps,Same p.fp w W:=λp r=>Z.same (uh p r _ (λh o f=>jJ h o (kq h o f))) (λh o f=>by
    obtain⟨j,u,X,Y⟩:=L p r h o f;exact B.bl j h o X Y)
   show az W (WL G W e) e.size (upd Q b.nx ⟨some g,(Q id).off,k+l.length,(Q id).cap,e.size⟩ b.nx) _ _;rw[jf];refine⟨aa,rfl,Ψ,mS,Z.rows.row _ _ ⟨E,TT,iT,ae⟩,s9++z,N++ps,I9 _ _ _ _ _ _ ?_ ?_,?_,Xz.2 ⟨λs A=>?_,?_⟩,λs A h o f=>?_⟩
   .exact ur (Q:=λq=>Same q.fp w W) (λx c q I C=>pe (λ_ _ _ f=>f) e x c q I C) _ _ _ kY g3
   .exact ur (Q:=λq=>Same q.fp w W) (λx c q I C=>pe (λ_ _ _ f=>f) e x c q I C) _ _ _ mQ k1
   .refine Mem.app (n:=k*e.size) (λj v u=>?_) hM g4;have D:=g5 j v u;have br:j<s9.length:=(iW.1 u).1;rw[Z.cell g ((Q id).off+j) (block_lt_of_cell D) (λ⟨_,H,_⟩=>Ω)];exact D
   .grind
   .rw[Xw];refine dZ.2 ⟨q2,k2,λs A t ht=>?_⟩
    grind
   .rcases Xr.1 A with rfl|A
    .exact .inl (jJ h o f)
    .rw[Xw]at A;rcases Xo.1 A with A|A
     .obtain⟨p,r,rfl⟩:=Xy.1 A;exact .inl (pV p r h o f)
     .obtain⟨q,I,rfl⟩:=Xy.1 A;exact .inr (L q I h o f)
 rcases C.rd with⟨bs,db⟩|⟨pa,cc,bs,au⟩
 .have sY:l.length=0:=Ψ
  have qP:z= []:=eY Ψ;obtain⟨y,f⟩:=qa1 w (WLe.refl _ w) (by rw[qP];exactλj v u=>by simp at u) Ω;refine⟨_,_,_,G,y,CN ho hc ha eU ?_,.inl rfl,f⟩
  grind [Uj]
 .by_cases V:k+l.length<=(Q id).cap
  .have ui:(k+l.length)*e.size<=(Q id).cap*e.size:=lu _ V;rw[o5]at ui;have bA:=WkJ (P:=P) (w:=w) t o.type et TT i hu hi g (Q id).off k (Q id).cap E iT pa l.length cc z (by rw[K];exact M) (λj v u=>au j v u) (Yy _ _ _ e0) V (by rw[K,M];omega);obtain⟨hw,nQ⟩:=Gl (k:=(Q id).off+k*i.size) (e:=z) iT (by rw[K,M];omega);generalize w.setRow g (E.toList.take ((Q id).off+k*i.size)++z++E.toList.drop ((Q id).off+k*i.size+z.length)).toArray=W at bA hw nQ;rw[K]at hw nQ;rw[M]at hw;obtain⟨y,f⟩:=qa1 W hw nQ V;exact⟨_,_,_,G,y,CN ho hc ha eU (by rw[eX,bs,bA]),.inl rfl,f⟩
  .obtain⟨mO,gB⟩:=WzK w (k+l.length) (Q id).cap et aM;have bQ:(c1++z).length=(Xh (n.take k) l).length*e.size:=by rw[bX,ue,M,aa,o5]
   obtain⟨y,f⟩:=VG hr hd (id::m) (c:=Xh (n.take k) l) bQ (λd B=>by
    have O:az w (WL G w e) e.size (Q id) n (d id):=B.ob _ _ R;obtain⟨s9,N,g3,g4,g5,g6,g7⟩:=C9 O U hk;obtain⟨ps,k1,k2,L⟩:=C.enc d B;have:=ug g4 g5;subst this;obtain⟨q1,q2⟩:=Xz.1 g6;have pV:∀p∈N,CS.le p.fp (d id):=λp r=>g7 _ (Xe _ (ju r));refine⟨N++ps,I9 _ _ _ _ _ _ g3 k1,?_,λp r h o f=>?_⟩
    .rw[Xw];refine dZ.2 ⟨q2,k2,λs A t ht=>?_⟩;obtain⟨p,r,rfl⟩:=Xy.1 A;obtain⟨q,I,rfl⟩:=Xy.1 ht;intro h o D H;obtain⟨j,u,X,Y⟩:=L q I h o H;have:=B.inj id j h o J X (pV p r h o D) Y;subst this;exact hm u
    .rcases Xo.1 r with r|r
     .exact⟨id,Xg ..,J,pV p r h o f⟩
     .exact FromL.mono (λi hi=>Xe _ hi) h o (L p r h o f)) (by rw[aa];exact mO) gB qa3.cells jG et
   have ud:(k+l.length)*i.bytes<=140737488355328:=by
    have:=Nat.mul_le_mul ub qQ;omega
   have bA:=run_append_grow (P:=P) w t o.type et i qa3 hu hi hz ⟨g,(Q id).off,none⟩ k (Q id).cap c1 (by rw[K];exact ue) (λj v u=>by rw[nD];exact uf j v u) pa l.length cc z (by rw[K];exact M) (λj v u=>au j v u) Ω Ω (growslice_fits Ω ud);refine⟨_,_,_,G,y,CN ho hc ha eU ?_,.inl rfl,f⟩;rw[eX,bs,bA,aa];simp
def Qm{id}{e}{c}(d:HRel S F G Q p u w)(b:look p id=some (.arr e c)):
  ((Q id).blk=none/\c= []/\(Q id).hdr= .slice none 0 0)\/∃g,(Q id).blk=some g/\(Q id).hdr= .slice (some ⟨g,(Q id).off,none⟩) c.length (Q id).cap:=by
 obtain⟨f,a⟩:=d.obj b;unfold Nu.hdr;cases hb:(Q id).blk with
 |none=>exact .inl ⟨rfl,zz a hb,rfl⟩
 |some g=>exact .inr ⟨g,rfl,by rw[a.1]⟩
def WpF(X:bv P T)(n:Rel S F nt G0 G Q b a w){o:Oper}(M:∀qa5,o.dst=some qa5->nt.Ok qa5){c}{s x}{t J:TypeId}{ty}{te}{sv xv}{qa7}{k:St->Option qa7}{r}
  (Z:look T t=some ⟨ty,false,.slice J⟩) (U:look T J=some te) (C:te.plain=true)
  (O:o.op= .call c) (L:c.callee= .builtin .append) (K:c.args.toList= [s,x]) (I:c.argTypes.toList= [t,t]) (hs:ev b s=some sv) (hx:ev b x=some xv)
  (h:w6 b te.ty sv xv (λx p u=>k (({env:=b.env,objs:=p,nx:=u}:St).put o.dst x))=some r):∃an,k an=some r/\Done P S F nt G0 o a w an:=by
 have v:∀(e:Ty) (l:List e.den) (m:List Nat),LY b e xv=some (l,m)->∃R,Src S F G Q b w e l m (a.eval x) R:=λe l m f=>by
  unfold LY at f;split at f
  .simp only[Option.some.injEq,Prod.mk.injEq]at f;obtain⟨rfl,rfl⟩:=f;obtain⟨D,_⟩:=W2 n x _ hx;exact⟨[],λd _=>⟨[],⟨rfl,rfl⟩,List.Pairwise.nil,Δ⟩,.inl ⟨D,rfl⟩⟩
  .rename_i id;split at f
   .rename_i e' i y;obtain⟨ys,cA,f⟩:=im.1 f;have h2:=Prod.mk.inj f;obtain⟨h3,h4⟩:=h2;subst h3 h4;obtain⟨fR,mj⟩:=pg cA;subst fR;simp only at mj;subst mj;obtain⟨⟨_,D⟩,_⟩:=W2 n x _ hx;have aQ:Live b.objs id:=⟨_,y,Δ⟩;rcases Qm n.h y with⟨z,H,q⟩|⟨g,z,q⟩
    .subst H;exact⟨[],λd _=>⟨[],⟨rfl,rfl⟩,List.Pairwise.nil,Δ⟩,.inl ⟨by rw[D,q],rfl⟩⟩
    .obtain⟨φ0,qa2⟩:=n.h;have ld:az w (WL G w e') e'.size (Q id) i (φ0 id):=qa2.ob _ _ y;obtain⟨c1,p1,g1,g2,V,g4,g5⟩:=C9 ld z (Xj _);refine⟨c1,λd hφ=>?_,.inr ⟨⟨g,(Q id).off,none⟩,(Q id).cap,by rw[D,q],λj qa4 Y=>by rw[nD];exact V j qa4 Y⟩⟩;have aF:az w (WL G w e') e'.size (Q id) i (d id):=hφ.ob _ _ y;obtain⟨s9,BB,k1,k2,k3,k4,k5⟩:=C9 aF z (Xj _);have:s9=c1:=HX λj=>by
      by_cases Y:j<i.length*e'.size
      .have s7:j<s9.length:=Ω
       have wz:j<c1.length:=Ω
       have a1:=k3 j _ (Xq s7);have qa6:=V j _ (Xq wz);rw[a1]at qa6;rw[Xq s7,Xq wz];exact qa6
      .rw[sG Ω,sG Ω]
     subst this;rw[jz]at k1;exact⟨BB,k1,(Xz.1 k4).2,λqa0 C qa1 o q=>⟨id,dq.2 rfl,aQ,k5 _ (Xe _ (ju C)) qa1 o q⟩⟩
   .simp at f
  .simp at f
 unfold w6 at h;split at h
 .split at h
  .rename_i e ta;split at h
   .rename_i he;split at h
    .rename_i l m f;obtain⟨R,A⟩:=v e l m f;cases aM:WH l.length with
     |false=>simp[aM]at h
     |true=>
      simp[aM]at h;obtain⟨B,_⟩:=W2 n s _ hs;exact⟨_,h,Gg n M (elT X Z U C (by rw[<-he,md])) O L K I B A (λqa3 N=>N) aM⟩
    .simp at h
   .simp at h
  .simp at h
 .rename_i id;split at h
  .rename_i e i y;split at h
   .rename_i he;split at h
    .rename_i l m f;obtain⟨R,A⟩:=v e l m f;split at h
     .rename_i E;have E:=(dH.1 ((JA _).1 E)).1;cases aM:WH (i.length+l.length)with
      |false=>simp[aM]at h
      |true=>
       simp[aM]at h;refine⟨_,h,?_⟩;have W:ElT P t J e:=elT X Z U C (by rw[<-he,md]);obtain⟨⟨_,B⟩,_⟩:=W2 n s _ hs;rcases Qm n.h y with⟨z,H,q⟩|⟨g,z,q⟩
       .subst H;exact Gg n M W O L K I (by rw[B,q]) A (λqa3 N=>Xe _ N) (by simpa [WH]using aM)
       .have:=OL n M W O L K I y z (Xj _) (by rw[B,q]) A E aM;rw[jz]at this;exact this
     .simp at h
    .simp at h
   .simp at h
  .simp at h
 .simp at h
def WqB(K:bv P T)(V:Rel S F nt G0 G Q b a w){o:Oper}(y:∀d,o.dst=some d->nt.Ok d){X}{s x}{t t2}{sv xv}{R}{k:St->Option R}{r}
  (z:o.op= .call X) (v:X.callee= .builtin .append) (Y:X.args.toList= [s,x]) (q:X.argTypes.toList= [t,t2]) (C:ev b s=some sv) (D:ev b x=some xv)
  (h:zH T b t t2 sv xv (λx p u=>k (({env:=b.env,objs:=p,nx:=u}:St).put o.dst x))=some r):∃an,k an=some r/\Done P S F nt G0 o a w an:=by
 unfold zH at h;split at h
 .rename_i ty et _ hl _;split at h
  .rename_i te aO;split at h
   .rename_i cO;obtain⟨rfl,L,E⟩:=cO;have A:ElT P t et te.ty:=elT K hl aO L rfl;cases kr:LO b sv xv with
    |false=>
     simp only[kr,Bool.not_false,We]at h;exact WpF K V y hl aO L z v Y q C D h
    |true=>
    simp only[kr,Xu,Wc]at h;split at h
    .rename_i l bw;cases aM:WH l.length with
     |false=>simp[aM]at h
     |true=>
      simp[aM]at h;obtain⟨e,_⟩:=W2 V s _ C;obtain⟨j,m⟩:=PP V E [] (W2 V x _ D) bw;exact⟨_,h,Gg (W:=[]) V y A z v Y q e m (λi U=>U) aM⟩
    .rename_i id l bw;split at h
     .rename_i e0 c aS;split at h
      .rename_i ys cA;obtain⟨n,B⟩:=O6 cA;injection n with n;subst n;simp only at B;subst B;cases aM:WH (Xa c+l.length)with
       |false=>simp[aM]at h
       |true=>
        simp[aM]at h;refine⟨_,h,?_⟩;obtain⟨⟨_,e⟩,_⟩:=W2 V s _ C;obtain⟨j,m⟩:=PP V E [] (W2 V x _ D) bw;rcases Qm V.h aS with⟨f,J,H⟩|⟨g,f,H⟩
        .subst J;exact Gg (W:=[id]) V y A z v Y q (by rw[e,H]) m (λi U=>by simp at U) (by simpa [WH]using aM)
        .have:=OL V y A z v Y q aS f (Xj _) (by rw[e,H]) m Δ aM;rw[jz]at this;exact this
      .simp at h
     .simp at h
    .rename_i id U l bw;split at h
     .rename_i e0 c aS;split at h
      .rename_i ys cA;obtain⟨n,B⟩:=O6 cA;injection n with n;subst n;simp only at B;subst B;cases aM:WH (U+l.length)with
       |false=>simp[aM]at h
       |true=>
        simp[aM]at h;refine⟨_,h,?_⟩;obtain⟨⟨_,W,M,N,e⟩,_⟩:=W2 V s _ C;obtain⟨j,m⟩:=PP V E [] (W2 V x _ D) bw;obtain⟨Z,I⟩:=V.h.obj aS;unfold Nu.vhdr at e;cases f:(Q id).blk with
        |none=>
         have J:=zz I f;simp only[f]at e;have O:=N f;subst O;show Done P S F nt G0 o a w (({env:=b.env,objs:=(b.nx,.arr te.ty l)::(id,.dead)::b.objs,nx:=b.nx+1}:St).put o.dst (.s (.one (.own b.nx))));exact Gg (W:=[id]) V y A z v Y q e m (λi U=>by simp at U) (by simpa [WH]using aM)
        |some g=>
         simp only[f,Nat.sub_zero,Nat.zero_mul,gJ,ite_self]at e;exact OL V y A z v Y q aS f (by rw[I.1];exact M) e m Δ aM
      .simp at h
     .simp at h
    .simp at h
   .simp at h
  .simp at h
 .simp at h
end
section
variable{y:World}{F:CS}{Q:Slots}{G0 G:GH}{N:Nat->Nu}{v:Nat->CS}{b:ai}{c:Nat}{S d:St}{a:Act}{w e:World}{P:Program}{T:Tab}
theorem PN{t et}{te}{d:Nu}{n}{B A}{vl vh}(g:P.underlying t=some (.slice et))(c:TEok P T et te)(v:te.plain=true)(i:d.esz=te.ty.size)
  (s:n<=d.cap) (u:n=d.len) (h:d.blk=none->n=0) (f:BRel B vl) (e:BRel A vh) (z:(bH n B A).1=true):
  (Instr.sliceAt t d.hdr vl vh none).run P w= .ok (d.vhdr (bH n B A).2.1 (bH n B A).2.2) w/\(bH n B A).2.1<=(bH n B A).2.2/\(bH n B A).2.2<=n:=by
 unfold Nu.hdr Nu.vhdr;cases hk:d.blk with
 |none=>
  have m:=h hk;subst m;obtain⟨a,x,y⟩:=Gu (P:=P) (w:=w) (h:=true) (g:=0) f e (Xj _) z;have k:(bH 0 B A).2.2=0:=Ω
  have l:(bH 0 B A).2.1=0:=Ω
  rw[k,l]at a|-;refine⟨?_,Xj _,Xj _⟩;simp[Instr.sliceAt,Instr.slice,Wt g,a,c.sizeOf]
 |some b=>
  obtain⟨a,o,r⟩:=Gu (P:=P) (w:=w) (h:=true) (g:=d.cap) f e s z;refine⟨?_,o,r⟩;rw[<-u];generalize (bH n B A).2.1=p at*;generalize (bH n B A).2.2=q at*;have j:te.size=d.esz:=by rw[jQ v,i]
  simp only[Instr.sliceAt,Instr.slice,Sem.run_bind,Wt g,Result.andThen_ok,a,c.sizeOf,Sem.run_pure,j,vp,nD];split<;>rfl
theorem Wvt{id}{e}{d}{S}(h:gy G N c w id S (.arr e d)):((N id).blk=none->d.length=0)/\((N id).blk≠none->d.length<=(N id).cap):=by
 refine⟨λa=>by rw[zz h a];rfl,λa=>?_⟩;obtain⟨_,_,b⟩:=h
 grind
def XQ{t et}{te}{id}{e}{x}{S}(a:gy G N c w id S (.arr e x)){d z}{vl vh}(r:P.underlying t=some (.slice et))(f:TEok P T et te)(o:te.plain=true)(l:te.ty.size=e.size)
  (n:BRel d vl) (m:BRel z vh) (k:(bH x.length d z).1=true):
  (Instr.sliceAt t (N id).hdr vl vh none).run P w= .ok ((N id).vhdr (bH x.length d z).2.1 (bH x.length d z).2.2) w/\(bH x.length d z).2.1<=(bH x.length d z).2.2/\(bH x.length d z).2.2<=x.length:=by
 obtain⟨j,u⟩:=Wvt a;have y:=a.1;have g:=a.2.1;cases hk:(N id).blk with
 |some b=>grind [PN]
 |none=>
  have v:=j hk;have s:x= []:=eY v;have h:(N id).hdr=(⟨none,(N id).off,(N id).len,0,(N id).esz⟩:Nu).hdr:=by grind [Nu.hdr]
  have i:∀p q,(N id).vhdr p q=(⟨none,(N id).off,(N id).len,0,(N id).esz⟩:Nu).vhdr p q:=λp q=>by grind [Nu.vhdr]
  rw[h,i];exact PN r f o (by show(N id).esz=_;rw[g,l]) Ω y (λ_=>v) n m k
def Pp{o}{t}{x}{d c}{v}(b:o.op= .slice t x d c none)(h:(Instr.sliceAt t (a.eval x) (d.map a.eval) (c.map a.eval) none).run P w= .ok v w):(execOp a.eval o).run P w= .ok (.value v) w:=by
 grind [execOp,Sem.run_bind,Result.andThen_ok,Sem.run_pure]
def Wwm(W:bv P T)(K:Rel y F Q G0 G N S a w){o:Oper}(u:∀M,o.dst=some M->Q.Ok M){t et}{g}{te}{x}{V U}(O:o.op= .slice t x V U none)
  {id} {l h} {R} {k:St->Option R} {r} (A:ev S x=some (.s (.one (.own id)))) (v:look T t=some ⟨g,false,.slice et⟩) (i:look T et=some te) (z:te.plain=true) (p:j0 S V=some l) (q:j0 S U=some h)
  (s:rW S te.ty id l h (λx b c=>k (({env:=S.env,objs:=b,nx:=c}:St).put o.dst x))=some r):∃d,k d=some r/\Done P y F Q G0 o a w d:=by
 unfold rW at s;split at s
 .rename_i e L aS;split at s
  case isFalse=>simp at s
  rename_i C;cases hb:(bH (Xa L) l h).1 with
  |false=>simp_all
  |true=>
   simp only[hb,We]at s;refine⟨_,s,?_⟩;obtain⟨⟨j,E⟩,_⟩:=W2 K x _ A;obtain⟨J,f⟩:=K.h.obj aS;have B:=wO K V _ p;have D:=wO K U _ q;obtain⟨H,m,n⟩:=XQ (w:=w) f (W _ _ v).und.2.1 (W _ _ i) z (by rw[C,md]) B D hb;refine⟨_,_,w,G,N,Pp O Ψ,.inl rfl,K.put u ⟨⟨j,m,by rw[<-f.1];exact n,λI=>?_,rfl⟩,WyO _ _ _⟩⟩
   grind [Wvt]
 grind
def LL(n:Nu)(h):n.part 0 h=⟨n.blk,n.off,h,n.cap,n.esz⟩:=by
 unfold Nu.part;simp
def Tw(n:Nu)(h):n.vhdr 0 h=(⟨n.blk,n.off,h,n.cap,n.esz⟩:Nu).hdr:=by
 rw[<-LL,ZB]
def WtI(j:bv P T)(X:Rel y F Q G0 G N S a w){o:Oper}(A:∀R,o.dst=some R->Q.Ok R){t et}{f}{x}{d W}(D:o.op= .slice t x d W none)
  {id} {e} {c} {te} {h} (H:ev S x=some (.s (.one (.own id)))) (C:look T t=some ⟨f,false,.slice et⟩) (m:look T et=some te) (E:te.plain=true) (B:te.ty=e.ro) (Y:look S.objs id=some (.arr e c)) (p:j0 S d=some none) (g:j0 S W=some (some h))
  (U:0<=h) (V:h<=(c.length:Int)):Done P y F Q G0 o a w (({env:=S.env,objs:=(S.nx,.arr e (c.take h.toNat))::kill S.objs [id],nx:=S.nx+1}:St).put o.dst (.s (.one (.own S.nx)))):=by
 obtain⟨⟨L,u⟩,_⟩:=W2 X x _ H;obtain⟨s,l⟩:=X.h.obj Y;have J:=wO X d _ p;have K:=wO X W _ g;have z:(bH c.length none (some h)).1=true:=by simp[bH,U,V]
 obtain⟨i,M,O⟩:=XQ (w:=w) l (j _ _ C).und.2.1 (j _ _ m) E (by rw[B,md]) J K z;have q:(bH c.length none (some h)).2.1=0:=rfl;have r:(bH c.length none (some h)).2.2=h.toNat:=rfl;rw[q,r,Tw]at i;refine⟨_,_,w,G,upd N S.nx ((N id).part 0 h.toNat),Pp D (by rw[u];exact i),.inl rfl,?_⟩;have n:Live S.objs id:=⟨_,Y,Δ⟩;refine X.fresh A [id] (.arr e (c.take h.toNat)) _ (λv=>v id) _ _ (λv _=>WLe.refl _ w) (λv _ b o g=>.inl ⟨id,.inr (dq.2 rfl),n,g⟩) (λv I=>?_) ⟨⟨nq _,by rw[jf,LL]⟩,He _⟩;show az w (WL G w e) e.size (upd N S.nx ((N id).part 0 h.toNat) S.nx) (c.take h.toNat) (v id);rw[jf];have k:az w (WL G w e) e.size (N id) c (v id):=I.ob _ _ Y;have:=ZM (V:=0) (v:=h.toNat) k (Nat.zero_le _) (by rw[<-k.1];omega);simp_all
def Wlb(H:bv P T)(k:Rel y F Q G0 G N S a w){o:Oper}(hd:∀d,o.dst=some d->Q.Ok d){t et}{ty}{x}{lo hi}(ho:o.op= .slice t x lo hi none)
  {id i p} {e} {O} {te} {h} (hx:ev S x=some (.s (.one (.own id)))) (hl:look T t=some ⟨ty,false,.slice et⟩) (qa1:look T et=some te) (hp:te.plain=true) (he:te.ty=e.ro) (q:look S.objs id=some (.hole e O i p)) (xg:R8 (look S.objs p) e.size=true) (qa2:j0 S lo=some none) (c:j0 S hi=some (some h))
  (h0:0<=h) (h1:h<=(O.length:Int)) (h2:h<=(i:Int)):Done P y F Q G0 o a w (({env:=S.env,objs:=(S.nx,.arr e (O.take h.toNat))::kill S.objs [id,p],nx:=S.nx+1}:St).put o.dst (.s (.one (.own S.nx)))):=by
 obtain⟨⟨cr,W⟩,_⟩:=W2 k x _ hx;obtain⟨qa0,pQ,f⟩:=k.h.obj q;have l:∃C,look S.objs p=some (.box C)/\C.length=e.size:=by
  unfold R8 at xg
  grind [D8]
 obtain⟨pcs,l,X⟩:=l;have jE:=wO k lo _ qa2;have uj:=wO k hi _ c;have hb:(bH O.length none (some h)).1=true:=by simp[bH,h0,h1]
 obtain⟨k1,J,k3,b,K,k5,k6,k7,k8,k9,_⟩:=f;obtain⟨D,g2,g3⟩:=PN (w:=w) (d:=N id) (H _ _ hl).und.2.1 (H _ _ qa1) hp (by rw[J,he,md]) k7 k1 (λhn=>Ψ) jE uj hb;have U:(bH O.length none (some h)).2.1=0:=rfl;have V:(bH O.length none (some h)).2.2=h.toNat:=rfl;rw[U,V,Tw]at D;refine⟨_,_,w,G,upd N S.nx ((N id).part 0 h.toNat),Pp ho (by rw[W];exact D),.inl rfl,?_⟩;have A:Live S.objs id:=⟨_,q,Δ⟩;have L:Live S.objs p:=⟨_,l,Δ⟩;refine k.fresh hd [id,p] (.arr e (O.take h.toNat)) _ (λv b o=>v id b o\/v p b o) _ _ (λv _=>WLe.refl _ w) (λv _ b o c=>?_) (λv u=>?_) ⟨⟨nq _,by rw[jf,LL]⟩,He _⟩
 .rcases c with c|c
  .exact .inl ⟨id,.inr Δ,A,c⟩
  .exact .inl ⟨p,.inr Δ,L,c⟩
 .show az w (WL G w e) e.size (upd N S.nx ((N id).part 0 h.toNat) S.nx) (O.take h.toNat) _;rw[jf,LL];obtain⟨pQ,f⟩:p<S.nx/\qE w (WL G w e) e.size (N id) (N p) O i (v id):=u.ob _ _ q;obtain⟨_,_,_,B,n,k5',_,_,_,_,c1,c2,p1,p2,j1,j2,I,j4,j5,qa3⟩:=f;rw[K]at n;injection n with n;subst n;obtain⟨b2,vs,m,q2,q3,q4,qa4⟩:gy G N S.nx w p (v p) (.box pcs):=u.ob _ _ l;rw[k5]at m;injection m with m;subst m;rw[X,k6]at qa4;obtain⟨qa5,d2,z,r2,t1,t2,M,t4⟩:=GK _ _ _ h.toNat j1;rw[List.take_take,jB Ω]at M;have Y:=qa3 _ (Xg ..);have Z:=qa3 _ (Xe _ (Xg ..));obtain⟨s1,s2⟩:=Xz.1 j5;obtain⟨s3,s4⟩:=Xz.1 s2;have r:∀s∈z.map Pc.fp,s∈(p1++p2).map Pc.fp:=λs g=>Ψ
  have E:∀s∈z.map Pc.fp,CS.le s (v id):=λs g=>qa3 s (Xe _ (Xe _ (r s g)));have xh:∀b o,v id b o->v p b o->False:=λb o x1 x2=>by
   have:=u.inj id p b o A L x1 x2;simp_all
  refine⟨Φ,J,?_⟩;simp only[K];refine⟨Φ,k8,k9,qa5,z,M,by rw[t1]at I;exact I.left,Xz.2 ⟨λs g=>?_,?_⟩,λs g=>?_⟩
  .exactλB o R j=>(J1 (Ω:i<(N id).cap) (S:=λb o=>¬s b o) (λb o c j=>s1 s (Xe _ (r s g)) b o c j) (λb o c j=>xh b o (E s g b o j) (qa4 b o c)) (λb o c j=>s3 s (r s g) b o c j) B o R) j
  .grind
  .rcases Xr.1 g with rfl|g
   .exact J1 (Ω:i<(N id).cap) (λb o c=>.inl (Y b o c)) (λb o c=>.inr (qa4 b o c)) (λb o c=>.inl (Z b o c))
   .exactλb o c=>.inl (E s g b o c)
def WsP(V:bv P T)(B:Rel y F Q G0 G N S a w){o:Oper}(hd:∀d,o.dst=some d->Q.Ok d){c}{x}{t et}{ty}{te}{e}{k}{id j m}
  (ho:o.op= .call c) (l:c.callee= .builtin .clear) (X:c.args.toList= [x]) (R:c.argTypes.toList= [t]) (hx:ev S x=some (.s (.one (.vw id j m)))) (hl:look T t=some ⟨ty,false,.slice et⟩) (aO:look T et=some te)
  (I:look S.objs id=some (.arr e k)) (he:te.ty=e) (hp:te.plain=true) (r:e.data=true):
  Done P y F Q G0 o a w (({env:=S.env,objs:=(id,.arr e (k.take j++Xp (m-j) e.dflt++k.drop m))::S.objs,nx:=S.nx}:St).put o.dst (.tup [])):=by
 have Z:=(V _ _ hl).und.2.1;obtain⟨⟨cr,g1,g2,g3,hv⟩,_⟩:=W2 B x _ hx;obtain⟨v,D⟩:=B.h;have E:az w (WL G w e) e.size (N id) k (v id):=D.ob _ _ I;have O:Live S.objs id:=⟨_,I,Δ⟩;have uk:∀W,(Builtin.clear_ #[t] o.type #[a.eval x]).run P w= .ok (.tuple #[]) W->(execOp a.eval o).run P w= .ok (.value (.tuple #[])) W:=λW p=>by
  obtain⟨qa1,i,f⟩:=c;obtain⟨i⟩:=i;obtain⟨f⟩:=f;simp only at l X R;subst l X R;simp only[execOp,ho,resolve,invoke,builtin,Sem.run_bind,Sem.run_pure,Result.andThen_ok,Ee,bo,d6,p]
 have iu:∀W,(Builtin.clear_ #[t] o.type #[a.eval x]).run P w= .ok (.tuple #[]) W->HRel y F G N ((id,.arr e (k.take j++Xp (m-j) e.dflt++k.drop m))::S.objs) S.nx W->
   Done P y F Q G0 o a w (({env:=S.env,objs:=(id,.arr e (k.take j++Xp (m-j) e.dflt++k.drop m))::S.objs,nx:=S.nx}:St).put o.dst (.tup [])):=λW p hH=>
  ⟨_,_,W,G,N,uk W p,.inl rfl,(B.on (λ_ _ _ q=>q) (λ_ _=>rfl) (Xj _) hH B.gx).put hd ⟨[],rfl,rfl,λqa2 x qa0 hj=>by simp at hj⟩⟩
 by_cases h0:m-j=0
 .have xi:m=j:=Ω
  have e1:k.take j++Xp (m-j) e.dflt++k.drop m=k:=by
   simp_all
  refine iu w ?_ ?_
  .rw[hv];unfold Nu.vhdr;rw[h0];cases(N id).blk<;>simp[Builtin.clear_,Wt Z]
  .rw[e1];exact⟨_,D.put (m:=[]) (x:=N) (λ_ _=>rfl) (Xj _) (D.lt id O) (WLe.refl _ w) (λb o q=>.inl ⟨id,.inl rfl,O,q⟩) (λ_=>E)⟩
 .cases cb:(N id).blk with
  |none=>simp_all
  |some b=>
   obtain⟨lL,h,h5,⟨g,TT,M,ae⟩,J,L,h8,U⟩:=J5 r E cb;obtain⟨z,hz,K⟩:=Dr (w:=w) (V _ _ aO);rw[zo hp,he]at K;have jG:z.cells.size=e.size:=by rw[<-kj,K,rI]
   have qa3:=E.2.1;have bQ:J.length=k.length*e.size:=zO (λx c l=>fi e x c l) _ _ L;have s:(Builtin.zeroCells z.cells (m-j)).toList=rep (ew e) (m-j):=by rw[<-K];exact GT z.cells (m-j)
   have A:(rep (ew e) (m-j)).length=(m-j)*e.size:=by rw[Lt,rI]
   have xj:j*e.size+(m-j)*e.size=m*e.size:=by rw[<-o5];congr 1;omega
   have wD:m*e.size<=k.length*e.size:=lu _ Ω;have Am:k.length*e.size<=(N id).cap*e.size:=lu _ h;have fY:∀u∈rep (ew e) (m-j),u.oneCell'=true:=WsI (G:=G) _ _ (DH r (m-j));have H:=run_storeCells_at P b ((N id).off+j*e.size) TT (rep (ew e) (m-j)) 0 g w M (by rw[A];omega) fY;simp only[gJ]at H;obtain⟨C,Y⟩:=Gl (k:=(N id).off+j*e.size) (e:=rep (ew e) (m-j)) M (by rw[A];omega);have p:(Builtin.clear_ #[t] o.type #[a.eval x]).run P w= .ok (.tuple #[]) (w.setRow b (g.toList.take ((N id).off+j*e.size)++rep (ew e) (m-j)++g.toList.drop ((N id).off+j*e.size+(rep (ew e) (m-j)).length)).toArray):=by
    rw[hv];unfold Nu.vhdr;simp only[cb,qa3];rw[Wa Ω];obtain⟨n,hn⟩:∃n,m-j=n+1:=⟨m-j-1,Ω⟩;simp only[Builtin.clear_,Sem.run_bind,Wt Z,Result.andThen_ok,List.getElem?_toArray,H0];rw[hn]at H s|-;simp only[Sem.run_bind,hz,Result.andThen_ok,s,H,Sem.run_pure]
   generalize w.setRow b (g.toList.take ((N id).off+j*e.size)++rep (ew e) (m-j)++g.toList.drop ((N id).off+j*e.size+(rep (ew e) (m-j)).length)).toArray=W at p C Y;refine iu W p (D.turn (m:=[]) I Δ C (λb' o ⟨k0,k1,k2⟩=>U b' o ⟨k0,Ω,Ω⟩) ?_);have pW:(k.take j++Xp (m-j) e.dflt++k.drop m).length=k.length:=Φ
   have iQ:da (Enc G e) (k.take j++Xp (m-j) e.dflt++k.drop m) (J.take (j*e.size)++rep (ew e) (m-j)++J.drop (m*e.size)):=
    I5 _ _ _ _ (I5 _ _ _ _ (GI (λx c l=>fi e x c l) _ _ j L) (DH r _)) (GG (λx c l=>fi e x c l) _ _ m L)
   refine XL r cb (by rw[pW];exact lL) qa3 (by rw[pW];exact h) h5 (C.rows.row _ _ ⟨g,TT,M,ae⟩) iQ ?_ (λb o q=>.inl (U b o q));have:=JN h8 C Y (by rw[A];omega);rw[A,xj]at this;exact this
end
def ng(G:GH)(w:World)(t:Ty)(a:Bool)(d:t.den)(v:Value)(b:List Pc):Prop:=
 if a then∃c:List Value,v= .agg c.toArray/\WL G w t d c b else WL G w t d [v] b
def fA(b o:Nat):Nu:=⟨some b,o,0,0,0⟩
def rT(G:GH)(w:World)(t:Ty)(d:t.den)(b o:Nat)(c:List Pc):Prop:=∃a,Row w b (o+t.size)/\Mem w b o a/\WL G w t d a c
def fps(a:List Pc):List CS:=a.map Pc.fp
def nus(a:List Pc):List Nu:=a.map Pc.nu
def mc(G:GH)(w:World):(f:List PTy)->gR f->List Value->List Pc->List Nu->Prop
 | [],_,h,c,ks=>h= []/\c= []/\ks= []
 | .v t agg::f,d,h,c,ks=>∃v a l i,h=v::a/\c=l++i/\ng G w t agg d.1 v l/\mc G w f d.2 a i ks
 | .box t::f,d,h,c,ks=>∃b o a l i m,h= .pointer (some ⟨b,o,none⟩)::a/\c=⟨fA b o,rng b o t.size⟩::(l++i)/\ks=fA b o::m/\rT G w t d.1 b o l/\mc G w f d.2 a i m
 | .mut e::f,d,h,c,ks=>∃j a i m,h=j.nu.hdr::a/\c=j::i/\ks=j.nu::m/\az w (WL G w e) e.size j.nu d.1 j.fp/\mc G w f d.2 a i m
 | .clos g n::f,d,h,c,ks=>∃k a:List Value,h= .func (.func g) #[] k.toArray::a/\k.length=n/\(∀u∈k,u.oneCell'=true)/\mc G w f d (k++a) c ks
 | .rp t::f,d,h,c,ks=>∃b o q a,h= .pointer (some ⟨b,o,none⟩)::a/\Enc G t d.1 q/\sf G b o q/\mc G w f d.2 a c ks
 | .vj _::_,_,_,_,_=>False
 | .boxal t lf::f,d,h,c,ks=>∃b o p j a l i m,h= .pointer (some ⟨b,o,none⟩):: .pointer (some ⟨p,j.nu.off+(d.2.1*j.nu.esz+0),none⟩)::a/\c=⟨fA b o,rng b o t.size⟩::(l++i)/\ks=fA b o::m/\
   rT G w t d.1 b o l/\l[lf]?=some j/\j.nu.blk=some p/\d.2.1<j.nu.len/\mc G w f d.2.2 a i m
def m6(G:GH)(w:World):(f:List PTy)->hQ f->List Nu->List CS->List Pc->Prop
 | [],_,d,c,ns=>d= []/\c= []/\ns= []
 | .v _ _::f,o,d,c,ns=>m6 G w f o d c ns
 | .box t::f,o,d,c,ns=>∃b a g h i j,d=fA b a::g/\c=rng b a t.size::h/\ns=i++j/\rT G w t o.1 b a i/\m6 G w f o.2 g h j
 | .mut e::f,o,d,c,ns=>∃k:Pc,∃g h,d=k.nu::g/\c=k.fp::h/\az w (WL G w e) e.size k.nu o.1 k.fp/\m6 G w f o.2 g h ns
 | .clos _ _::f,o,d,c,ns=>m6 G w f o d c ns
 | .rp _::f,o,d,c,ns=>m6 G w f o d c ns
 | .vj _::_,_,_,_,_=>False
 | .boxal t _::f,o,d,c,ns=>∃b a g h i j,d=fA b a::g/\c=rng b a t.size::h/\ns=i++j/\rT G w t o.1 b a i/\m6 G w f o.2 g h j
def uU(G:GH)(w:World):(f:List PTy)->iO f->List Value->List Pc->Prop
 | [],_,g,ns=>g= []/\ns= []
 | .v t agg::f,d,g,ns=>∃v a c e,g=v::a/\ns=c++e/\ng G w t agg d.1 v c/\uU G w f d.2 a e
 | .box t::f,d,g,ns=>∃b o a c e,g= .pointer (some ⟨b,o,none⟩)::a/\ns=⟨fA b o,rng b o t.size⟩::(c++e)/\rT G w t d.1 b o c/\uU G w f d.2 a e
 | .mut _::_,_,_,_=>False
 | .clos _ _::_,_,_,_=>False
 | .rp _::_,_,_,_=>False
 | .vj t::f,d,g,ns=>∃h u a c e,g= .agg (h++ [u]).toArray::a/\u.oneCell'=true/\ns=c++e/\WL G w t d.1 h c/\uU G w f d.2 a e
 | .boxal _ _::_,_,_,_=>False
def Az:List Value->Value
 | [v]=>v
 |a=>.tuple a.toArray
def Of(a:List Pc):CS:=λb o=>∃q∈a,q.fp b o
structure After(sg:Sig)(o:hQ sg.ps×iO sg.rs)(G:GH)(w:World)(ns:List Pc)(ks:List Nu)(e:List Value)(kf:List CS)(f dM:List Pc)(c:GH)(d:World):Prop where
 res:uU c d sg.rs o.2 e dM
 outs:m6 c d sg.ps o.1 ks kf f
 sep:Sep (kf++fps (f++dM))
 own:∀S∈kf++fps (f++dM),∀b a,S b a->c b a=none/\(Of ns b a\/w.heap.size<=b)/\b<d.heap.size
 gx:GExt w.heap.size (Of ns) G c
 g:∀b o v,c b o=some v->d.cell? ⟨b,o,none⟩=some v
 le:WLe (Of ns) w d
def zl(P:Program)(k:FuncId)(m:Sig):Prop:=
 ∀(d:gR m.ps) (o:hQ m.ps×iO m.rs),m.run d=some o->∀(G:GH) (w:World) (n:List Value) (f:List Pc) (g:List Nu),mc G w m.ps d n f g->Sep (fps f)->
  (∀q∈f,∀b c,q.fp b c->G b c=none/\b<w.heap.size)->(∀b o v,G b o=some v->w.cell? ⟨b,o,none⟩=some v)->
  Calls P k n.toArray w λe a=>∃h j l i p,e= .returned (Az h)/\After m o G w f g h j l i p a
def G5(P:Program)(k:FuncId):Prop:=∃a,P.funcs[k]?=some a∧a.body.isNone=false∧(a.name== "runtime.NumGoroutine")=false
def ji(P:Program)(a:Ctx):Prop:=∀k b,look a k=some b->zl P k b/\G5 P k
section
variable{d:World}{F:CS}{e:Slots}{h G Z:GH}{N:Nat->Nu}{U:Nat->CS}{b:ai}{Q:Nat}{c f:St}{a:Act}{w g:World}{P:Program}{T:Tab}
def pl:∀(t) (d) (Q),(unfold t d Q).2.2=Q+t.owns
 | .prod a b,d,Q=>by simp only[unfold,pl a,pl b,Ty.owns,gU]
 | .own _,_,_=>rfl
 | .int _,_,_| .bool,_,_| .slice _,_,_=>rfl
theorem tT{a:Type}{l m}{i}{x:a}(h:look (l++m) i=some x):look l i=some x\/look m i=some x:=by
 rw[Pd]at h
 grind
def At(N:Nat->Nu)(U:Nat->CS)(Q:Nat)(b:List Pc):Prop:=∀(j:Nat) (a:Pc),b[j]?=some a->N (Q+j)=a.nu/\U (Q+j)=a.fp
def At.left{c n2}(h:At N U Q (c++n2)):At N U Q c:=λj a b=>h j a Θ
def At.right{d n2}{k}(h:At N U Q (d++n2))(c:d.length=k):At N U (Q+k) n2:=λj a b=>by
 have:=h (k+j) a Θ
 grind
def DY(G:GH)(N:Nat->Nu)(U:Nat->CS)(w:World)(a:Nat)(b:Ob):Prop:=∃(e:Ty) (c:List e.den),b= .arr e c/\az w (WL G w e) e.size (N a) c (U a)
def pf:∀(t) (D) (Q) (d) (c),WL G w t D d c->At N U Q c->
  (∀(h),Q+t.owns<=h->CellsRel G N h (unfold t D Q).1 d)/\
  (∀b f,look (unfold t D Q).2.1 b=some f->Q<=b/\b<Q+t.owns/\DY G N U w b f)
 | .own e,D,Q,d,c,⟨j,l,g,i⟩,hν=>by
  obtain⟨u,A⟩:N Q=j.nu/\U Q=j.fp:=by have:=hν 0 j Θ;omega
  refine⟨λh m=>?_,λb f a=>?_⟩
  .rw[g];refine CellsRel.one ⟨by grind [Ty.owns],by rw[u]⟩ (He _)
  .simp only[unfold]at a;rw[WZ]at a;split at a
   .rename_i e1;subst e1;injection a with a;subst a;exact⟨Xj _,by simp[Ty.owns],e,D,rfl,Ψ⟩
   .simp[look]at a
 | .prod p q,D,Q,d,c,⟨y,z,v,x,l,g,i,s⟩,hν=>by
  subst g;have r:=pi p _ _ _ i;obtain⟨n,B⟩:=pf p D.1 Q y v i hν.left;obtain⟨o,C⟩:=pf q D.2 (Q+p.owns) z x s (hν.right r);refine⟨λh m=>?_,λb f a=>?_⟩
  .simp only[Ty.owns]at m;simp only[unfold,pl];rw[l];exact(n h Ω).append (o h Ω)
  .simp only[unfold,pl]at a
   grind [Ty.owns,tT]
 | .int k,D,Q,d,c,E,_=>⟨λh _=>pm (.int k) D d E.2,λb f a=>by simp[unfold,look]at a⟩
 | .bool,D,Q,d,c,E,_=>⟨λh _=>pm .bool D d E.2,λb f a=>by simp[unfold,look]at a⟩
 | .slice e,D,Q,d,c,E,_=>⟨λh _=>pm (.slice e) D d E.2,λb f a=>by simp[unfold,look]at a⟩
def zw:∀(t) (d) (Q),(unfold t d Q).1.length=t.size
 | .prod a b,d,Q=>by simp only[unfold,bX,zw a,zw b,Ty.size]
 | .own _,_,_| .int _,_,_| .bool,_,_| .slice _,_,_=>rfl
def ZP{t}{agg}{d}{v}{ns}{Q h}(j:ng G w t agg d v ns)(e:At N U Q ns)(b:Q+t.owns<=h):
  AvRel G N h (IX agg (unfold t d Q).1) v:=by
 unfold ng at j;unfold IX;cases agg with
 |true=>
  simp only[gp]at j|-;obtain⟨f,rfl,j⟩:=j;exact⟨f,rfl,(pf t d Q f ns j e).1 h b⟩
 |false=>
  simp only[my,jN]at j|-;have a:=(pf t d Q [v] ns j e).1 h b;have i:=a.1;generalize (unfold t d Q).1=g at*
  match g,i with
  | [c],_=>exact a.2 0 c v rfl rfl
def Wxl{t}{agg}{d}{v}{ns}(h:ng G w t agg d v ns):∃a,WL G w t d a ns:=by
 grind [ng]
def KeptBox(b:ai)(N:Nat->Nu)(e:List (Nat×CS))(t:Ty)(k:Kp)(d:Nu):Prop:=
 ∃a c,look b k.id=some (.box a)/\k.off+t.size<=a.length/\(N k.id).blk=some c/\d=fA c ((N k.id).off+k.off)/\(k.id,rng c ((N k.id).off+k.off) t.size)∈e
def KeptOk(b:ai)(N:Nat->Nu)(i:List (Nat×CS)):List PTy->List Kp->List Nu->Prop
 | [],a,ks=>a= []/\ks= []
 | .v _ _::ps,a,ks=>KeptOk b N i ps a ks
 | .box t::ps,a,ks=>∃k c d h,a=k::c/\ks=d::h/\KeptBox b N i t k d/\KeptOk b N i ps c h
 | .mut e::ps,a,ks=>∃(f:Nat) (c:List Kp) (h:List Nu) (g:List e.den),a=⟨f,0⟩::c/\ks=N f::h/\look b f=some (.arr e g)/\KeptOk b N i ps c h
 | .clos _ _::ps,a,ks=>KeptOk b N i ps a ks
 | .rp _::ps,a,ks=>KeptOk b N i ps a ks
 | .vj _::_,_,_=>False
 | .boxal t _::ps,a,ks=>∃k c d h,a=k::c/\ks=d::h/\KeptBox b N i t k d/\KeptOk b N i ps c h
def KeptBox.mono{i bx'}{t}{k}{e}(m:∀p∈i,p∈bx')(h:KeptBox b N i t k e):KeptBox b N bx' t k e:=by
 obtain⟨a,j,c,d,l,f,g⟩:=h;exact⟨a,j,c,d,l,f,m _ g⟩
def KeptOk.mono{i bx'}(f:∀p∈i,p∈bx'):∀(ps) (a) (o),KeptOk b N i ps a o->KeptOk b N bx' ps a o
 | [],_,_,h=>h
 | .v _ _::ps,a,o,h=>KeptOk.mono f ps a o h
 | .box t::ps,a,o,⟨k,d,m,c,g,q,j,l⟩=>⟨k,d,m,c,g,q,j.mono f,KeptOk.mono f ps d c l⟩
 | .mut e::ps,a,o,⟨id,d,c,n,g,q,j,l⟩=>⟨id,d,c,n,g,q,j,KeptOk.mono f ps d c l⟩
 | .clos _ _::ps,a,o,h=>KeptOk.mono f ps a o h
 | .rp _::ps,a,o,h=>KeptOk.mono f ps a o h
 | .vj _::_,_,_,h=>h.elim
 | .boxal t _::ps,a,o,⟨k,d,m,c,g,q,j,l⟩=>⟨k,d,m,c,g,q,j.mono f,KeptOk.mono f ps d c l⟩
def Lw(G:GH)(N:Nat->Nu)(w:World)(g:ai)(i:List (Nat×CS))(h c:Nat)(S:CS)(l:Ob):Prop:=
 (∃f a k b m,look g c=some (.box f)/\l= .box (py f a k)/\a+k.length<=f.length/\(N c).blk=some b/\Mem w b ((N c).off+a) m/\CellsRel G N h k m/\
  S=rng b ((N c).off+a) k.length/\(c,rng b ((N c).off+a) k.length)∈i)\/
 (∃(e:Ty) (j d:List e.den),look g c=some (.arr e j)/\l= .arr e d/\az w (WL G w e) e.size (N c) d S)
def kids(l:List Kp):List Nat:=l.map Kp.id
def zr(bI){W}:∀(ps) (o) (a) (f) (d) (c) (b:ai) (Q R),m6 G w ps o f d c->KeptOk bI N W ps a f->At N U Q c->
  (kids a).Nodup->(∀k∈a,k.id<Q/\look b k.id=look bI k.id)->Q+c.length<=R->
  (gN ps o a b Q).2=Q+c.length/\d.length=a.length/\
  ∀m u,look (gN ps o a b Q).1 m=some u->(Q<=m/\m<Q+c.length/\DY G N U w m u)\/(∃(j:Nat) (S:CS),(kids a)[j]?=some m/\d[j]?=some S/\Lw G N w bI W R m S u)\/(look b m=some u/\m∉kids a)
 | [],o,a,f,d,c,b,Q,R,⟨_,r,s⟩,l,_,_,_,_=>by subst r s;obtain⟨l,_⟩:=l;subst l;exact⟨rfl,rfl,λm u E=>.inr (.inr ⟨E,by simp[kids]⟩)⟩
 | .v _ _::ps,o,a,f,d,c,b,Q,R,h,l,q,p,n,hx=>zr bI ps o a f d c b Q R h l q p n hx
 | .box t::ps,o,a,f,d,c,b,Q,R,⟨v,x,y,z,F,H,r,s,B,D,C⟩,l,q,p,n,hx=>putOuts_box bI t ps o.1 o.2 a f d c b Q R (λa f d c b Q R=>zr bI ps o.2 a f d c b Q R) ⟨v,x,y,z,F,H,r,s,B,D,C⟩ l q p n hx
 | .vj _::_,_,_,_,_,_,_,_,_,h,_,_,_,_,_=>h.elim
 | .boxal t _::ps,o,a,f,d,c,b,Q,R,⟨v,x,y,z,F,H,r,s,B,D,C⟩,l,q,p,n,hx=>putOuts_box bI t ps o.1 o.2 a f d c b Q R (λa f d c b Q R=>zr bI ps o.2 a f d c b Q R) ⟨v,x,y,z,F,H,r,s,B,D,C⟩ l q p n hx
 | .mut e::ps,o,a,f,d,c,b,Q,R,⟨Y,y,z,r,s,B,qa7⟩,l,q,p,n,hx=>by
  obtain⟨m,qa1,BC,ys,rfl,I,P,qa2⟩:=l;rw[r]at I;simp only[List.cons.injEq]at I;obtain⟨qa0,rfl⟩:=I;subst s;have K:=dH.1 p;obtain⟨qa4,qa3,T⟩:=zr bI ps o.2 qa1 y z c ((m,.arr e o.1)::b) Q R qa7 qa2 q K.2 (λk Z=>by
   obtain⟨L,M⟩:=n k (Xe _ Z);have J:m≠k.id:=λe=>K.1 Θ;simp_all [WZ,Wa]) hx
  simp only[gN];refine⟨qa4,by simp[qa3],λi u E=>?_⟩;rcases T i u E with g|⟨j,S,L,M,qa5⟩|⟨g,qa6⟩
  .grind
  .exact .inr (.inl ⟨j+1,S,L,M,qa5⟩)
  .rw[WZ]at g;split at g
   .rename_i e3;subst e3;injection g with g;subst g;exact .inr (.inl ⟨0,Y.fp,rfl,rfl,.inr ⟨e,ys,o.1,P,rfl,Ψ⟩⟩)
   .rename_i J;exact .inr (.inr ⟨g,λA=>by rcases Xr.1 A with A|A;exact J A.symm;exact qa6 A⟩)
 | .clos _ _::ps,o,a,f,d,c,b,Q,R,h,l,q,p,n,hx=>zr bI ps o a f d c b Q R h l q p n hx
 | .rp _::ps,o,a,f,d,c,b,Q,R,h,l,q,p,n,hx=>zr bI ps o a f d c b Q R h l q p n hx
where
 putOuts_box (bI:ai) {W:List (Nat×CS)} (t:Ty) (ps:List PTy) (o1:t.den) (o2:hQ ps) (ids:List Kp) (ks:List Nu) (kf:List CS) (X:List Pc) (b:ai) (Q R:Nat)
   (ih:∀(ids:List Kp) (ks:List Nu) (kf:List CS) (X:List Pc) (b:ai) (Q R:Nat),m6 G w ps o2 ks kf X->KeptOk bI N W ps ids ks->At N U Q X->
    (kids ids).Nodup->(∀k∈ids,k.id<Q/\look b k.id=look bI k.id)->Q+X.length<=R->
    (gN ps o2 ids b Q).2=Q+X.length/\kf.length=ids.length/\
    ∀id ob,look (gN ps o2 ids b Q).1 id=some ob->(Q<=id/\id<Q+X.length/\DY G N U w id ob)\/(∃(j:Nat) (S:CS),(kids ids)[j]?=some id/\kf[j]?=some S/\Lw G N w bI W R id S ob)\/(look b id=some ob/\id∉kids ids))
   (h:∃v O aZ fZ V n2,ks=fA v O::aZ/\kf=rng v O t.size::fZ/\X=V++n2/\rT G w t o1 v O V/\m6 G w ps o2 aZ fZ n2)
   (hk:∃k bK nu aZ,ids=k::bK/\ks=nu::aZ/\KeptBox bI N W t k nu/\KeptOk bI N W ps bK aZ) (hν:At N U Q X)
   (hn:(kids ids).Nodup) (hi:∀k∈ids,k.id<Q/\look b k.id=look bI k.id) (hx:Q+X.length<=R):
   (gN (.box t::ps) (o1,o2) ids b Q).2=Q+X.length/\kf.length=ids.length/\
   ∀id ob,look (gN (.box t::ps) (o1,o2) ids b Q).1 id=some ob->(Q<=id/\id<Q+X.length/\DY G N U w id ob)\/(∃(j:Nat) (S:CS),(kids ids)[j]?=some id/\kf[j]?=some S/\Lw G N w bI W R id S ob)\/(look b id=some ob/\id∉kids ids):=by
  obtain⟨v,O,aZ,fZ,V,n2,h1,h2,h3,⟨us,_,aA,jW⟩,h5⟩:=h;obtain⟨k,bK,nu,BC,rfl,nS,⟨nR,b0,bZ,df,cb,nT,xk⟩,cI⟩:=hk;rw[h1]at nS;simp only[List.cons.injEq]at nS;obtain⟨wB,rfl⟩:=nS;rw[nT]at wB;unfold fA at wB;injection wB with xl BD;injection xl with xl;subst xl BD h2 h3;have cP:=pi t _ _ _ jW;have aa:(V++n2).length=t.owns+n2.length:=by rw[bX,cP]
  obtain⟨c1,Ao⟩:=pf t o1 Q us V jW hν.left;have bu:=dH.1 hn;obtain⟨oQ,jr⟩:=hi k (Xg ..);have eD:=zw t o1 Q;have iq:xI (look b k.id) k.off (unfold t o1 Q).1= .box (py nR k.off (unfold t o1 Q).1):=by rw[jr,bZ];rfl
  obtain⟨e1,el,e2⟩:=ih bK aZ fZ n2 ((k.id,xI (look b k.id) k.off (unfold t o1 Q).1)::((unfold t o1 Q).2.1++b)) (Q+t.owns) R h5 cI (hν.right cP) bu.2 (λk' wE=>by
   obtain⟨g1,g2⟩:=hi k' (Xe _ wE);refine⟨Ω,?_⟩;rw[WZ,Wa (λe=>bu.1 (by rw[e];exact ju wE)),Pd];cases hq:look (unfold t o1 Q).2.1 k'.id with
   |none=>exact g2
   |some ob=>have:=(Ao _ ob hq).1;omega) Ω
  simp only[gN,pl];refine⟨by rw[e1,aa];omega,by simp[el],λi ob hl=>?_⟩;rcases e2 i ob hl with⟨g1,g2,g3⟩|⟨j,S,g1,g2,g3⟩|⟨g,gn⟩
  .exact .inl ⟨Ω,Ω,g3⟩
  .exact .inr (.inl ⟨j+1,S,g1,g2,g3⟩)
  .rw[WZ]at g;split at g
   .rename_i e3;subst e3;injection g with g;rw[iq]at g;subst g;refine .inr (.inl ⟨0,_,rfl,rfl,.inl ⟨nR,k.off,_,_,us,bZ,rfl,by rw[eD];exact df,cb,aA,c1 R Ω,by rw[eD],by rw[eD];exact xk⟩⟩)
   .rename_i ar;rcases tT g with g|g
    .obtain⟨g1,g2,g3⟩:=Ao i ob g;exact .inl ⟨g1,Ω,g3⟩
    .exact .inr (.inr ⟨g,λhm=>by rcases Xr.1 hm with hm|hm;exact ar hm.symm;exact gn hm⟩)
def TF(G:GH)(N:Nat->Nu)(U:Nat->CS)(w:World)(f a:Nat)(d:Ob):Prop:=
 DY G N U w a d\/∃c b e,d= .box c/\(N a).blk=some b/\Row w b ((N a).off+c.length)/\Mem w b (N a).off e/\CellsRel G N f c e/\CS.le (rng b (N a).off c.length) (U a)
def JC:∀(rs) (d) (e) (p) (b) (Q V),uU G w rs d e p->At N U Q p->Q+p.length<=V->
  (iy rs d b Q).2.2=Q+p.length/\
  (∀n f,look (iy rs d b Q).2.1 n=some f->(Q<=n/\n<Q+p.length/\TF G N U w V n f)\/look b n=some f)/\
  RR G N V (iy rs d b Q).1 e
 | [],d,e,p,b,Q,V,⟨s,y⟩,_,_=>by subst s y;exact⟨rfl,λn f z=>.inr z,rfl,λj x v a=>by simp[iy]at a⟩
 | .v t agg::rs,d,e,p,b,Q,V,⟨v,C,W,k,s,y,K,O⟩,m,hx=>by
  subst y;obtain⟨B,T⟩:=Wxl K;have q:=pi _ _ _ _ T;have D:(W++k).length=t.owns+k.length:=by rw[bX,q]
  obtain⟨_,M⟩:=pf t d.1 Q B W T m.left;obtain⟨E,F,H,I⟩:=JC rs d.2 C k ((unfold t d.1 Q).2.1++b) (Q+t.owns) V O (m.right q) Ω;simp only[iy,pl];refine⟨by rw[E,D];omega,λi f z=>?_,?_⟩
  .rcases F i f z with⟨r,J,l⟩|g
   .exact .inl ⟨Ω,Ω,l⟩
   .rcases tT g with g|g
    .obtain⟨r,J,l⟩:=M i f g;exact .inl ⟨r,Ω,.inl l⟩
    .exact .inr g
  .rw[s];refine⟨by simp[H],λj x u a A=>?_⟩;cases j with
   |zero=>simp at a A;subst a A;exact ZP K m.left Ω
   |succ j=>exact I j x u (by simpa using a) (by simpa using A)
 | .box t::rs,d,e,p,b,Q,V,⟨Y,o,C,W,k,s,y,⟨B,ae,qa2,S⟩,qa4⟩,m,hx=>by
  subst y;have q:=pi _ _ _ _ S;have D:((⟨fA Y o,rng Y o t.size⟩:Pc)::(W++k)).length=1+t.owns+k.length:=by rw[List.length_cons,bX,q];omega
  obtain⟨c,qa0⟩:N Q=fA Y o/\U Q=rng Y o t.size:=by have:=m 0 _ rfl;simpa using this
  have L:At N U (Q+1) (W++k):=m.right (d:=[⟨fA Y o,rng Y o t.size⟩]) rfl;obtain⟨Z,M⟩:=pf t d.1 (Q+1) B W S L.left;obtain⟨E,F,H,I⟩:=JC rs d.2 C k ((Q,.box (unfold t d.1 (Q+1)).1)::((unfold t d.1 (Q+1)).2.1++b)) (Q+1+t.owns) V qa4 (L.right q) Ω;have R:=zw t d.1 (Q+1);simp only[iy,pl];refine⟨by rw[E,D];omega,λn f z=>?_,?_⟩
  .rcases F n f z with⟨r,J,l⟩|g
   .exact .inl ⟨Ω,Ω,l⟩
   .rw[WZ]at g;split at g
    .rename_i qa1;subst qa1;injection g with g;subst g;refine .inl ⟨Xj _,Ω,.inr ⟨_,Y,B,rfl,by rw[c];rfl,?_,?_,Z V Ω,?_⟩⟩
     .rw[c,R];exact ae
     .rw[c];exact qa2
     .rw[c,R,qa0];exactλ_ _ X=>X
    .rcases tT g with g|g
     .obtain⟨r,J,l⟩:=M n f g;exact .inl ⟨Ω,Ω,.inl l⟩
     .exact .inr g
  .rw[s];refine⟨by simp[H],λj x u a A=>?_⟩;cases j with
   |zero=>
    simp at a A;subst a A;exact⟨⟨Ω,Y,by rw[c];rfl,by rw[c];rfl⟩,rfl⟩
   |succ j=>exact I j x u (by simpa using a) (by simpa using A)
 | .mut _::_,_,_,_,_,_,_,h,_,_=>h.elim
 | .clos _ _::_,_,_,_,_,_,_,h,_,_=>h.elim
 | .rp _::_,_,_,_,_,_,_,h,_,_=>h.elim
 | .vj t::rs,d,e,p,b,Q,V,⟨B,u,C,W,k,s,qa3,y,K,O⟩,m,hx=>by
  subst y;have q:=pi _ _ _ _ K;have D:(W++k).length=t.owns+k.length:=by rw[bX,q]
  obtain⟨Z,M⟩:=pf t d.1 Q B W K m.left;obtain⟨E,F,H,I⟩:=JC rs d.2 C k ((unfold t d.1 Q).2.1++b) (Q+t.owns) V O (m.right q) Ω;simp only[iy,pl];refine⟨by rw[E,D];omega,λi f z=>?_,?_⟩
  .rcases F i f z with⟨r,J,l⟩|g
   .exact .inl ⟨Ω,Ω,l⟩
   .rcases tT g with g|g
    .obtain⟨r,J,l⟩:=M i f g;exact .inl ⟨r,Ω,.inl l⟩
    .exact .inr g
  .rw[s];refine⟨by simp[H],λj x v a P=>?_⟩;cases j with
   |zero=>simp at a P;subst a P;exact⟨B++ [u],rfl,(Z V Ω).append (CellsRel.one trivial qa3)⟩
   |succ j=>exact I j x v (by simpa using a) (by simpa using P)
 | .boxal _ _::_,_,_,_,_,_,_,h,_,_=>h.elim
def WwA{e}{d}(h:RR G N Q e d):AValRel G N Q (TP e) (Az d):=by
 obtain⟨a,b⟩:=h
 match e,d,a with
 | [],[],_=>exact⟨[],rfl,rfl,λj x v c=>by simp at c⟩
 | [x],[v],_=>exact b 0 x v rfl rfl
 |x::y::e,v::u::d,a=>exact⟨v::u::d,rfl,a,b⟩
end
theorem nN(i):∀l:List Nat,gc i l=true↔i∈l
 | []=>by simp[gc]
 |j::l=>by
  simp only[gc,sH,nN i l,Xr];rw[show(Nat.beq i j=true)=(i=j)from by simp]
def JK:∀l:List Nat,iE l=true↔l.Nodup
 | []=>by simp[iE]
 |i::l=>by
  have h:=nN i l;simp only[iE,Xl,hU,dH,JK l]
  grind
def Yo{l m}(h:oT l m=true):∀i∈l,i∉m:=λi a b=>by
 grind [oT,cS,nN]
section
variable{w0:World}{F:CS}{c:Slots}{g G G':GH}{X:Nat->Nu}{Z:Nat->CS}{e:ai}{nx:Nat}{b d:St}{a:Act}{w f:World}{P:Program}{T:Tab}
def WvH(h:HR w0 F G X Z e nx w){t}{agg}{x}{v}{c}{d}{m l}(o:GLe G G')(k:AValRel G X nx x v)(q:Lent G' w Z e l)(r:m.Nodup)
  (a:cellsOf agg x=some c) (n:d9 t c e=some (d,m,l)):∃b,ng G' w t agg d v b/\Sep (fps b)/\(∀p∈b,CS.le p.fp (FromL Z e m))/\(∀i∈m,Live e i)/\(∀i∈l,Live e i):=by
 unfold cellsOf at a;split at a
 .split at a
  .cases a
  .rename_i A ha;injection a with a;subst a;obtain⟨b,u,z,f,g,j,_⟩:=lS h o t [A] [v] d m l (CellsRel.one k.1 k.2) q r n;refine⟨b,?_,z,f,g,j⟩;simp_all [ng,Wa]
 .split at a
  .rename_i ds ha;injection a with a;subst a;obtain⟨y,rfl,s⟩:=k;obtain⟨b,u,z,f,g,j,_⟩:=lS h o t ds y d m l s q r n;refine⟨b,?_,z,f,g,j⟩;unfold ng;simp_all
  .cases a
 .cases a
def pcs(X:Nat->Nu)(Z:Nat->CS)(m:List Nat):List Pc:=m.map λi=>⟨X i,Z i⟩
def Tk(Z:Nat->CS)(e:ai)(a:List (Nat×CS))(l:List Nat):CS:=λb o=>∃i∈l,Live e i/\Z i b o/\∀p∈a,p.1=i->p.2 b o
structure AOk(G':GH)(X:Nat->Nu)(Z:Nat->CS)(e:ai)(w:World)(ps:List PTy)(A:Args ps)(a:List Value)(ns:List Pc)(ks:List Nu)(bx:List (Nat×CS)):Prop where
 args:mc G' w ps A.d a ns ks
 kept:KeptOk e X bx ps A.kept ks
 sep:Sep (fps ns)
 tk:∀q∈ns,CS.le q.fp (Tk Z e bx A.all)
 bx:∀p∈bx,p.1∈A.all
 live:∀i∈A.all,Live e i
 lent:∀i∈A.lent,Live e i
 mv:∀i∈A.moved,i∈A.all
 mvk:∀i∈A.all,i∈A.moved\/i∈kids A.kept
 sub:(kids A.kept).Sublist A.all
 dis:∀i∈kids A.kept,i∉A.moved
def Lb{f}{l}:CS.le (Tk Z e f l) (FromL Z e l):=λb o ⟨i,d,a,c,_⟩=>⟨i,d,a,c⟩
def Rn{n bx'}{l h}(f:∀i∈l,i∈h)(m:∀p∈bx',p∈n\/p.1∉l):CS.le (Tk Z e n l) (Tk Z e bx' h):=λb o ⟨i,d,a,c,g⟩=>
 ⟨i,f i d,a,c,λp j k=>by
  grind⟩
def Wvi{h}{m l}(g:∀i∈m,i∈l)(d:∀p∈h,p.1∉m):CS.le (FromL Z e m) (Tk Z e h l):=λb o ⟨i,f,a,c⟩=>
 ⟨i,g i f,a,c,λp k j=>Wh Ψ (d p k)⟩
def uC(j:HR w0 F G X Z e nx w){h n2}{m l}(a:Sep (fps h))(b:Sep (fps n2))(g:∀q∈h,CS.le q.fp (FromL Z e m))(f:∀q∈n2,CS.le q.fp (FromL Z e l))(c:∀i∈m,i∉l):Sep (fps (h++n2)):=by
 unfold fps;rw[Xw];refine Rl a b (A:=FromL Z e m) (B:=FromL Z e l) (λs d=>?_) (λs d=>?_) (FromL.disj j c)
 .grind
 grind
def Wss(h:HR w0 F G X Z e nx w)(P:GLe G G'){t}{ps}{id j}{s}{d}{m}{A}{vs}{ns}{ks}{K}{v}
  (R:CellRel G X nx (.ptr id j) v) (y:look e id=some (.box s)) (O:d9 t ((s.drop j).take t.size) e=some (d,m,[])) (L:(id::(m++A.all)).Nodup) (f:AOk G' X Z e w ps A vs ns ks K):
  ∃b n,v= .pointer (some ⟨b,(X id).off+j,none⟩)/\(X id).blk=some b/\rT G' w t d b ((X id).off+j) n/\Leaf X t ((s.drop j).take t.size) n/\
   KeptBox e X ((id,rng b ((X id).off+j) t.size)::K) t ⟨id,j⟩ (fA b ((X id).off+j))/\KeptOk e X ((id,rng b ((X id).off+j) t.size)::K) ps A.kept ks/\
   Sep (fps (⟨fA b ((X id).off+j),rng b ((X id).off+j) t.size⟩::(n++ns)))/\
   (∀q∈(⟨fA b ((X id).off+j),rng b ((X id).off+j) t.size⟩:Pc)::(n++ns),CS.le q.fp (Tk Z e ((id,rng b ((X id).off+j) t.size)::K) (id::(m++A.all))))/\
   (∀p∈(id,rng b ((X id).off+j) t.size)::K,p.1∈id::(m++A.all))/\(∀i∈id::(m++A.all),Live e i)/\
   (∀i∈m++A.moved,i∈id::(m++A.all))/\(∀i∈id::(m++A.all),i∈m++A.moved\/i∈id::kids A.kept)/\(id::kids A.kept).Sublist (id::(m++A.all))/\(∀i∈id::kids A.kept,i∉m++A.moved):=by
 obtain⟨cr,b,z,rfl⟩:=R;obtain⟨n,T⟩:=dH.1 L;obtain⟨U,n4,B⟩:=gI.1 T;have x:Live e id:=⟨_,y,Δ⟩;obtain⟨E,us,u,ae,qa5,H,N⟩:gy G X nx w id (Z id) (.box s):=h.ob _ _ y;rw[z]at u;injection u with u;subst u;obtain⟨V,J,Y,D,t4,_,qa4⟩:=lS h P t _ ((us.drop j).take t.size) d m [] ((H.drop j).take _) (λi a=>by simp at a) U O;have aa:=WV _ _ _ _ J;have M:j+t.size<=s.length:=by
  have:=H.1
  grind [gv,HZ,qh]
 have I:CS.le (rng b ((X id).off+j) t.size) (Z id):=λE o ⟨S,k1,k2⟩=>N E o ⟨S,Ω,Ω⟩;refine⟨b,V,rfl,z,⟨_,?_,?_,J⟩,qa4,⟨s,b,y,M,z,rfl,Xg ..⟩,KeptOk.mono (λp c=>Xe _ c) _ _ _ f.kept,?_,?_,?_,?_,?_,?_,?_,?_⟩
 .obtain⟨C,TT,W,r2⟩:=ae;exact⟨C,TT,W,Ω⟩
 .intro qa2 v r;rw[p3]at r;split at r
  .rw[pS]at r;rw[gU];exact qa5 _ v r
  grind
 .have qa1:=uC h Y f.sep D (λq l b o g=>Lb b o (f.tk q l b o g)) (λi a r=>B i a i r rfl);refine Xz.2 ⟨λqa3 Q=>?_,qa1⟩;obtain⟨p,c,rfl⟩:=Xy.1 Q;refine CS.disj.mono (FromL.disj h (m:=[id]) (b:=m++A.all) (λi a r=>n Ψ)) (λb o g=>⟨id,Δ,x,I b o g⟩) (λb o g=>?_);rcases Xo.1 c with c|c
  .exact FromL.mono (λi a=>Xn _ a) b o (D p c b o g)
  .exact FromL.mono (λi a=>Xk _ a) b o (Lb b o (f.tk p c b o g))
 .intro q l;rcases Xr.1 l with rfl|l
  .exactλb o g=>⟨id,Xg ..,x,I b o g,λp c qa0=>by
    rcases Xr.1 c with rfl|c
    .exact g
    .exact Wh (Xk _ (by rw[<-qa0];exact f.bx p c)) n⟩
  .rcases Xo.1 l with l|l
   .refineλb o g=>Wvi (m:=m) (λi a=>Xe _ (Xn _ a)) (λp c k=>?_) b o (D q l b o g)
    rcases Xr.1 c with rfl|c
    .simp_all
    .exact B _ k _ (f.bx p c) rfl
   .refineλb o g=>Rn (λi a=>Xe _ (Xk _ a)) (λp c=>?_) b o (f.tk q l b o g)
    grind
 .intro p c;rcases Xr.1 c with rfl|c
  .simp_all
  .exact Xe _ (Xk _ (f.bx p c))
 .intro i a;rcases Xr.1 a with rfl|a
  .exact x
  .rcases Xo.1 a with a|a
   .grind
   .exact f.live i a
 .intro i a;rcases Xo.1 a with a|a
  .exact Xe _ (Xn _ a)
  .exact Xe _ (Xk _ (f.mv i a))
 .intro i a;rcases Xr.1 a with rfl|a
  .exact .inr (Xg ..)
  .rcases Xo.1 a with a|a
   .exact .inl (Xn _ a)
   .rcases f.mvk i a with a|a
    .exact .inl (Xk _ a)
    .exact .inr (Xe _ a)
 .exact List.Sublist.cons_cons _ (List.Sublist.trans f.sub (Xgj _ _))
 .intro i a k;rcases Xr.1 a with rfl|a
  .rcases Xo.1 k with k|k
   .exact n (Xn _ k)
   .exact n (Xk _ (f.mv _ k))
  .rcases Xo.1 k with k|k
   .exact B _ k _ (f.sub.subset a) rfl
   .exact f.dis i a k
def WtT(h:HR w0 F G X Z e nx w){A}{y}{i}{u}(g:AValRel G X nx y u)(a:RU e A y=some i):
  ∃r b,A= .own r/\(X r).blk=some b/\i<(X r).len/\u= .pointer (some ⟨b,(X r).off+(i*(X r).esz+0),none⟩):=by
 unfold RU at a;split at a
 .rename_i r p c;split at a
  .rename_i z B j p' bZ;split at a
   .rename_i d;injection a with a;subst a;have d:=D8 d;subst d;obtain⟨x,t,m,v,b,n,o,q,_⟩:p<nx/\qE w (WL G w z) z.size (X r) (X p) B j (Z r):=h.ob _ _ bZ;obtain⟨⟨_,s,f,rfl⟩,_⟩:=g;rw[o]at f;injection f with f;subst f;exact⟨r,b,rfl,n,Ω,by rw[q,m,gJ,gJ]⟩
   .simp at a
  .simp at a
 .rename_i r r' j c;split at a
  .rename_i z B bZ;split at a
   .rename_i d;injection a with a;subst a;have d:=D8 d;subst d;obtain⟨⟨_,k,b,l,rfl⟩,_⟩:=g;exact⟨r,b,rfl,l,k,rfl⟩
   .simp at a
  .simp at a
 .simp at a
def wm(h:HR w0 F G X Z e nx w)(N:GLe G G'):∀(ps) (c) (k) (A),k.length=c.length->
  (∀(j:Nat) (x) (v),c[j]?=some x->k[j]?=some v->AValRel G X nx x v)->Lent G' w Z e A.lent->A.all.Nodup->i8 ps c e=some A->
  ∃I H O,AOk G' X Z e w ps A k I H O
 | [],c,k,A,z,C,J,K,a=>by
  simp only[i8]at a;split at a
  .injection a with a;subst a;have jD:k= []:=eY (by simpa using z);exact⟨[],[],[],⟨jD,rfl,rfl⟩,⟨rfl,rfl⟩,List.Pairwise.nil,Δ,Δ,Δ,Δ,Δ,Δ,List.Sublist.refl _,by simp[kids]⟩
  .cases a
 | .v t agg::ps,c,k,A,z,C,J,K,a=>by
  simp only[i8]at a;split at a
  .rename_i x c;split at a
   .rename_i d qa6 r A' L P;injection a with a;subst a
    match k,z with
    |v::k,z=>
     cases V:cellsOf agg x with
     |none=>simp[V]at L
     |some U=>
      simp[V]at L;obtain⟨m,Y,n3⟩:=gI.1 K;obtain⟨R,g1,g2,g3,g4,g5⟩:=WvH h N (C 0 x v rfl rfl) (J.mono (λi f=>Xn _ f)) m V L;obtain⟨I,H,O,l⟩:=wm h N ps c k A' (by simpa using z) (λj y u s D=>C (j+1) y u (by simpa using s) (by simpa using D)) (J.mono (λi f=>Xk _ f)) Y P;refine⟨R++I,H,O,⟨v,k,R,I,rfl,rfl,g1,l.args⟩,l.kept,uC h g2 l.sep g3 (λq M b o E=>Lb b o (l.tk q M b o E)) (λi f s=>n3 i f i s rfl),λq M=>?_,λp Q=>Xk _ (l.bx p Q),λi f=>?_,λi f=>?_,λi f=>?_,λi f=>?_,List.Sublist.trans l.sub (Xgj _ _),λi f T=>?_⟩
      .rcases Xo.1 M with M|M
       .exactλb o E=>Wvi (λi f=>Xn _ f) (λp Q T=>n3 _ T _ (l.bx p Q) rfl) b o (g3 q M b o E)
       .exactλb o E=>Rn (λi f=>Xk _ f) (λp Q=>.inl Q) b o (l.tk q M b o E)
      .rcases Xo.1 f with f|f
       .exact g4 i f
       .exact l.live i f
      .rcases Xo.1 f with f|f
       .exact g5 i f
       .exact l.lent i f
      .rcases Xo.1 f with f|f
       .exact Xn _ f
       .exact Xk _ (l.mv i f)
      .rcases Xo.1 f with f|f
       .exact .inl (Xn _ f)
       .rcases l.mvk i f with f|f
        .exact .inl (Xk _ f)
        .exact .inr f
      .rcases Xo.1 T with T|T
       .exact n3 _ T _ (l.sub.subset f) rfl
       .exact l.dis i f T
   .cases a
  .cases a
 | .box t::ps,c,k,A,z,C,J,K,a=>by
  simp only[i8]at a;split at a
  .rename_i id g c;split at a
   .rename_i U S;split at a
    .rename_i d qa6 A' L P;injection a with a;subst a
     match k,z with
     |v::k,z=>
      obtain⟨m,Y⟩:=dH.1 K;obtain⟨I,H,O,l⟩:=wm h N ps c k A' (by simpa using z) (λj y u s D=>C (j+1) y u (by simpa using s) (by simpa using D)) J (gI.1 Y).2.1 P;obtain⟨b,R,rfl,cb,k1,_,k2,k3,k4,k5,k6,k7,k8,k9,qa1,dT⟩:=Wss h N (C 0 _ v rfl rfl).1 S L K l;exact⟨_,_,_,⟨b,_,k,R,I,H,rfl,rfl,rfl,k1,l.args⟩,⟨_,_,_,_,rfl,rfl,k2,k3⟩,k4,k5,k6,k7,l.lent,k8,k9,qa1,dT⟩
    .cases a
   .cases a
  .cases a
 | .vj _::_,_,_,_,_,_,_,_,a=>by simp only[i8]at a;cases a
 | .boxal t lf::ps,c,k,A,z,C,J,K,a=>by
  simp only[i8]at a;split at a
  .rename_i id g y c;split at a
   .rename_i U S;split at a
    .rename_i d qa6 A' i L P W;injection a with a;subst a
     match k,z with
     |v::u::k,z=>
      obtain⟨m,Y⟩:=dH.1 K;obtain⟨I,H,O,l⟩:=wm h N ps c k A' (by simpa using z) (λj y u s D=>C (j+2) y u (by simpa using s) (by simpa using D)) J (gI.1 Y).2.1 P;obtain⟨b,R,rfl,cb,k1,kl,k2,k3,k4,k5,k6,k7,k8,k9,qa1,dT⟩:=Wss h N (C 0 _ v rfl rfl).1 S L K l;obtain⟨qa2,V,W⟩:=mx.1 W;obtain⟨qa4,hk,V⟩:=mx.1 V;obtain⟨r,b',rfl,e1,e2,rfl⟩:=WtT h (C 1 y u rfl rfl) W;obtain⟨pc,e3,e4⟩:=kl lf qa4 r hk V;exact⟨_,_,_,⟨b,_,b',pc,k,R,I,H,by rw[e4],rfl,rfl,k1,e3,by rw[e4];exact e1,by rw[e4];exact e2,l.args⟩,⟨_,_,_,_,rfl,rfl,k2,k3⟩,k4,k5,k6,k7,l.lent,k8,k9,qa1,dT⟩
    .cases a
   .cases a
  .cases a
 | .mut qa0::ps,c,k,A,z,C,J,K,a=>by
  simp only[i8]at a;split at a
  .rename_i id c;split at a
   .rename_i e' ys S;split at a
    .rename_i d A' L P;injection a with a;subst a;obtain⟨he,hd⟩:=pg L;subst he;simp only at hd;subst hd
     match k,z with
     |v::k,z=>
      obtain⟨⟨_,hv⟩,_⟩:=C 0 _ v rfl rfl;subst hv;obtain⟨m,Y⟩:=dH.1 K;have qa5:Live e id:=⟨_,S,Δ⟩;have aF:az w (WL G w e') e'.size (X id) ys (Z id):=h.ob _ _ S;obtain⟨I,H,O,l⟩:=wm h N ps c k A' (by simpa using z) (λj y u s D=>C (j+1) y u (by simpa using s) (by simpa using D)) J Y P;refine⟨⟨X id,Z id⟩::I,X id::H,O,⟨⟨X id,Z id⟩,k,I,H,rfl,rfl,rfl,Db N (Same.refl _ w) (λ_ _ E=>E) aF,l.args⟩,⟨id,_,H,ys,rfl,rfl,S,l.kept⟩,?_,λq M=>?_,λp Q=>Xe _ (l.bx p Q),λi f=>?_,l.lent,λi f=>Xe _ (l.mv i f),λi f=>?_,List.Sublist.cons_cons _ l.sub,λi f T=>?_⟩
      .refine uC h (h:=[⟨X id,Z id⟩]) (m:=[id]) (List.pairwise_singleton _ _) l.sep (λq M=>?_) (λq M b o E=>Lb b o (l.tk q M b o E)) (λi f s=>m (by rw[<-dq.1 f];exact s));rw[dq.1 M];exact FromL.one Δ qa5
      .rcases Xr.1 M with rfl|M
       .exactλb o E=>⟨id,Xg ..,qa5,E,λp Q qa0=>Wh (by rw[<-qa0];exact l.bx p Q) m⟩
       .exactλb o E=>Rn (λi f=>Xe _ f) (λp Q=>.inl Q) b o (l.tk q M b o E)
      .rcases Xr.1 f with rfl|f
       .exact qa5
       .exact l.live i f
      .rcases Xr.1 f with rfl|f
       .exact .inr (Xg ..)
       .rcases l.mvk i f with f|f
        .exact .inl f
        .exact .inr (Xe _ f)
      .rcases Xr.1 f with rfl|f
       .exact m (l.mv _ T)
       .exact l.dis i f T
    .cases a
   .cases a
  .cases a
 | .clos qa3 n::ps,c,k,A,z,C,J,K,a=>by
  simp only[i8]at a;split at a
  .rename_i g' caps c;split at a
   .rename_i V;obtain⟨rfl,bQ⟩:=V;cases l:i8 ps (iM caps++c) e with
    |none=>simp[l]at a
    |some A'=>
     simp only[l,vp,Option.some.injEq]at a;subst a
     match k,z with
     |v::k,z=>
      obtain⟨⟨cvs,hv,pX,um⟩,_⟩:=C 0 _ v rfl rfl;subst hv;obtain⟨I,H,O,B⟩:=wm h N ps (iM caps++c) (cvs++k) A' (by simp[iM,pX];simpa using z) (λj y u s D=>by
       rw[ko]at s D;simp only[iM,aP]at s;rw[pX]at D;split at s
       .rename_i ab;rw[Wb ab]at D;rw[hV]at s;obtain⟨id,cr,rfl⟩:=im.1 s;obtain⟨L,W,P⟩:=um _ id u cr D;exact⟨⟨L,P⟩,W⟩
       .rename_i ab;rw[Wa ab]at D;exact C (j-caps.length+1) y u (by simpa using s) (by simpa using D)) J K l
      refine⟨I,H,O,⟨cvs,k,rfl,by rw[pX];exact bQ,λu D=>?_,B.args⟩,B.kept,B.sep,B.tk,B.bx,B.live,B.lent,B.mv,B.mvk,B.sub,B.dis⟩;obtain⟨j,s⟩:=So D;have ab:j<caps.length:=by rw[<-pX];exact(iW.1 s).1
      exact(um j _ u (Xq ab) s).2.1
   .cases a
  .cases a
 | .rp t::ps,c,k,A,z,C,J,K,a=>by
  simp only[i8]at a;split at a
  .rename_i id g c;split at a
   .rename_i U S;split at a
    .rename_i d r A' L P;split at a
     case isFalse=>cases a
     rename_i xm;injection a with a;subst a
     match k,z with
     |v::k,z=>
      obtain⟨I,H,O,l⟩:=wm h N ps c k A' (by simpa using z) (λj y u s D=>C (j+1) y u (by simpa using s) (by simpa using D)) (J.mono (λi f=>Xe _ (Xk _ f))) K P;obtain⟨⟨cr,b,cb,rfl⟩,_⟩:=C 0 _ v rfl rfl;have qa5:Live e id:=⟨_,S,Δ⟩;obtain⟨b',us,dc,ae,aA,dB,gX⟩:gy G X nx w id (Z id) (.box U):=h.ob _ _ S;rw[cb]at dc;injection dc with dc;subst dc;obtain⟨R,t1,t2,t3,t4,t5,_⟩:=lS h N t _ ((us.drop g).take t.size) d [] r ((dB.drop g).take _) (J.mono (λi f=>Xe _ (Xn _ f))) Ec L;have pY:∀p∈R,Froz G' w p.fp:=λp Q b o v E=>by
       obtain⟨i,f,_⟩:=t3 p Q b o E;simp at f
      have iQ:Enc G' t.ro (yd t d) ((us.drop g).take t.size):=zR (λ_ _ _ E=>E) t d _ R pY t1;have lh:=WV _ _ _ _ t1;have df:g+t.size<=U.length:=by
       have:=dB.1;rw[gv,HZ]at lh;have:=qh t;omega
      have aG:sf G' b ((X id).off+g) ((us.drop g).take t.size):=λj v s=>by
       have xn:j<t.size:=by have:=(iW.1 s).1;omega
       rw[p3,Wb xn,pS]at s;have W:=aA _ v s;rw[<-gU]at W;exact J id (Xg ..) qa5 b _ v (gX b _ ⟨rfl,Ω,Ω⟩) W
      exact⟨I,H,O,⟨b,(X id).off+g,(us.drop g).take t.size,k,rfl,((rG t d _ R xm).1 t1).1,aG,l.args⟩,l.kept,l.sep,l.tk,l.bx,l.live,λi f=>by
       rcases Xr.1 f with rfl|f
       .exact qa5
       .rcases Xo.1 f with f|f
        .exact t5 i f
        .exact l.lent i f,l.mv,l.mvk,l.sub,l.dis⟩
    .cases a
   .cases a
  .rename_i t' d' g c;split at a
   .rename_i d A' L P;split at a
    case isFalse=>cases a
    rename_i xm;injection a with a;subst a
    match k,z with
    |v::k,z=>
     obtain⟨I,H,O,l⟩:=wm h N ps c k A' (by simpa using z) (λj y u s D=>C (j+1) y u (by simpa using s) (by simpa using D)) J K P;obtain⟨⟨b,o,U,rfl,e1,e2⟩,_⟩:=C 0 _ v rfl rfl;have dB:=pm (a:=X) (b:=nx) t' d' U e1;obtain⟨R,t1,t2,t3,t4,t5,_⟩:=lS h N t _ ((U.drop g).take t.size) d [] [] ((dB.drop g).take _) (λi f=>by simp at f) Ec L;exact⟨I,H,O,⟨b,o+g,(U.drop g).take t.size,k,rfl,((rG t d _ R xm).1 t1).1,λj v s=>by
      rw[p3]at s;split at s
      .rw[pS]at s;rw[gU];exact N _ _ _ (e2 _ v s)
      .simp at s,l.args⟩,l.kept,l.sep,l.tk,l.bx,l.live,l.lent,l.mv,l.mvk,l.sub,l.dis⟩
   .cases a
  .cases a
end
def wK{G a}{w}:∀(t) (d) (v) (ns),t.noRo=true->WL G w t d v ns->WL a w t d v ns
 | .own e,_,_,_,f,⟨p,g,i,j⟩=>⟨p,g,i,KJ (λx c q k=>WV e x c q k) (Same.refl _ w) (λ_ _ m=>m) (λx c q _ k=>wK e x c q f k) j⟩
 | .prod u b,_,_,_,f,⟨r,s,n,o,g,i,j,l⟩=>by
  simp only[Ty.noRo,Xl]at f;exact⟨r,s,n,o,g,i,wK u _ _ _ f.1 j,wK b _ _ _ f.2 l⟩
 | .int _,_,_,_,_,h=>h
 | .bool,_,_,_,_,h=>h
 | .slice _,_,_,_,f,_=>by simp[Ty.noRo]at f
def Wwg{G i}{w}{e}{a}{g}{S}(d:e.noRo=true)(h:az w (WL G w e) e.size a g S):az w (WL i w e) e.size a g S:=
 KJ (λx c q f=>WV e x c q f) (Same.refl _ w) (λ_ _ b=>b) (λx c q _ f=>wK e x c q d f) h
def O5{G a}{w}{t}{d}{b o}{ns}(f:t.noRo=true)(h:rT G w t d b o ns):rT a w t d b o ns:=by
 obtain⟨g,i,c,e⟩:=h;exact⟨g,i,c,wK _ _ _ _ f e⟩
def Wv6{G a}{w}{t}{agg}{d}{v}{ns}(f:t.noRo=true)(h:ng G w t agg d v ns):ng a w t agg d v ns:=by
 unfold ng at h|-;split
 .rename_i ha;rw[Wb ha]at h;obtain⟨e,b,c⟩:=h;exact⟨e,b,wK _ _ _ _ f c⟩
 .rename_i ha;rw[Wa ha]at h;exact wK _ _ _ _ f h
def I2{G a}{w}:∀(rs) (d) (r) (k),rs.all PTy.freshR=true->uU G w rs d r k->uU a w rs d r k
 | [],_,_,_,_,h=>h
 | .v t agg::rs,d,r,k,q,⟨v,c,i,j,e,f,g,l⟩=>by
  simp only[o4,Xl]at q;exact⟨v,c,i,j,e,f,Wv6 q.1 g,I2 rs _ _ _ q.2 l⟩
 | .box t::rs,d,r,k,q,⟨b,o,c,i,j,e,f,g,n⟩=>by
  simp only[o4,Xl]at q;exact⟨b,o,c,i,j,e,f,O5 q.1 g,I2 rs _ _ _ q.2 n⟩
 | .mut _::_,_,_,_,_,h=>h.elim
 | .clos _ _::_,_,_,_,_,h=>h.elim
 | .rp _::_,_,_,_,_,h=>h.elim
 | .vj t::rs,d,r,k,q,⟨p,u,c,i,j,e,m,f,g,l⟩=>by
  simp only[o4,Xl]at q;exact⟨p,u,c,i,j,e,m,f,wK _ _ _ _ q.1 g,I2 rs _ _ _ q.2 l⟩
 | .boxal _ _::_,_,_,_,_,h=>h.elim
def zp{G a}{w}:∀(ps) (o) (d) (c) (f),ps.all PTy.fresh=true->m6 G w ps o d c f->m6 a w ps o d c f
 | [],_,_,_,_,_,h=>h
 | .v _ _::ps,o,d,c,f,u,h=>by
  simp only[o4,Xl]at u;exact zp ps o d c f u.2 h
 | .box t::ps,o,d,c,f,u,⟨b,g,i,j,q,r,k,l,m,n,p⟩=>by
  simp only[o4,Xl]at u;exact⟨b,g,i,j,q,r,k,l,m,O5 u.1 n,zp ps _ _ _ _ u.2 p⟩
 | .mut e::ps,o,d,c,f,u,⟨s,i,j,k,l,m,n⟩=>by
  simp only[o4,Xl]at u;exact⟨s,i,j,k,l,Wwg u.1 m,zp ps _ _ _ _ u.2 n⟩
 | .clos _ _::ps,o,d,c,f,u,h=>by
  simp only[o4,Xl]at u;exact zp ps o d c f u.2 h
 | .rp _::ps,o,d,c,f,u,h=>by
  simp only[o4,Xl]at u;exact zp ps o d c f u.2 h
 | .vj _::_,_,_,_,_,_,h=>h.elim
 | .boxal t _::ps,o,d,c,f,u,⟨b,g,i,j,q,r,k,l,m,n,p⟩=>by
  simp only[o4,Xl]at u;exact⟨b,g,i,j,q,r,k,l,m,O5 u.1 n,zp ps _ _ _ _ u.2 p⟩
def Ud{a}:∀(l) (id),id∉l->look (kill a l) id=look a id
 | [],id,_=>rfl
 |i::l,id,h=>by
  simp only[kill];rw[WZ,Wa (λe=>h (by rw[e];exact Xg ..))];exact Ud l id λb=>h (Xe _ b)
def Lk:∀{l},Sep l->∀{i j:Nat} {A B} {b o},l[i]?=some A->l[j]?=some B->A b o->B b o->i=j
 | [],_,i,j,A,B,b,o,a,_,_,_=>by simp at a
 |C::l,g,i,j,A,B,b,o,a,c,d,hb=>by
  obtain⟨e,f⟩:=Xz.1 g;cases i with
  |zero=>
   simp at a;subst a;cases j with
   |zero=>rfl
   |succ j=>
    simp at c;exact(e B (nl c) b o d hb).elim
  |succ i=>
   simp at a;cases j with
   |zero=>
    simp at c;subst c;exact(e A (nl a) b o hb d).elim
   |succ j=>
    simp at c;rw[Lk f a c d hb]
section
variable{w0:World}{F:CS}{nt:Slots}{G0 G G':GH}{d:Nat->Nu}{e:Nat->CS}{Q:ai}{nx:Nat}{R an:St}{a:Act}{w k:World}{P:Program}{T:Tab}
def zD{A}{b}:∀(ps) (a) (v),(∀i∈kids a,A i=d i)->KeptOk Q d b ps a v->KeptOk Q A b ps a v
 | [],_,_,_,h=>h
 | .v _ _::ps,a,v,c,h=>zD ps a v c h
 | .box t::ps,a,v,c,⟨k,g,w,f,j,l,⟨o,z,p,q,r,s,u⟩,m⟩=>by
  subst j;have e:=c k.id (Xg ..);exact⟨k,g,w,f,rfl,l,⟨o,z,p,q,by rw[e];exact r,by rw[e];exact s,by rw[e];exact u⟩,zD ps g f (λi n=>c i (Xe _ n)) m⟩
 | .mut e::ps,a,v,c,⟨id,g,f,y,j,l,x,m⟩=>by
  subst j;exact⟨id,g,f,y,rfl,by rw[c id (Xg ..)];exact l,x,zD ps g f (λi n=>c i (Xe _ n)) m⟩
 | .clos _ _::ps,a,v,c,h=>zD ps a v c h
 | .rp _::ps,a,v,c,h=>zD ps a v c h
 | .vj _::_,_,_,_,h=>h.elim
 | .boxal t _::ps,a,v,c,⟨k,g,w,f,j,l,⟨o,z,p,q,r,s,u⟩,m⟩=>by
  subst j;have e:=c k.id (Xg ..);exact⟨k,g,w,f,rfl,l,⟨o,z,p,q,by rw[e];exact r,by rw[e];exact s,by rw[e];exact u⟩,zD ps g f (λi n=>c i (Xe _ n)) m⟩
def Wxd(g:Rel w0 F nt G0 G d R a w):∀(l) (b),evs R l=some b->b.length=l.length/\
  ∀(j:Nat) (x) (v),b[j]?=some x->(l.map a.eval)[j]?=some v->AValRel G d R.nx x v
 | [],b,h=>by simp[evs]at h;subst h;exact⟨rfl,λj x v i=>by simp at i⟩
 |o::l,b,h=>by
  simp only[evs]at h;split at h
  .rename_i y ys h1 h2;injection h with h;subst h;obtain⟨e,f⟩:=Wxd g l ys h2;refine⟨by simp[e],λj x v i c=>?_⟩;cases j with
   |zero=>simp at i c;subst i c;exact W2 g o _ h1
   |succ j=>exact f j x v (by simpa using i) (by simpa using c)
  .simp at h
def WyJ{o}{c}{f}{g}{caps}(n:o.op= .call c)(i:c.callee= .value f)(m:a.eval f= .func (.func g) #[] caps.toArray)(p:G5 P g):
  (execOp a.eval o).run P w= .ok (.enter g (c.args.toList.map a.eval++caps).toArray) w:=by
 obtain⟨q,j,k,l⟩:=p;obtain⟨h,b,d⟩:=c;simp only at i;subst i;have e:(#[]++b.map a.eval++caps.toArray)=(b.toList.map a.eval++caps).toArray:=by
  apply Array.ext';simp
 simp only[execOp,n,resolve,Deferred.ofValue,m,Sem.run_bind,Sem.run_pure,Result.andThen_ok,invoke,callFunc,run_program,j,k,l,my,jN,e]
def Wx8{m o n}{p q}(g:Mem w m o p)(i:Mem k m (o+n) q)(l:n+q.length<=p.length)(f:∀j,j<p.length->¬(n<=j/\j<n+q.length)->k.cell? ⟨m,o+j,none⟩=w.cell? ⟨m,o+j,none⟩):
  Mem k m o (p.take n++q++p.drop (n+q.length)):=λj v a=>by
 have d:∀b,p[j]?=some b->¬(n<=j/\j<n+q.length)->k.cell? ⟨m,o+j,none⟩=some b:=λb c h=>by
  rw[f j (iW.1 c).1 h];exact g j b c
 have e:(p.take n).length=n:=Φ
 rw[List.append_assoc,ko,e]at a;split at a
 .rename_i ab;rw[p3,Wb ab]at a;exact d v a Ω
 .rw[ko]at a;split at a
  .have:=i (j-n) v a;rw[show o+j=o+n+(j-n) by omega];exact this
  .rw[pS,show n+q.length+(j-n-q.length)=j by omega]at a;exact d v a Ω
def QR{Γ}(hΓ:ji P Γ)(hr:Rel w0 F nt G0 G d R a w){o:Oper}(hd:∀qa2,o.dst=some qa2->nt.Ok qa2){c}{qa5}{g}{cvs}{xs}{sg}{qa1}{qa4:St->Option qa1}{r}
  (ho:o.op= .call c) (hc:c.callee= .value qa5) (mT:a.eval qa5= .func (.func g) #[] cvs.toArray) (qU:look Γ g=some sg) (aa:xs.length=(c.args.toList.map a.eval++cvs).length)
  (bc:∀(j:Nat) (x) (v),xs[j]?=some x->(c.args.toList.map a.eval++cvs)[j]?=some v->AValRel G d R.nx x v)
  (h:r9 sg R xs (λx Q nx=>qa4 (({env:=R.env,objs:=Q,nx:=nx}:St).put o.dst x))=some r) {K} {qa0}
  (hK:∀an a' k G' ν',Rel w0 F nt G0 G' ν' an a' k->qa4 an=some r->K a' k):o.wp P a w K qa0:=by
 obtain⟨mU,lN⟩:=hΓ g sg qU;unfold r9 at h;split at h
 .rename_i A hA;split at h
  .rename_i cO;simp only[Xl]at cO;obtain⟨⟨bu,oR⟩,pZ⟩:=cO;have bu:=(JK _).1 bu;have oR:=Yo oR;obtain⟨L,bA,hk⟩:=sg.law' A.d _ r h;dsimp only at hk;obtain⟨e,z⟩:=hr.h;have jF:=z.addG_le A.lent;have hG1w:=z.addG_w A.lent;obtain⟨ns,ks,p,M⟩:=wm z jF sg.ps _ (c.args.toList.map a.eval++cvs) A aa.symm bc (λid cr C=>(PO _).mono (FromL.one cr C)) bu hA;have I:∀b o,Of ns b o->Tk e R.objs p A.all b o:=λb o ⟨q,hq,N⟩=>M.tk q hq b o N;have ca:∀q∈ns,∀b l,q.fp b l->pD G w (FromL e R.objs A.lent) b l=none/\b<w.heap.size:=λq hq b l N=>by
    obtain⟨i,J,m,s,_⟩:=M.tk q hq b l N;refine⟨?_,z.bl i b l m s⟩;rw[wS (λ⟨j,hj,B,h4⟩=>by
     have:=z.inj i j b l m B s h4;subst this;exact oR _ hj J)]
    exact z.gf i b l m s
   have qV:=mU A.d L bA _ w _ ns _ M.args M.sep ca hG1w;unfold Oper.wp;rw[WyJ ho hc mT lN,Oper.upon_enter];refine qV.mono λqa3 k ut=>?_;obtain⟨rv,O,D,E,G2,rfl,n⟩:=ut;simp only;have hG3:∃T:GH,GLe G T/\(∀b l v,T b l=some v->k.cell? ⟨b,l,none⟩=some v)/\uU T k sg.rs L.2 rv E/\m6 T k sg.ps L.1 ks O D/\
     GExt w0.heap.size F G0 T/\(∀S∈O++fps (D++E),∀b l,S b l->T b l=none)/\(∀id b l,Live R.objs id->e id b l->¬Tk e R.objs p A.all b l->T b l=none):=by
    by_cases aO:A.lent= []
    .have hGG:pD G w (FromL e R.objs A.lent)=G:=by
      rw[aO];funext b l;exact wS (λ⟨i,J,_⟩=>by simp at J)
     rw[hGG]at n;refine⟨G2,n.gx.le,n.g,n.res,n.outs,⟨λb o v Y=>n.gx.le b o v (hr.gx.le b o v Y),λb o v Y=>?_⟩,λS hS b l N=>(n.own S hS b l N).1,λid b l C u hn=>?_⟩
     .rcases n.gx.new b o v Y with m|m|m
      .exact hr.gx.new b o v m
      .exact .inr (.inl (mA z.le.size m))
      .obtain⟨i,J,s,B,_⟩:=I b o m;exact .inr (z.own i b o s B)
     .cases Y:G2 b l with
      |none=>rfl
      |some v=>
       rcases n.gx.new b l v Y with m|m|m
       .rw[z.gf id b l C u]at m;cases m
       .have:=z.bl id b l C u;omega
       .exact Wh (I b l m) hn
    .have iU:sg.fresh=true:=by
      rcases Bool.or_eq_true_iff.1 pZ with m|m
      .exact m
      .exact Wh (by simpa using m) aO
     unfold Sig.fresh at iU;simp only[Xl]at iU;refine⟨G,λ_ _ _ N=>N,λb o v Y=>n.g b o v (n.gx.le b o v (jF b o v Y)),I2 _ _ _ _ iU.1 n.res,zp _ _ _ _ _ iU.2 n.outs,hr.gx,λS hS b l N=>?_,λid b l C u _=>z.gf id b l C u⟩;cases Y:G b l with
     |none=>rfl
     |some v=>
      have:=n.gx.le b l v (jF b l v Y);rw[(n.own S hS b l N).1]at this;cases this
   obtain⟨T,xo,xp,ku,uu,xq,xr,xt⟩:=hG3;obtain⟨ν2,hν2⟩:∃ν2:Nat->Nu,ν2= λi=>if i<R.nx then d i else((nus (D++E))[i-R.nx]?).getD ⟨none,0,0,0,0⟩:=⟨_,rfl⟩;obtain⟨W,V⟩:∃W:Nat->CS,W= λi=>if i<R.nx then(λb o=>(∃(j:Nat) (S:CS),(kids A.kept)[j]?=some i/\O[j]?=some S/\S b o)\/(e i b o/\¬Tk e R.objs p A.all b o))else((fps (D++E))[i-R.nx]?).getD (λ_ _=>False):=⟨_,rfl⟩;have t:q6 R.nx d ν2:=λi J=>by rw[hν2];simp[J]
   have hAt:At ν2 W R.nx (D++E):=λj pc hj=>by
    have e1:(nus (D++E))[j]?=some pc.nu:=by unfold nus;rw[hV,hj];rfl
    have e2:(fps (D++E))[j]?=some pc.fp:=by unfold fps;rw[hV,hj];rfl
    rw[hν2,V];simp only;rw[Wa Ω,Wa Ω,AJ,e1,e2];exact⟨rfl,rfl⟩
   have cL:∀i∈kids A.kept,i<R.nx:=λi J=>z.lt i (M.live i (M.sub.subset J));have oS:(kids A.kept).Nodup:=bu.sublist M.sub;obtain⟨mV,BE,fH⟩:=zr (N:=ν2) (U:=W) (W:=p) R.objs sg.ps L.1 A.kept ks O D (kill R.objs A.moved) R.nx (R.nx+D.length+E.length) uu (zD _ _ _ (λi J=>t i (cL i J)) M.kept) hAt.left oS (λq hq=>by
    have mg:q.id∈kids A.kept:=ju hq;exact⟨cL _ mg,Ud _ _ (M.dis _ mg)⟩) Ω
   generalize u:gN sg.ps L.1 A.kept (kill R.objs A.moved) R.nx=qa6 at*;obtain⟨pY,xu,BF⟩:=JC (N:=ν2) (U:=W) sg.rs L.2 rv E qa6.1 (R.nx+D.length) (R.nx+D.length+E.length) ku (hAt.right rfl) Ω;rw[mV]at hk;generalize hq:iy sg.rs L.2 qa6.1 (R.nx+D.length)=q at*;have kv:∀id ob,look q.2.1 id=some ob->ob≠ .dead->
     (R.nx<=id/\id<R.nx+D.length+E.length/\TF T ν2 W k (R.nx+D.length+E.length) id ob)\/
     (∃(j:Nat) (S:CS),(kids A.kept)[j]?=some id/\O[j]?=some S/\Lw T ν2 k R.objs p (R.nx+D.length+E.length) id S ob)\/(look R.objs id=some ob/\id∉A.all):=λid ob C U=>by
    rcases xu id ob C with⟨m,s,B⟩|m
    .exact .inl ⟨Ω,s,B⟩
    .rcases fH id ob m with⟨s,B,h4⟩|s|⟨s,B⟩
     .exact .inl ⟨s,Ω,.inl h4⟩
     .exact .inr (.inl s)
     .obtain⟨h4,h5⟩:=Gx A.moved id ob s U;exact .inr (.inr ⟨h4,λhm=>by rcases M.mvk id hm with X|X;exact h5 X;exact B X⟩)
   have au:∀id b l,Live q.2.1 id->W id b l->
     (∃(y:Nat) (S:CS),(O++fps (D++E))[y]?=some S/\S b l/\id=(if y<O.length then((kids A.kept)[y]?).getD 0 else R.nx+(y-O.length)))\/
     (Live R.objs id/\e id b l/\¬Tk e R.objs p A.all b l/\id<R.nx):=λid b l ⟨ob,C,U⟩ u=>by
    have qW:id<R.nx->Live R.objs id:=λH=>by
     rcases kv id ob C U with⟨m,_⟩|⟨j,S,m,_⟩|⟨m,_⟩
     .omega
     .exact M.live id (M.sub.subset (nl m))
     .exact⟨ob,m,U⟩
    rw[V]at u
    try simp only at u
    by_cases H:id<R.nx
    .rw[Wb H]at u;rcases u with⟨j,S,m,s,B⟩|⟨m,s⟩
     .left;have hj:j<O.length:=(iW.1 s).1;refine⟨j,S,by rw[List.getElem?_append_left hj];exact s,B,?_⟩;rw[Wb hj,m];rfl
     .exact .inr ⟨qW H,m,s,H⟩
    .rw[Wa H]at u;left;cases hS:(fps (D++E))[id-R.nx]? with
     |none=>rw[hS]at u;exact u.elim
     |some S=>
      rw[hS]at u;refine⟨O.length+(id-R.nx),S,by rw[List.getElem?_append_right Ω,AJ];exact hS,u,?_⟩;rw[Wa Ω];omega
   have aF:=n.own;have li:∀{y:Nat} {S:CS},(O++fps (D++E))[y]?=some S->S∈O++fps (D++E):=λh=>nl h;have hH:HR w0 F T ν2 W q.2.1 (R.nx+D.length+E.length) k:={
    g:=xp
    ob:=λid ob C=>by
     by_cases U:ob= .dead
     .subst U;trivial
     .rcases kv id ob C U with⟨m,s,⟨qa3,xs,rfl,B⟩|⟨cs,b,us,rfl,B,h4,h5,X,h7⟩⟩|⟨j,S,m,s,B⟩|⟨m,s⟩
      .exact B
      .exact⟨b,us,B,h4,h5,X,h7⟩
      .have cr:id∈kids A.kept:=nl m;have H:=cL id cr;have aQ:Live R.objs id:=M.live id (M.sub.subset cr);have hSφ:CS.le S (W id):=λb o N=>by
        rw[V];(try simp only);rw[Wb H];exact .inl ⟨j,S,m,s,N⟩
       rcases B with⟨nR,l,ds,b,us,g1,rfl,g2,g3,g4,g5,rfl,g6⟩|⟨qa3,ys,xs,g1,rfl,g2⟩
       .rw[t id H]at g3 g4 g6 hSφ;obtain⟨b',vs,e1,e2,e3,e4,e5⟩:gy G d R.nx w id (e id) (.box nR):=z.ob _ _ g1;rw[g3]at e1;injection e1 with e1;subst e1;have eD:us.length=ds.length:=g5.1;have qO:vs.length=nR.length:=e4.1;have jL:∀o,(d id).off<=o->o<(d id).off+nR.length->¬((d id).off+l<=o/\o<(d id).off+l+ds.length)->e id b o/\¬Tk e R.objs p A.all b o:=λo f k2 k3=>by
         have hφo:=e5 b o ⟨rfl,f,k2⟩;refine⟨hφo,λ⟨i,J,k4,k5,k6⟩=>?_⟩;have:=z.inj i id b o k4 aQ k5 hφo;subst this;obtain⟨_,k7,k8⟩:=k6 _ g6 rfl;exact k3 ⟨k7,k8⟩
        refine⟨b,_,by rw[t id H];exact g3,by rw[t id H,JI g2];exact n.le.rows.row _ _ e2,?_,JH (e4.mono xo t Ω) g5,?_⟩
        .rw[t id H];refine Wx8 e3 g4 Ω (λj hj hn=>?_);obtain⟨f,k2⟩:=jL ((d id).off+j) Ω Ω (λ⟨k3,k4⟩=>hn ⟨Ω,Ω⟩);exact n.le.cell b _ (z.bl id b _ aQ f) (λqX=>k2 (I b _ qX))
        .rw[t id H,JI g2];intro b' o ⟨k0,f,k2⟩;subst k0;by_cases eH:(d id).off+l<=o/\o<(d id).off+l+ds.length
         .exact hSφ b' o ⟨rfl,eH.1,eH.2⟩
         .rw[V];(try simp only);rw[Wb H];exact .inr (jL o f k2 eH)
       .exact Db (λ_ _ _ N=>N) (Same.refl _ k) hSφ g2
      .have oO:Live R.objs id:=⟨ob,m,U⟩;have H:=z.lt id oO;have Aq:∀b o,e id b o->¬Tk e R.objs p A.all b o:=λb o u ⟨i,J,f,k2,_⟩=>by
        have:=z.inj i id b o f oO k2 u;subst this;exact s J
       refine Gw xo (n.le.same (λb o qX u=>Aq b o u (I b o qX)) (λb o u=>z.bl id b o oO u)) (λb o u=>?_) t Ω H ob (z.ob id ob m);rw[V];(try simp only);rw[Wb H];exact .inr ⟨u,Aq b o u⟩
    gf:=λid b l C u=>by
     rcases au id b l C u with⟨y,S,m,s,_⟩|⟨m,s,B,_⟩
     .exact xr S (li m) b l s
     .exact xt id b l m s B
    inj:=λid Z b l C bw u fM=>by
     have key:∀Z,Live R.objs Z->e Z b l->¬Tk e R.objs p A.all b l->∀(y:Nat) (S:CS),(O++fps (D++E))[y]?=some S->S b l->False:=λZ g1 g2 g3 y S g4 g5=>by
      rcases(aF S (li g4) b l g5).2.1 with g6|g6
      .exact g3 (I b l g6)
      .have:=z.bl Z b l g1 g2;omega
     rcases au id b l C u with⟨y,S,m,s,he⟩|⟨m,s,B,h4⟩<;>rcases au Z b l bw fM with⟨xw,S',jo,mh,fR⟩|⟨jo,mh,eO,h4'⟩
     .have:=Lk n.sep m jo s mh;subst this;rw[he,fR]
     .exact(key Z jo mh eO y S m s).elim
     .exact(key id m s B xw S' jo mh).elim
     .exact z.inj id Z b l m jo s mh
    own:=λid b l C u=>by
     rcases au id b l C u with⟨y,S,m,s,_⟩|⟨m,s,B,_⟩
     .rcases(aF S (li m) b l s).2.1 with h5|h5
      .obtain⟨i,J,X,h7,_⟩:=I b l h5;exact z.own i b l X h7
      .exact .inl (mA z.le.size h5)
     .exact z.own id b l m s
    lt:=λid ⟨ob,C,U⟩=>by
     rcases kv id ob C U with⟨_,s,_⟩|⟨j,S,m,_⟩|⟨m,s⟩
     .exact s
     .have:=cL id (nl m);omega
     .have:=z.lt id ⟨ob,m,U⟩;omega
    bl:=λid b l C u=>by
     rcases au id b l C u with⟨y,S,m,s,_⟩|⟨m,s,B,_⟩
     .exact(aF S (li m) b l s).2.2
     .exact Nat.lt_of_lt_of_le (z.bl id b l m s) n.le.size
    le:=z.le.trans n.le (λb l qX=>by
     obtain⟨i,J,X,h7,_⟩:=I b l qX;exact z.own i b l X h7)}
   have hR:=hr.on xo t Ω ⟨W,hH⟩ xq;have hR2:=hR.put (i:=o.dst) hd (WwA BF);rw[pY]at hk;exact hK _ _ _ _ _ hR2 hk
  .cases h
 .cases h
def WBu{V}(z:ji P V)(l:Rel w0 F nt G0 G d R a w){o:Oper}(t:∀X,o.dst=some X->nt.Ok X){c}{f}{g}{caps}{Z}{sg}{W}{qa0:St->Option W}{r}
  (u:o.op= .call c) (q:c.callee= .value f) (O:ev R f=some (.s (.one (.clos g caps)))) (T:evs R c.args.toList=some Z) (C:look V g=some sg)
  (h:xX sg R (Z++iM caps) (λx Q nx=>qa0 (({env:=R.env,objs:=Q,nx:=nx}:St).put o.dst x))=some r) {K} {s}
  (p:∀an D k G' b,Rel w0 F nt G0 G' b an D k->qa0 an=some r->K D k):o.wp P a w K s:=by
 obtain⟨⟨i,B,J,U⟩,_⟩:=W2 l f _ O;obtain⟨H,I⟩:=Wxd l _ _ T;have m:(Z++iM caps).length=(c.args.toList.map a.eval++i).length:=by simp[H,iM,J]
 have n:∀(j:Nat) (x:AVal) (v:Value),(Z++iM caps)[j]?=some x->(c.args.toList.map a.eval++i)[j]?=some v->AValRel G d R.nx x v:=λj x v Y e=>by
  rw[ko]at Y e;rw[aP,<-H]at e;split at Y
  .rename_i ab;rw[Wb ab]at e;exact I j x v Y e
  .rename_i ab;rw[Wa ab]at e;simp only[iM,hV]at Y;cases hcj:caps[j-Z.length]? with
   |none=>simp[hcj]at Y
   |some id=>
    simp[hcj]at Y;subst Y;obtain⟨L,N,M⟩:=U _ id v hcj e;exact⟨⟨L,M⟩,N⟩
 unfold xX at h;cases pZ:sg.fresh with
 |true=>
  rw[pZ]at h;exact QR z l t u q B C m n h p
 |false=>
  rw[pZ]at h;simp only[Wc]at h;split at h
  .rename_i A hA;split at h
   .exact QR z l t u q B C m n h p
   .obtain⟨qa1,E⟩:=l.frz A.lent;refine QR z E.rel t u q B C (by simpa using m) (λj x v Y e=>?_) h p;rw[hV]at Y;obtain⟨y,S,rfl⟩:=im.1 Y;exact E.val y v (n j y v S e)
  .cases h
end
section
variable{Q:World}{F:CS}{f:Slots}{Z G R:GH}{i:Nat->Nu}{b:ai}{c:Nat}{g j:St}{a:Act}{w K:World}{P:Program}{T:Tab}{Γ:Ctx}
def Done.wp{o}{j}(h:Done P Q F f Z o a w j){p}{k}
  (m:∀b K R d,Rel Q F f Z R d j b K->p b K):o.wp P a w p k:=by
 obtain⟨n,v,K,R,d,e,l,c⟩:=h;unfold Oper.wp;rw[e];rcases l with rfl|⟨rfl,rfl⟩
 .exact m _ _ _ _ c
 .exact m _ _ _ _ c
def Wpq{t}{x v}{j}(h:ql T g t x v=some j):({env:=g.env,objs:=j.objs,nx:=j.nx}:St)=j:=by
 unfold ql at h;split at h
 .split at h
  .split at h
   .injection h with h;subst h;rfl
   .cases h
  .cases h
 .split at h
  .split at h
   .split at h
    .injection h with h;subst h;rfl
    .cases h
   .split at h
    .split at h
     .split at h
      .injection h with h;subst h;rfl
      .cases h
     .cases h
    .cases h
  .cases h
 .cases h
def lB{R:Type}{c}{x}{r:R}(h:(bif c then x else none)=some r):c=true/\x=some r:=by
 cases c
 .cases h
 .exact⟨rfl,h⟩
def mY{R:Type}{c}[Decidable c]{x}{r:R}(h:(if c then x else none)=some r):c/\x=some r:=by
 split at h
 .exact⟨by assumption,h⟩
 .cases h
def WoJ{e}{ps}{R}{k}{r:R}(h:rQ g e ps k=some r):
  ∃x a d m,ps= [(0,x)]/\oF (xU g.objs (xC e x) x)=some a/\d9 e a (uR g.objs (xC e x))=some (d,m,[])/\iE m=true/\
   k (.s (.one (.own g.nx))) ((g.nx,.arr e [d])::kill (uR g.objs (xC e x)) m) (g.nx+1)=some r:=by
 match ps with
 | [p]=>
  simp only[rQ]at h;obtain⟨f,h⟩:=mY h;split at h
  .rename_i a i;split at h
   .rename_i d m c;obtain⟨b,h⟩:=mY h;exact⟨p.2,a,d,m,by rw[<-f],i,c,b,h⟩
   .cases h
  .cases h
 | []=>cases h
 |_::_::_=>cases h
def Rb(l:bv P T)(t:Rel Q F f Z G i g a w){o:Oper}(m:∀n,o.dst=some n->f.Ok n){q:Type}{k:St->Option q}{r}
  (h:(match dI T g o.op with|some (c,v)=>bif c then k (({env:=g.env,objs:=g.objs,nx:=g.nx}:St).put o.dst v)else none|none=>none)=some r)
  {u} {p} (s:∀j b K R d,Rel Q F f Z R d j b K->k j=some r->u b K):o.wp P a w u p:=by
 split at h
 .rename_i c v hp;obtain⟨rfl,h⟩:=lB h;exact(Wuf l t m hp).wp λb K R d e=>s _ _ _ _ _ e h
 .cases h
def Sa(H:bv P T)(hΓ:ji P Γ)(z:Rel Q F f Z G i g a w){o:Oper}(D:∀d,o.dst=some d->f.Ok d){qa4}{qa6}{k}{r:qa6}(h:rx1 T Γ qa4 o g k=some r)
  {qa9} {qa5} (C:∀j E K R m,Rel Q F f Z R m j E K->k j=some r->qa9 E K):o.wp P a w qa9 qa5:=by
 unfold rx1 rxe at h;split at h
 .rename_i t ho;split at h
  .rename_i e n et hl;obtain⟨u,h⟩:=mY h;simp only[Xl]at u;exact(WmZ H z D ho hl u.1 u.2).wp λE K R m b=>C _ _ _ _ _ b h
  .rename_i O _ hl;obtain⟨u,h⟩:=mY h;exact(Wte H z D ho hl u).wp λE K R m b=>C _ _ _ _ _ b h
  .cases h
 .rename_i t x ho;split at h
  .rename_i O cs hl B;cases hv:ev g x with
   |none=>simp[hv]at B
   |some v=>
    simp only[hv,Xd]at B;exact(WyC z D ho hv B).wp λE K R m b=>C _ _ _ _ _ b h
  .cases h
 .rename_i t parts ho;split at h
  .rename_i ty fs ps hl dt;obtain⟨u,h⟩:=mY h;split at h
   .rename_i cs J;refine(Ws2 H z D ho hl dt J ?_).wp λE K R m b=>C _ _ _ _ _ b h;intro qa7 J;have:=cS.1 u qa7 J;split at this
    .rename_i O cT;exact⟨O,cT,this⟩
    .cases this
   .cases h
  .cases h
 .rename_i t n parts ho;split at h
  .rename_i ty et ps hl dt;split at h
   .rename_i O aO;split at h
    .rename_i e _;obtain⟨u,h1⟩:=mY h;clear h;simp only[Xl,Wg]at u;obtain⟨⟨⟨S,M⟩,I⟩,dy⟩:=u;obtain⟨x,ds,d,qa3,rfl,kV,J,V,h⟩:=WoJ h1;clear h1;subst S;have V:=(JA _).1 V;obtain⟨qb0,L⟩:=z.frz (xC e x);obtain⟨Y,U⟩:=JX z _ _ dt;have fL:∃y,parts.toList= [(0,y)]/\AValRel G i g.nx x (a.eval y):=by
      match lK:parts.toList,Y with
      | [q],_=>
       rw[lK]at U;obtain⟨q1,q2⟩:=U 0 _ q rfl rfl;refine⟨q.2,?_,q2⟩;have:q=(0,q.2):=Prod.ext q1.symm rfl;rw[<-this]
     obtain⟨y,BH,BI⟩:=fL;exact(Woo H L.rel D ho BH hl aO (L.val _ _ BI) kV J V M I dy).wp λE K R m b=>C _ _ _ _ _ b h
    split at h
    .rename_i l J;obtain⟨u,h⟩:=mY h;simp only[Xl,Wg]at u;obtain⟨qb0,L⟩:=z.frz (Ln ps);obtain⟨Y,U⟩:=JX z _ _ dt;exact(WkB H L.rel D ho hl aO (by simpa [Qx]using Y) (λqa8 p q I hq=>by
      simp only[Qx,hV]at I;obtain⟨y,hy,rfl⟩:=im.1 I;exact⟨(U qa8 y q hy hq).1,L.val _ _ (U qa8 y q hy hq).2⟩) J u.1.1 u.1.2 u.2).wp λE K R m b=>C _ _ _ _ _ b h
    .cases h
   .cases h
  .cases h
 .rename_i t n c ho;split at h
  .rename_i ty et n' c' hl S u;split at h
   .rename_i O aO;obtain⟨k1,oQ⟩:∃k,a.eval n= .int k n':=by
     cases hv:ev g n with
     |none=>simp[hv]at S
     |some v=>simp only[hv,Xd]at S;exact Hf _ _ _ (W2 z n _ hv) S
    obtain⟨k2,jr⟩:∃k,a.eval c= .int k c':=by
     cases hv:ev g c with
     |none=>simp[hv]at u
     |some v=>simp only[hv,Xd]at u;exact Hf _ _ _ (W2 z c _ hv) u
    split at h
    .obtain⟨N,h⟩:=mY h;obtain⟨B,h⟩:=lB h;simp only[Xl,Wg]at B N;exact(WkC H z D ho hl aO oQ jr B.1.1 B.1.2 B.2 N.1 N.2).wp λE K R m b=>C _ _ _ _ _ b h
    .obtain⟨N,h⟩:=mY h;obtain⟨B,h⟩:=lB h;simp only[Xl,Wg]at B N;exact(Wlm H z D ho hl aO oQ jr B.1.1 B.1.2 B.2 N.1 N.2).wp λE K R m b=>C _ _ _ _ _ b h
   .cases h
  .cases h
 .rename_i t x y ho;split at h
  .rename_i p v I hv;split at h
   .rename_i j A;split at h
    .rename_i lM;have h:k (({env:=g.env,objs:=j.objs,nx:=j.nx}:St).put o.dst (.tup []))=some r:=h;obtain⟨qb0,L⟩:=z.frz (zU g.objs p v);have dh:=Wpq A;simp only at dh;rw[dh,lM]at h;exact(WtP H L.rel ho lM (AValRel.mono L.le (λ_ _=>rfl) (Xj _) _ _ (W2 z x _ I)) (L.val _ _ (W2 z y _ hv)) A).wp λE K R m b=>C _ _ _ _ _ b h
    .cases h
   .cases h
  .cases h
 .rename_i t x lo hi ho;split at h
  .rename_i id hx;split at h
   .rename_i ty et qa2 hh hl bZ tc;split at h
    .rename_i O aO;split at h
     .obtain⟨I,h⟩:=mY h;obtain⟨j,W,X⟩:=Wwm H z D ho hx hl aO I bZ tc h;exact X.wp λE K R m b=>C _ _ _ _ _ b W
     .split at h
      .rename_i h' e l _ aS;obtain⟨⟨M,I⟩,h⟩:=mY h;obtain⟨B,h⟩:=lB h;simp only[Xl,Wg]at B;exact(WtI H z D ho hx hl aO I M aS bZ tc B.1 B.2).wp λE K R m b=>C _ _ _ _ _ b h
      .rename_i h' e l qa1 p _ aS;obtain⟨⟨M,I,xk⟩,h⟩:=mY h;obtain⟨B,h⟩:=lB h;simp only[Xl,Wg]at B;exact(Wlb H z D ho hx hl aO I M aS xk bZ tc B.1.1 B.1.2 B.2).wp λE K R m b=>C _ _ _ _ _ b h
      .cases h
    .cases h
   .cases h
  .rename_i hx;exact Rb H z D (by rw[ho];rw[ho]at h;exact h) C
 .rename_i c ho;split at h
  .rename_i s x t t2 u ha eU;split at h
   .rename_i sv xv A hx;obtain⟨j,W,X⟩:=WqB H z D ho u ha eU A hx h;exact X.wp λE K R m b=>C _ _ _ _ _ b W
   .cases h
  .rename_i x t u ha eU;split at h
   .rename_i id lo hi hx;split at h
    .rename_i ty et e l hl aS;split at h
     .rename_i O aO;obtain⟨⟨M,I,bB⟩,h⟩:=mY h;exact(WsP H z D ho u ha eU hx hl aO aS M I bB).wp λE K R m b=>C _ _ _ _ _ b h
     .cases h
    .cases h
   .cases h
  .exact Rb H z D h C
  .rename_i qa7 args _ u;split at h
   .rename_i qa0 caps l J nU;split at h
    .rename_i sg qU;exact WBu hΓ z D ho u J nU qU h C
    .cases h
   .cases h
  .cases h
 .exact Rb H z D h C
end
section
variable{S:World}{F:CS}{nt:Slots}{G0 G d:GH}{t h:Nat->Nu}{Z N:Nat->CS}{b i:ai}{c f:Nat}{l an:St}{a:Act}{w e:World}{P:Program}{T:Tab}{g:Ctx}
def Rel.rebind(h:Rel S F nt G0 G t l a w){i:Nat}{x}{v}(c:a.tmps[i]?=some v)(d:AValRel G t l.nx x v):Rel S F nt G0 G t (l.put (some i) x) a w:=
 ⟨h.defers,h.ntm,h.par,λj y b=>by
  simp only[St.put]at b;rw[WZ]at b;split at b
  .rename_i e;subst e;injection b with b;subst b;exact⟨v,c,d⟩
  .exact h.env j y b,h.h,h.gx⟩
def CellsRel.set{d}{m}(h:CellsRel G t c d m){i}{g}(f:∀v,m[i]?=some v->CellRel G t c g v):CellsRel G t c (d.set i g) m:=by
 refine⟨by simp[h.1],λj k v a b=>?_⟩;rw[List.getElem?_set]at a;split at a
 .rename_i e;subst e;split at a
  .rename_i ab;injection a with a;subst a;exact⟨f v b,(h.2 i d[i] v (Xq ab) b).2⟩
  .cases a
 .exact h.2 j k v a b
def HRel.mk_box(h:HRel S F G t b c w){id}{d j}(e:look b id=some (.box d))(r:j.length=d.length)
  (l:∀a,CellsRel G t c d a->CellsRel G t c j a):HRel S F G t ((id,.box j)::b) c w:=by
 obtain⟨Z,h⟩:=h;have q:Live b id:=⟨_,e,Δ⟩;obtain⟨p,a,f,g,i,s,k⟩:gy G t c w id (Z id) (.box d):=h.ob _ _ e;exact⟨_,h.put (x:=t) (m:=[]) (λ_ _=>rfl) (Xj _) (h.lt id q) (WLe.refl _ w) (λp o n=>.inl ⟨id,.inl rfl,q,n⟩) (λ_=>⟨p,a,f,by rw[r];exact g,i,l _ s,by rw[r];exact k⟩)⟩
def HRel.empt(h:HRel S F G t b c w){id}{e e'}(f:look b id=some (.arr e' []))(s:e.size=e'.size):HRel S F G t ((id,.arr e [])::b) c w:=by
 obtain⟨Z,h⟩:=h;have x:Live b id:=⟨_,f,Δ⟩;have a:gy G t c w id (Z id) (.arr e' []):=h.ob _ _ f;have a:az w (WL G w e') e'.size (t id) [] (Z id):=a;refine⟨_,h.put (x:=t) (m:=[]) (λ_ _=>rfl) (Xj _) (h.lt id x) (WLe.refl _ w) (λu o r=>.inl ⟨id,.inl rfl,x,r⟩) (λ_=>?_)⟩;show az w (WL G w e) e.size (t id) [] (Z id);rw[s];unfold az at*;refine⟨a.1,a.2.1,?_⟩;have d:=a.2.2;cases hb:(t id).blk with
 |none=>rfl
 |some u=>
  rw[hb]at d;obtain⟨g,i,j,q,v,k,l,n,p⟩:=d;exact⟨g,i,j,q,v,by simpa [dU]using k,l,n,p⟩
def HRel.adopt(h:HRel S F G t b c w)(e):HRel S F G (upd t c ⟨none,0,0,0,e.size⟩) ((c,.arr e [])::b) (c+1) w:=by
 obtain⟨Z,h⟩:=h;refine⟨_,h.put (m:=[]) (S:=λ_ _=>False) (Hr t c _) (EG _) (nq _) (WLe.refl _ w) (λd o a=>a.elim) (λ_=>?_)⟩;show az _ _ _ (upd t c ⟨none,0,0,0,e.size⟩ c) _ _;rw[jf];exact⟨rfl,rfl,rfl⟩
def WsW(e:Ty):CellRel G (upd t c ⟨none,0,0,0,e.size⟩) (c+1) (.own c) (.slice none 0 0):=
 ⟨nq _,by rw[jf];rfl⟩
def Wtw(qa4:Rel S F nt G0 G t l a w){r i}{e}{L}(bZ:look l.objs r=some (.arr e L))(hi:i<L.length)(hg:LG l r i=some an):
  ∃h b,Rel S F nt G0 G h an a w/\l.nx<an.nx/\(t r).blk=some b/\(h l.nx)=fA b ((t r).off+i*(t r).esz)/\an.env=l.env:=by
 unfold LG at hg;rw[bZ]at hg;simp only[Option.some.injEq]at hg;subst hg;obtain⟨Z,K⟩:=qa4.h;have P:Live l.objs r:=⟨_,bZ,Δ⟩;have aF:az w (WL G w e) e.size (t r) L (Z r):=K.ob _ _ bZ;obtain⟨g1,g2,g3⟩:=aF;have xy:=K.lt r P;cases hb:(t r).blk with
 |none=>simp only[hb]at g3;rw[g3]at hi;simp at hi
 |some b=>
  simp only[hb]at g3;obtain⟨g4,g5,g6,cs,ps,g7,g8,g9,ww⟩:=g3;obtain⟨c1,c,c2,U,Y,V,k1,k2,k3,k4,k5⟩:=Rm g7 e.dflt hi;have l1:=ma (λx c q hx=>WV e x c q hx) _ _ _ k3;rw[gv,jB Ω]at l1;have lc:=WV _ _ _ _ k4;have lo:=pi _ _ _ _ k4;have e1:(i+1)*e.size=i*e.size+e.size:=Nat.succ_mul i e.size;have e2:((t r).cap-(i+1))*e.size+(i+1)*e.size=(t r).cap*e.size:=by rw[<-o5];congr 1;omega
  have uv:=pl e (L.getD i e.dflt) (l.nx+1);have eD:=zw e (L.getD i e.dflt) (l.nx+1);rw[k1]at g8;have m1:Mem w b (t r).off c1:=g8.left;have m2:Mem w b ((t r).off+i*e.size) c:=(g8.right l1).left;have m3:Mem w b ((t r).off+(i+1)*e.size) c2:=by
   have:=(g8.right l1).right lc;rw[gU,<-e1]at this;exact this
  obtain⟨q1,q2⟩:=Xz.1 g9;have jJ:=ww _ (Xg ..);have pV:∀p∈U++(Y++V),CS.le p.fp (Z r):=λp k=>ww _ (Xe _ (ju (by rw[k2];exact k)));have W:∀p∈U++(Y++V),CS.disj (rng b (t r).off ((t r).cap*e.size)) p.fp:=λp k=>q1 _ (ju (by rw[k2];exact k));rw[k2,Xw,Xw]at q2;obtain⟨s1,s2,s3⟩:=dZ.1 q2;obtain⟨s4,s5,s6⟩:=dZ.1 s2;have rA:CS.le (rng b (t r).off (i*e.size)) (rng b (t r).off ((t r).cap*e.size)):=λb o ⟨x0,v,z⟩=>⟨x0,Ω,Ω⟩;have rB:CS.le (rng b ((t r).off+i*e.size) e.size) (rng b (t r).off ((t r).cap*e.size)):=λb o ⟨x0,v,z⟩=>⟨x0,Ω,Ω⟩;have rC:CS.le (rng b ((t r).off+(i+1)*e.size) (((t r).cap-(i+1))*e.size)) (rng b (t r).off ((t r).cap*e.size)):=λb o ⟨x0,v,z⟩=>⟨x0,Ω,Ω⟩;obtain⟨SR,qa5⟩:∃SR:CS,SR= λf o=>rng b (t r).off (i*e.size) f o\/rng b ((t r).off+(i+1)*e.size) (((t r).cap-(i+1))*e.size) f o\/∃p∈U++V,p.fp f o:=⟨_,rfl⟩;have hSRφ:CS.le SR (Z r):=λb o g=>by
   rw[qa5]at g;rcases g with g|g|⟨p,k,g⟩
   .exact jJ b o (rA b o g)
   .exact jJ b o (rC b o g)
   .refine pV p ?_ b o g;rcases Xo.1 k with k|k
    .exact Xn _ k
    .exact Xk _ (Xk _ k)
  obtain⟨h,T⟩:∃h:Nat->Nu,h= λj=>if j<l.nx then t j else if j=l.nx then fA b ((t r).off+i*e.size)else((nus Y)[j-(l.nx+1)]?).getD ⟨none,0,0,0,0⟩:=⟨_,rfl⟩;obtain⟨N,qa6⟩:∃N:Nat->CS,N= λj=>if j=r then SR else if j<l.nx then Z j else if j=l.nx then rng b ((t r).off+i*e.size) e.size else((fps Y)[j-(l.nx+1)]?).getD (λ_ _=>False):=⟨_,rfl⟩;have C:q6 l.nx t h:=λj n=>by rw[T];simp[n]
  have I:h l.nx=fA b ((t r).off+i*e.size):=by rw[T];simp
  have hφr:N r=SR:=by rw[qa6];simp
  have hφp:N l.nx=rng b ((t r).off+i*e.size) e.size:=by rw[qa6];simp;omega
  have qa1:∀j,j<l.nx->j≠r->N j=Z j:=λj n hn=>by rw[qa6];simp[n,hn]
  have qa3:At h N (l.nx+1) Y:=λj q n=>by
   have v:(nus Y)[j]?=some q.nu:=by unfold nus;rw[hV,n];rfl
   have z:(fps Y)[j]?=some q.fp:=by unfold fps;rw[hV,n];rfl
   rw[T,qa6];constructor
   .show(if l.nx+1+j<l.nx then _ else if l.nx+1+j=l.nx then _ else _)=_;rw[Wa Ω,Wa Ω,AJ,v];rfl
   .show(if l.nx+1+j=r then _ else if l.nx+1+j<l.nx then _ else if l.nx+1+j=l.nx then _ else _)=_;rw[Wa Ω,Wa Ω,Wa Ω,AJ,z];rfl
  obtain⟨uc,uo⟩:=pf (N:=h) (U:=N) e (L.getD i e.dflt) (l.nx+1) c Y k4 qa3;have kv:∀d A,look ((r,Ob.hole e L i l.nx)::(l.nx,Ob.box (unfold e (L.getD i e.dflt) (l.nx+1)).1)::((unfold e (L.getD i e.dflt) (l.nx+1)).2.1++l.objs)) d=some A->A≠ .dead->
    (d=r/\A= .hole e L i l.nx)\/(d=l.nx/\A= .box (unfold e (L.getD i e.dflt) (l.nx+1)).1)\/(l.nx+1<=d/\d<l.nx+1+e.owns/\DY G h N w d A)\/(d≠r/\d<l.nx/\look l.objs d=some A):=λd A m Q=>by
   rw[WZ]at m;split at m
   .rename_i x;injection m with m;exact .inl ⟨x.symm,m.symm⟩
   .rename_i wy;rw[WZ]at m;split at m
    .rename_i x;injection m with m;exact .inr (.inl ⟨x.symm,m.symm⟩)
    .rcases tT m with m|m
     .obtain⟨v,z,B⟩:=uo d A m;exact .inr (.inr (.inl ⟨v,z,B⟩))
     .exact .inr (.inr (.inr ⟨λx=>wy x.symm,K.lt d ⟨A,m,Q⟩,m⟩))
  have iv:∀d f o,Live ((r,Ob.hole e L i l.nx)::(l.nx,Ob.box (unfold e (L.getD i e.dflt) (l.nx+1)).1)::((unfold e (L.getD i e.dflt) (l.nx+1)).2.1++l.objs)) d->N d f o->
    (d=r/\SR f o)\/(d=l.nx/\rng b ((t r).off+i*e.size) e.size f o)\/(∃(j:Nat) (q:Pc),d=l.nx+1+j/\Y[j]?=some q/\q.fp f o)\/(d≠r/\d<l.nx/\Live l.objs d/\Z d f o):=λd f o ⟨A,m,Q⟩ k=>by
   rcases kv d A m Q with⟨rfl,_⟩|⟨rfl,_⟩|⟨v,z,_⟩|⟨v,z,B⟩
   .rw[hφr]at k;exact .inl ⟨rfl,k⟩
   .rw[hφp]at k;exact .inr (.inl ⟨rfl,k⟩)
   .right;right;left;have ab:d-(l.nx+1)<Y.length:=Ω
    refine⟨d-(l.nx+1),Y[d-(l.nx+1)],Ω,Xq ab,?_⟩;have:=(qa3 (d-(l.nx+1)) _ (Xq ab)).2;rw[show l.nx+1+(d-(l.nx+1))=d by omega]at this;rw[this]at k;exact k
   .rw[qa1 d z v]at k;exact .inr (.inr (.inr ⟨v,z,⟨A,B,Q⟩,k⟩))
  have hq:∀(j:Nat) (q:Pc),Y[j]?=some q->q∈U++(Y++V):=λj q n=>Xk _ (Xn _ (nl n));have J:∀d f o,(d=r/\SR f o)\/(d=l.nx/\rng b ((t r).off+i*e.size) e.size f o)\/(∃(j:Nat) (q:Pc),d=l.nx+1+j/\Y[j]?=some q/\q.fp f o)->Z r f o:=λd f o g=>by
   rcases g with⟨_,g⟩|⟨_,g⟩|⟨j,q,_,n,g⟩
   .exact hSRφ f o g
   .exact jJ f o (rB f o g)
   .exact pV q (hq j q n) f o g
  have hH:HR S F G h N ((r,Ob.hole e L i l.nx)::(l.nx,Ob.box (unfold e (L.getD i e.dflt) (l.nx+1)).1)::((unfold e (L.getD i e.dflt) (l.nx+1)).2.1++l.objs)) (l.nx+1+e.owns) w:=by
   refine K.step (WLe.refl _ w) (λd A m Q=>?_) (λd ⟨A,m,Q⟩=>?_) (λd f o kg k=>?_) (λd f o kg k=>?_) (λd D f o m bw k fM=>?_)
   .rcases kv d A m Q with⟨rfl,rfl⟩|⟨rfl,rfl⟩|⟨v,z,e',wF,rfl,B⟩|⟨v,z,B⟩
    .refine⟨Ω,?_⟩;rw[hφr,C d xy,I];refine⟨g1,g2,hi,b,hb,rfl,rfl,g4,g5,g6,c1,c2,U,V,k3,k5,m1,m3,?_,λs H f o g=>?_⟩
     .refine Xz.2 ⟨λs H=>?_,Xz.2 ⟨λs H=>?_,?_⟩⟩
      .rcases Xr.1 H with rfl|H
       .exact WxB Ω
       .obtain⟨p,k,rfl⟩:=Xy.1 H;refine(W p ?_).mono rA (λ_ _ g=>g);rcases Xo.1 k with k|k
        .exact Xn _ k
        .exact Xk _ (Xk _ k)
      .obtain⟨p,k,rfl⟩:=Xy.1 H;refine(W p ?_).mono rC (λ_ _ g=>g);rcases Xo.1 k with k|k
       .exact Xn _ k
       .exact Xk _ (Xk _ k)
      .rw[Xw];exact dZ.2 ⟨s1,s5,λs H qa0 ht=>s3 s H qa0 (Xk _ ht)⟩
     .rw[qa5];rcases Xr.1 H with rfl|H
      .exact .inl g
      .rcases Xr.1 H with rfl|H
       .exact .inr (.inl g)
       .obtain⟨p,k,rfl⟩:=Xy.1 H;exact .inr (.inr ⟨p,k,g⟩)
    .refine⟨b,c,by rw[I];rfl,?_,by rw[I];exact m2,uc _ (Xj _),?_⟩
     .rw[I,eD];obtain⟨row,TT,u,X⟩:=g6;exact⟨row,TT,u,by show(t r).off+i*e.size+e.size<=row.size;omega⟩
     .rw[I,eD,hφp];exactλ_ _ g=>g
    .exact B
    .rw[qa1 d z v];exact Gw (λ_ _ _ g=>g) (Same.refl _ w) (λ_ _ g=>g) C Ω z A (K.ob d A B)
   .rcases kv d A m Q with⟨rfl,_⟩|⟨rfl,_⟩|⟨_,z,_⟩|⟨_,z,_⟩<;>omega
   .rcases iv d f o kg k with g|g|g|⟨_,_,B,R⟩
    .exact .inl ⟨r,P,J d f o (.inl g)⟩
    .exact .inl ⟨r,P,J d f o (.inr (.inl g))⟩
    .exact .inl ⟨r,P,J d f o (.inr (.inr g))⟩
    .exact .inl ⟨d,B,R⟩
   .rcases iv d f o kg k with g|g|g|⟨_,_,B,R⟩
    .exact K.bl r f o P (J d f o (.inl g))
    .exact K.bl r f o P (J d f o (.inr (.inl g)))
    .exact K.bl r f o P (J d f o (.inr (.inr g)))
    .exact K.bl d f o B R
   .have out:∀D,D≠r->Live l.objs D->Z D f o->Z r f o->False:=λD u X O y4=>u (K.inj D r f o X P O y4);have M:SR f o->∀s,(s=rng b ((t r).off+i*e.size) e.size\/∃q∈Y,s=q.fp)->s f o->False:=λu s X O=>by
     rw[qa5]at u;rcases X with rfl|⟨q,mW,rfl⟩
     .rcases u with u|u|⟨p,k,u⟩
      .obtain⟨z0,z1,z2⟩:=u;obtain⟨z3,z4,z5⟩:=O;omega
      .obtain⟨z0,z1,z2⟩:=u;obtain⟨z3,z4,z5⟩:=O;omega
      .refine W p ?_ f o (rB f o O) u;rcases Xo.1 k with k|k
       .exact Xn _ k
       .exact Xk _ (Xk _ k)
     .have uw:q∈U++(Y++V):=Xk _ (Xn _ mW);rcases u with u|u|⟨p,k,u⟩
      .exact W q uw f o (rA f o u) O
      .exact W q uw f o (rC f o u) O
      .rcases Xo.1 k with k|k
       .exact s3 _ (ju k) _ (Xn _ (ju mW)) f o u O
       .exact s6 _ (ju mW) _ (ju k) f o O u
    have qa2:∀(j:Nat) (q:Pc),Y[j]?=some q->rng b ((t r).off+i*e.size) e.size f o->q.fp f o->False:=λj q n u X=>W q (hq j q n) f o (rB f o u) X;rcases iv d f o m k with g|g|g|⟨v,z,B,R⟩<;>rcases iv D f o bw fM with E|E|E|⟨xz,x2',wG,wH⟩
    .rw[g.1,E.1]
    .exact(M g.2 _ (.inl rfl) E.2).elim
    .obtain⟨j,q,_,n,y⟩:=E;exact(M g.2 _ (.inr ⟨q,nl n,rfl⟩) y).elim
    .exact(out D xz wG wH (J d f o (.inl g))).elim
    .exact(M E.2 _ (.inl rfl) g.2).elim
    .rw[g.1,E.1]
    .obtain⟨j,q,_,n,y⟩:=E;exact(qa2 j q n g.2 y).elim
    .exact(out D xz wG wH (J d f o (.inr (.inl g)))).elim
    .obtain⟨j,q,_,n,y⟩:=g;exact(M E.2 _ (.inr ⟨q,nl n,rfl⟩) y).elim
    .obtain⟨j,q,_,n,y⟩:=g;exact(qa2 j q n E.2 y).elim
    .obtain⟨j,q,cr,n,y⟩:=g;obtain⟨j',q',xA,br,y'⟩:=E;have v:(fps Y)[j]?=some q.fp:=by unfold fps;rw[hV,n];rfl
     have z:(fps Y)[j']?=some q'.fp:=by unfold fps;rw[hV,br];rfl
     have:=Lk (l:=fps Y) s4 v z y y';rw[cr,xA,this]
    .exact(out D xz wG wH (J d f o (.inr (.inr g)))).elim
    .exact(out d v B R (J D f o (.inl E))).elim
    .exact(out d v B R (J D f o (.inr (.inl E)))).elim
    .exact(out d v B R (J D f o (.inr (.inr E)))).elim
    .exact K.inj d D f o B wG R wH
  refine⟨h,b,?_,?_,rfl,by rw[I,g2],rfl⟩
  .have:=qa4.on (λ_ _ _ g=>g) C Ω ⟨N,hH⟩ qa4.gx;rw[uv];exact this
  .show l.nx<(unfold e (L.getD i e.dflt) (l.nx+1)).2.2;rw[uv];omega
end
def wT:∀(l) (i j),qK i l=some j->l[j]?=some i
 | [],i,j,h=>by cases h
 |k::l,i,j,h=>by
  simp only[qK]at h;split at h
  .rename_i hb;injection h with h;subst h;have:i=k:=by simpa using hb
   rw[this];rfl
  .cases hp:qK i l with
   |none=>simp[hp]at h
   |some n=>
    simp[hp]at h;subst h;exact wT l i n hp
def Vs{m}:∀(l r),HB m l=some r->r.length=l.length/\∀(q j:Nat),r[q]?=some j->∃i,l[q]?=some i/\m[j]?=some i
 | [],r,h=>by simp[HB]at h;subst h;exact⟨rfl,λq j a=>by simp at a⟩
 |i::l,r,h=>by
  simp only[HB]at h;split at h
  .rename_i j r' h1 h2;injection h with h;subst h;obtain⟨b,c⟩:=Vs l r' h2;refine⟨by simp[b],λq d a=>?_⟩;cases q with
   |zero=>simp at a;subst a;exact⟨i,rfl,wT m i j h1⟩
   |succ q=>exact c q d (by simpa using a)
  .cases h
def CU:∀(n) (todo acc) (j),acc.Nodup->(va n todo acc j).Nodup
 |0,_,_,_,h=>h
 |n+1,[],acc,j,h=>h
 |n+1,i::l,acc,j,h=>by
  simp only[va];split
  .exact CU n l acc j h
  .rename_i a;have f:i∉acc:=λc=>a ((nN i acc).2 c);have g:(acc++ [i]).Nodup:=by
    rw[gI];refine⟨h,Δ,λx d y b=>?_⟩;simp at b;subst b
    exactλe=>f (e▸d)
   split
   .exact CU n _ _ j g
   .exact CU n _ _ j g
   .exact CU n _ _ j g
   .exact CU n _ _ j h
def UD{m}{a}:∀(l) (p) (j) (c),look (uG m a p l) j=some c->∃i dQ,p<=j/\l[j-p]?=some i/\look a i=some dQ/\c=HD m dQ
 | [],p,j,c,h=>by cases h
 |i::l,p,j,c,h=>by
  simp only[uG]at h;have b:look (uG m a (p+1) l) j=some c->∃d dQ,p<=j/\(i::l)[j-p]?=some d/\look a d=some dQ/\c=HD m dQ:=λh=>by
   obtain⟨d,dQ,o,f,g,k⟩:=UD l (p+1) j c h;refine⟨d,dQ,Ω,?_,g,k⟩;rw[show j-p=(j-(p+1))+1 by omega];simpa using f
  split at h
  .rename_i dQ n;rw[WZ]at h;split at h
   .rename_i e;subst e;injection h with h;exact⟨i,dQ,Xj _,Δ,n,h.symm⟩
   .exact b h
  .exact b h
def PG{a}{f:AVal->AVal}:∀(l) (i) (x),look ((zX a l).map λp=>(p.1,f p.2)) i=some x->∃y,look a i=some y/\x=f y
 | [],i,x,h=>by cases h
 |j::l,i,x,h=>by
  simp only[zX]at h;split at h
  .rename_i y b;simp only[bo]at h;rw[WZ]at h;split at h
   .rename_i e;subst e;injection h with h;exact⟨y,b,h.symm⟩
   .exact PG l i x h
  .exact PG l i x h
section
variable{O:World}{F:CS}{Q:Slots}{S G d:GH}{x N:Nat->Nu}{b j:ai}{c f:Nat}{g i:St}{a:Act}{w e:World}{P:Program}{T:Tab}{h:Ctx}
structure Ren(m:List Nat)(x N:Nat->Nu)(f:Nat):Prop where
 nx:∀(i j:Nat),m[j]?=some i->j<f
 nu:∀(i j:Nat),m[j]?=some i->N j=x i
def CellRel.ren{m}(b:Ren m x N f):∀(C) (v),CellRel G x c C v->CellRel G N f (qo m C) v
 | .val t E,v,h=>h
 | .nils,v,h=>h
 | .rptr t E D,v,h=>h
 | .junk,v,h=>h
 | .own e,v,h=>by
  simp only[qo];split
  .rename_i j a;have a:=wT _ _ _ a;exact⟨b.nx _ _ a,by rw[b.nu _ _ a];exact h.2⟩
  .trivial
 | .vw e d H,v,h=>by
  simp only[qo];split
  .rename_i j a;have a:=wT _ _ _ a;exact⟨b.nx _ _ a,by rw[b.nu _ _ a];exact h.2⟩
  .trivial
 | .aptr e,v,h=>by
  simp only[qo];split
  .rename_i j a;have a:=wT _ _ _ a;exact⟨b.nx _ _ a,by rw[b.nu _ _ a];exact h.2⟩
  .trivial
 | .ptr e D,v,h=>by
  simp only[qo];split
  .rename_i j a;have a:=wT _ _ _ a;exact⟨b.nx _ _ a,by rw[b.nu _ _ a];exact h.2⟩
  .trivial
 | .eptr e i D,v,h=>by
  simp only[qo];split
  .rename_i j a;have a:=wT _ _ _ a;exact⟨b.nx _ _ a,by rw[b.nu _ _ a];exact h.2⟩
  .trivial
 | .clos I caps,v,h=>by
  simp only[qo];split
  .rename_i js a;obtain⟨l,n⟩:=Vs _ _ a;obtain⟨z,o,p,r⟩:=h;refine⟨z,o,p.trans l.symm,λq e u B y=>?_⟩;obtain⟨i,s,g⟩:=n q e B;obtain⟨A,w,k⟩:=r q i u s y;exact⟨b.nx _ _ g,w,by rw[b.nu _ _ g];exact k⟩
  .trivial
def CellsRel.ren{m}(n:Ren m x N f){d}{l}(h:CellsRel G x c d l):CellsRel G N f (d.map (qo m)) l:=by
 refine⟨by simp[h.1],λj i v a g=>?_⟩;simp only[hV]at a;cases hd:d[j]? with
 |none=>simp[hd]at a
 |some k=>
  simp[hd]at a;subst a;obtain⟨b,e⟩:=h.2 j k v hd g;exact⟨b.ren n,e⟩
def AvRel.ren{m}(a:Ren m x N f):∀(k) (v),AvRel G x c k v->AvRel G N f (Oj m k) v
 | .one i,v,h=>⟨h.1.ren a,h.2⟩
 | .agg d,v,⟨e,b,j⟩=>⟨e,b,j.ren a⟩
def AValRel.ren{m}(b:Ren m x N f):∀(k) (v),AValRel G x c k v->AValRel G N f (Rr m k) v
 | .s k,v,h=>AvRel.ren b k v h
 | .tup n,v,⟨i,l,e,o⟩=>⟨i,l,by simp[e],λj k u a g=>by
  simp only[hV]at a;cases hd:n[j]? with
  |none=>simp[hd]at a
  |some d=>
   simp[hd]at a;subst a;exact AvRel.ren b d u (o j d u hd g)⟩
def WwI(slots)(h:Rel O F Q S G x g a w):∃N,Rel O F Q S G N (canon slots g) a w:=by
 obtain⟨m,E⟩:∃m,m=va 400 ((zX g.env slots).flatMap λp=>kH p.2) [] g.objs:=⟨_,rfl⟩;have qa3:m.Nodup:=by rw[E];exact CU _ _ _ _ Δ
 have Y:canon slots g={env:=(zX g.env slots).map λp=>(p.1,Rr m p.2),objs:=uG m g.objs 0 m,nx:=m.length}:=by rw[E];rfl
 obtain⟨N,C⟩:∃N:Nat->Nu,N= λj=>x ((m[j]?).getD 0):=⟨_,rfl⟩;have n:∀(i j:Nat),m[j]?=some i->N j=x i:=λi j f=>by rw[C];simp[f]
 have K:∀(j:Nat) (ob:Ob),look (uG m g.objs 0 m) j=some ob->∃i dQ,m[j]?=some i/\look g.objs i=some dQ/\ob=HD m dQ:=λj ob z=>by
  obtain⟨i,dQ,_,d,u,B⟩:=UD _ _ _ _ z;exact⟨i,dQ,by simpa using d,u,B⟩
 have L:Ren m x N m.length:={
  nx:=λi j f=>(iW.1 f).1
  nu:=n}
 have t:∀j,Live (uG m g.objs 0 m) j->∃i,m[j]?=some i/\Live g.objs i:=λj ⟨ob,z,V⟩=>by
  obtain⟨i,dQ,c,d,u⟩:=K j ob z;refine⟨i,c,dQ,d,λP=>V ?_⟩;rw[u,P];rfl
 rw[Y];refine⟨N,h.defers,h.ntm,h.par,λi qa0 W=>?_,?_,h.gx⟩
 .obtain⟨y,c,rfl⟩:=PG _ _ _ W;obtain⟨v,d,u⟩:=h.env i y c;exact⟨v,d,AValRel.ren L y v u⟩
 .obtain⟨k,s⟩:=h.h;refine⟨λj=>k ((m[j]?).getD 0),?_⟩;have r:∀(i j:Nat),m[j]?=some i->k ((m[j]?).getD 0)=k i:=λi j f=>by simp[f]
  exact{
   g:=s.g
   ob:=λj ob z=>by
    obtain⟨i,dQ,c,d,rfl⟩:=K j ob z;have:=s.ob i dQ d;cases dQ with
    |dead=>trivial
    |arr e xs=>
     show az w (WL G w e) e.size (N j) xs (k ((m[j]?).getD 0));rw[n i j c,r i j c];exact this
    |hole e xs qa1 p=>
     simp only[HD];split
     .rename_i q A;have A:=wT _ _ _ A;obtain⟨g1,qa4⟩:=this;show q<m.length/\qE w (WL G w e) e.size (N j) (N q) xs qa1 (k ((m[j]?).getD 0));rw[n i j c,r i j c,n p q A];exact⟨(iW.1 A).1,qa4⟩
     .trivial
    |box cs=>
     obtain⟨b,Z,B,R,qa5,T,U⟩:=this;refine⟨b,Z,by rw[n i j c];exact B,?_,by rw[n i j c];exact qa5,T.ren L,?_⟩
     .rw[n i j c,aP];exact R
     .rw[n i j c,r i j c,aP];exact U
   gf:=λj b o f l=>by
    obtain⟨i,c,d⟩:=t j f;rw[r i j c]at l;exact s.gf i b o d l
   inj:=λj I b o f qa2 l D=>by
    obtain⟨i,c,d⟩:=t j f;obtain⟨H,J,X⟩:=t I qa2;rw[r i j c]at l;rw[r H I J]at D;have:=s.inj i H b o d X l D;subst this;have M:=(iW.1 c).1;exact(List.getElem?_inj M qa3).1 (c.trans J.symm)
   own:=λj b o f l=>by
    obtain⟨i,c,d⟩:=t j f;rw[r i j c]at l;exact s.own i b o d l
   lt:=λj f=>by
    obtain⟨i,c,d⟩:=t j f;exact(iW.1 c).1
   bl:=λj b o f l=>by
    obtain⟨i,c,d⟩:=t j f;rw[r i j c]at l;exact s.bl i b o d l
   le:=s.le}
def Yk{M}(h:Rel O F Q S G x g a w)(c:x5 M g=some (true,i)):∃d N,Rel O F Q S d N i a w:=by
 cases M with
 |canon slots=>
  simp only[x5]at c;injection c with c;injection c with _ c;subst c;obtain⟨N,C⟩:=WwI slots h;exact⟨G,N,C⟩
 |adoptC slot R e=>
  simp only[x5]at c;split at c
  .rename_i id Y;split at c
   .rename_i U f;split at c
    .rename_i hc;injection c with c;injection c with _ c;subst c;have q:g.nx≠id:=λe=>by
      obtain⟨W,H⟩:=h.h;have:=H.lt id ⟨_,f,Δ⟩;omega
     have l:=h.h.adopt e;have V:look ((g.nx,Ob.arr e [])::g.objs) id=some (.box U):=by rw[WZ,Wa q];exact f
     have k:=l.mk_box V (j:=U.set R (.own g.nx)) Δ (λJ n=>n.set λv m=>by
      have:v= .slice none 0 0:=(n.2 R _ v hc m).1;subst this;exact WsW e)
     exact⟨G,_,h.on (λ_ _ _ u=>u) (Hr x g.nx _) (EG _) k h.gx⟩
    .injection c with c;injection c with _ c;subst c;exact⟨G,x,h⟩
    .cases c
   .cases c
  .cases c
 |freezeC slot R=>
  simp only[x5]at c;split at c
  .rename_i id Y;split at c
   .rename_i U f;split at c
    .rename_i j hc;split at c
     .rename_i e Z qZ;injection c with c;injection c with _ c;subst c;obtain⟨y,t,l,k,p⟩:=h.h.freezeL h.gx [j];have q:j≠id:=λe=>by subst e;rw[f]at qZ;cases qZ
      have V:look ((j,Ob.dead)::g.objs) id=some (.box U):=by rw[WZ,Wa q];exact f
      have z:HRel O F y x ((id,.box (U.set R (.val (.slice e.ro) (gG e Z))))::(j,.dead)::g.objs) g.nx w:=by
       refine HRel.mk_box l V Δ (λJ n=>n.set λv m=>?_);have I:v=(x j).hdr:=(n.2 R _ v hc m).1.2;exact⟨v,rfl,I▸p j Δ e Z qZ⟩
      exact⟨y,x,h.on t (λ_ _=>rfl) (Xj _) z k⟩
     .cases c
    .injection c with c;injection c with _ c;subst c;exact⟨G,x,h⟩
    .injection c with c;injection c with _ c;subst c;exact⟨G,x,h⟩
    .cases c
   .cases c
  .cases c
 |empt slot e=>
  simp only[x5]at c;split at c
  .split at c
   .rename_i e' f;split at c
    .rename_i hc;injection c with c;injection c with _ c;subst c;exact⟨G,x,h.on (λ_ _ _ u=>u) (λ_ _=>rfl) (Xj _) (h.h.empt f hc.1) h.gx⟩
    .cases c
   .cases c
  .cases c
 |nest X e=>injection c with c;injection c with _ c;subst c;exact⟨G,x,h⟩
 |view X=>injection c with c;injection c with _ c;subst c;exact⟨G,x,h⟩
 |opn X=>injection c with c;injection c with _ c;subst c;exact⟨G,x,h⟩
 |unfE slot=>
  simp only[x5]at c;split at c
  .rename_i r qa0 Y;obtain⟨s,o,c⟩:=im.1 c;injection c with _ c;subst c;obtain⟨v,m,E⟩:=h.env _ _ Y;have K:∃(e:Ty) (Z:List e.den),look g.objs r=some (.arr e Z):=by
    unfold LG at o;split at o
    .rename_i e Z f;exact⟨e,Z,f⟩
    .cases o
   obtain⟨e,Z,f⟩:=K;obtain⟨⟨_,B,b,D,rfl⟩,_⟩:=E;obtain⟨qa1,A⟩:=h.h.obj f;obtain⟨N,L,t,l,k,p,z⟩:=Wtw h f (by rw[A.1];exact B) o;rw[D]at k;injection k with k;subst k;refine⟨G,N,t.rebind m ⟨⟨l,b,by rw[p];rfl,?_⟩,rfl⟩⟩;rw[p];rfl
  .cases c
def Gs:∀(l) (g i) (G) (x),Rel O F Q S G x g a w->pw l g=some (true,i)->∃d N,Rel O F Q S d N i a w
 | [],g,i,G,x,h,b=>by injection b with b;injection b with _ b;subst b;exact⟨G,x,h⟩
 |m::l,g,i,G,x,h,b=>by
  simp only[pw]at b;split at b
  .rename_i c s BJ;split at b
   .rename_i k s' hl;simp only[Option.some.injEq,Prod.mk.injEq,Xl]at b;obtain⟨⟨rfl,rfl⟩,rfl⟩:=b;obtain⟨j,f,e⟩:=Yk h BJ;exact Gs l s s' j f e hl
   .cases b
  .cases b
end
section
variable{T:Tab}{e:Ctx}{c BL:List (Nat×AVal)}{a f:ai}{b d:Nat}
def I1{b d}:∀(l),(∀p∈l,ev d p.2=ev b p.2)->pq d l=pq b l
 | [],_=>rfl
 |(i,x)::l,h=>by
  have a:ev d x=ev b x:=h (i,x) (Xg ..);simp only[pq,a,I1 l λp c=>h p (Xe _ c)]
def Yu{b c}:∀(l),(∀x∈l,ev c x=ev b x)->evs c l=evs b l
 | [],_=>rfl
 |x::l,h=>by simp only[evs,h x (Xg ..),Yu l λp a=>h p (Xe _ a)]
def Vh{b c}:∀(l),(∀x∈l,ev c x=ev b x)->uY c l=uY b l
 | [],_=>rfl
 |x::l,h=>by simp only[uY,h x (Xg ..),Vh l λp a=>h p (Xe _ a)]
def VX{a b}(x)(h:∀y∈x.toList,ev b y=ev a y):j0 b x=j0 a x:=by
 cases x with
 |none=>rfl
 |some y=>simp only[j0,h y Δ]
def sa(b c:St)(v:AVal):Prop:=∀a∈kH v,look c.objs a=look b.objs a
def Wrj{a f}{t}{v}(h:sa a f v):xF T f t v=xF T a t v:=by
 unfold xF;cases v with
 |tup d=>rfl
 |s x=>
  cases x with
  |agg c=>rfl
  |one e=>
   cases e with
   |ptr id b=>have:=h id (by simp[kH,nb,lW]);simp only[this]
   |eptr id i b=>have:=h id (by simp[kH,nb,lW]);simp only[this]
   |_=>rfl
def XO{b}{t}{id}:si T b t (.s (.one (.own id)))=match look T t with
  |some ⟨_,false,.slice _⟩=>obL (look b.objs id)
  |_=>none:=by
 unfold si;generalize look T t=q;rcases q with _|⟨c,a,shape⟩
 .rfl
 .cases c<;>cases a<;>cases shape<;>rfl
def Wqg{f e}{t}{v}(h:∀i,v≠ .s (.one (.own i))):si T e t v=si T f t v:=by
 unfold si;generalize look T t=q;rcases q with _|⟨a,agg,shape⟩
 .cases v<;>rfl
 .cases v with
  |tup b=>cases a<;>cases agg<;>cases shape<;>rfl
  |s x=>
   cases x with
   |agg c=>cases a<;>cases agg<;>cases shape<;>rfl
   |one g=>
    cases g with
    |own i=>exact Wh rfl (h i)
    |val t' d=>cases a<;>cases agg<;>cases shape<;>cases t'<;>rfl
    |_=>cases a<;>cases agg<;>cases shape<;>rfl
def WzB(v:AVal):(∃a,v= .s (.one (.own a)))\/∀a,v≠ .s (.one (.own a)):=by
 rcases v with x|b
 .rcases x with c|d
  .cases c with
   |own a=>exact .inl ⟨a,rfl⟩
   |_=>exact .inr λa h=>by injection h with h;injection h with h;cases h
  .exact .inr λa h=>by injection h with h;cases h
 .exact .inr λa h=>by cases h
def Wta{a b}{t}{v}(h:sa a b v):si T b t v=si T a t v:=by
 rcases WzB v with⟨id,rfl⟩|hv
 .rw[XO,XO,h id (by simp[kH,nb,lW])]
 .exact Wqg hv
def Wjm{e f}{t}{v}{j}(h:sa e f v):CK T f t v j=CK T e t v j:=by
 unfold CK;generalize GQ T t j=q;rcases q with _|⟨a,d⟩
 .cases v<;>rfl
 .cases v with
  |tup b=>rfl
  |s x=>
   cases x with
   |agg c=>rfl
   |one g=>
    cases g with
    |ptr id o=>
     have:=h id (by simp[kH,nb,lW]);show(λq:Option Ob=>match q with|some (.box _)=>some (true,AVal.s (.one (.ptr id (o+a))))|_=>none) (look f.objs id)=(λq:Option Ob=>match q with|some (.box _)=>some (true,AVal.s (.one (.ptr id (o+a))))|_=>none) (look e.objs id);rw[this]
    |eptr id i o=>
     have:=h id (by simp[kH,nb,lW]);show(λq:Option Ob=>match q with|some (.arr _ _)=>some (true,AVal.s (.one (.eptr id i (o+a))))|_=>none) (look f.objs id)=(λq:Option Ob=>match q with|some (.arr _ _)=>some (true,AVal.s (.one (.eptr id i (o+a))))|_=>none) (look e.objs id);rw[this]
    |_=>rfl
def Wjk{f e}{t}{v i}(h:sa f e v):CJ T e t v i=CJ T f t v i:=by
 unfold CJ;generalize look T t=q;generalize asI i=z;rcases q with _|⟨m,agg,shape⟩
 .rfl
 rcases z with _|n
 .cases shape<;>rfl
 cases shape with
 |slice et=>
  show(match look T et with|some te=>_|none=>_)=(match look T et with|some te=>_|none=>_);generalize look T et=q;rcases q with _|te
  .rfl
  .show(if te.plain=true then _ else _)=(if te.plain=true then _ else _);by_cases a:te.plain=true
   .rw[Wb a,Wb a];cases v with
    |tup b=>rfl
    |s x=>
     cases x with
     |agg l=>rfl
     |one g=>
      cases g with
      |own id=>
       have:=h id (by simp[kH,nb,lW]);show obI te n id (look e.objs id)=obI te n id (look f.objs id);rw[this]
      |vw id c j=>
       have:=h id (by simp[kH,nb,lW]);show Ga te n id c j (look e.objs id)=Ga te n id c j (look f.objs id);rw[this]
      |val t' d=>cases t'<;>rfl
      |_=>rfl
   .rw[Wa a,Wa a]
 |arr k et=>
  show(match look T et with|some te=>_|none=>_)=(match look T et with|some te=>_|none=>_);generalize look T et=q;rcases q with _|te
  .rfl
  .show(if te.plain=true then _ else _)=(if te.plain=true then _ else _);by_cases a:te.plain=true
   .rw[Wb a,Wb a];cases v with
    |tup b=>rfl
    |s x=>
     cases x with
     |agg l=>rfl
     |one g=>
      cases g with
      |aptr id=>
       have:=h id (by simp[kH,nb,lW]);show F4 te n k id (look e.objs id)=F4 te n k id (look f.objs id);rw[this]
      |_=>rfl
   .rw[Wa a,Wa a]
 |_=>rfl
def WsT{a b}{v}(h:sa a b v):LJ b v=LJ a v:=by
 rcases WzB v with⟨id,rfl⟩|hv
 .exact h id (by simp[kH,nb,lW])
 .unfold LJ;split
  .rename_i id;exact Wh rfl (hv id)
  .rfl
def Wqh{a b}{s d}{v}(h:sa a b v):DL T b s d v=DL T a s d v:=by
 unfold DL;rw[WsT h]
def WtN{a f}{v}(h:sa a f v):DZ f v=DZ a v:=by
 unfold DZ;cases v with
 |tup d=>rfl
 |s x=>
  cases x with
  |agg c=>rfl
  |one e=>
   cases e with
   |ptr id b=>have:=h id (by simp[kH,nb,lW]);simp only[this]
   |eptr id i b=>have:=h id (by simp[kH,nb,lW]);simp only[this]
   |aptr id=>have:=h id (by simp[kH,nb,lW]);simp only[this]
   |_=>rfl
def CM{a b:Type}{x}{f g:a->Option b}(h:∀v,x=some v->f v=g v):x.bind f=x.bind g:=by
 cases x with
 |none=>rfl
 |some v=>exact h v rfl
def UP{d g}(op)(o:∀t x l h m,op≠ .slice t x l h m)(e:∀x∈be op,ev g x=ev d x)(j:Oh op=true->∀x∈be op,∀v,ev d x=some v->sa d g v):dI T g op=dI T d op:=by
 cases op with
 |move x=>simp only[dI,e x (by simp[be])]
 |assign x=>simp only[dI,e x (by simp[be])]
 |pick c a b=>simp only[dI,e c (by simp[be]),e a (by simp[be]),e b (by simp[be])]
 |load t a=>
  simp only[dI,e a (by simp[be])];exact CM λv u=>by rw[Wrj (j rfl a (by simp[be]) v u)]
 |nilCheck x=>
  simp only[dI,e x (by simp[be])];exact CM λv u=>WtN (j rfl x (by simp[be]) v u)
 |binOp op t x y z=>
  simp only[dI,e x (by simp[be]),e y (by simp[be])]
 |unOp op t x=>simp only[dI,e x (by simp[be])]
 |convert s r x=>
  simp only[dI,e x (by simp[be])];exact CM λv u=>Wqh (j rfl x (by simp[be]) v u)
 |slice t x l h m=>exact Wh rfl (o t x l h m)
 |fieldAddr s x f=>
  simp only[dI,e x (by simp[be])];exact CM λv u=>Wjm (j rfl x (by simp[be]) v u)
 |field t x f=>simp only[dI,e x (by simp[be])]
 |indexAddr t x i=>
  simp only[dI,e x (by simp[be]),e i (by simp[be])];split
  .rename_i a b h1 h2;exact Wjk (j rfl x (by simp[be]) _ h1)
  .rfl
 |extract t q=>simp only[dI,e t (by simp[be])]
 |makeFunc f first captured=>
  cases f with
  |func f=>simp only[dI,Vh (b:=d) (c:=g) captured.toList λx n=>e x (by simp[be];right;simpa using n)]
  |_=>rfl
 |call c=>
  have k:∀x∈c.args.toList,ev g x=ev d x:=λx n=>e x (Xk _ n);have p:∀x∈c.args.toList,∀v,ev d x=some v->sa d g v:=λx n=>j rfl x (Xk _ n);simp only[dI];split
  .rename_i x t _ ha _;rw[k x (by rw[ha];simp)];exact CM λv u=>Wta (p x (by rw[ha];simp) v u)
  .rename_i x y _ _ _ ha _;rw[k x (by rw[ha];simp),k y (by rw[ha];simp)]
  .rename_i x y _ _ _ ha _;rw[k x (by rw[ha];simp),k y (by rw[ha];simp)]
  .rfl
 |_=>rfl
end
abbrev Out:=AVal×ai×Nat
def gP(x:AVal)(b:ai)(a:Nat):Option Out:=some (x,b,a)
section
variable{T:Tab}{a:Ctx}{A:List (Nat×An)}
def mb{a b:Type}{c}[Decidable c]{x}{f:a->Option b}:(if c then x else none).bind f=if c then x.bind f else none:=by split<;>rfl
def rL{a b:Type}{c}{x}{f:a->Option b}:(bif c then x else none).bind f=bif c then x.bind f else none:=by cases c<;>rfl
def O9{R}(sg)(b)(a)(k:KV R):r9 sg b a k=(r9 sg b a gP).bind λp=>k p.1 p.2.1 p.2.2:=by
 unfold r9;split
 .split
  .rw[sg.law,sg.law,Xhx];rfl
  .rfl
 .rfl
def Wtx{R}(sg)(b)(a)(k:KV R):xX sg b a k=(xX sg b a gP).bind λp=>k p.1 p.2.1 p.2.2:=by
 unfold xX;cases sg.fresh with
 |true=>exact O9 _ _ _ _
 |false=>
  simp only[Wc];split
  .split
   .exact O9 _ _ _ _
   .exact O9 _ _ _ _
  .rfl
def Wo6{R}(a)(te)(s x)(k:KV R):w6 a te s x k=(w6 a te s x gP).bind λp=>k p.1 p.2.1 p.2.2:=by
 unfold w6;split
 .split
  .split
   .split
    .rw[rL];rfl
    .rfl
   .rfl
  .rfl
 .split
  .split
   .split
    .rw[mb,rL];rfl
    .rfl
   .rfl
  .rfl
 .rfl
def Wpo{R}(a)(e)(ps)(k:KV R):rQ a e ps k=(rQ a e ps gP).bind λp=>k p.1 p.2.1 p.2.2:=by
 unfold rQ;split
 .rw[mb];split
  .split
   .split
    .rw[mb];rfl
    .rfl
   .rfl
  .rfl
 .rfl
def WqD{R}(a)(te)(id)(l h)(k:KV R):rW a te id l h k=(rW a te id l h gP).bind λp=>k p.1 p.2.1 p.2.2:=by
 unfold rW;split
 .rw[mb,rL];rfl
 .rfl
def Wng{R}(a)(t t2)(s x)(k:KV R):zH T a t t2 s x k=(zH T a t t2 s x gP).bind λp=>k p.1 p.2.1 p.2.2:=by
 unfold zH;split
 .split
  .split
   .cases LO a s x with
    |false=>exact Wo6 _ _ _ _ _
    |true=>
    simp only[Xu,Wc];split
    .rw[rL];rfl
    .split
     .split
      .rw[rL];rfl
      .rfl
     .rfl
    .split
     .split
      .rw[rL];rfl
      .rfl
     .rfl
    .rfl
   .rfl
  .rfl
 .rfl
def Oi{R}(p:Option (Bool×AVal))(b:ai)(a:Nat)(k:KV R):(match p with|some (c,v)=>bif c then k v b a else none|none=>none)=(match p with|some (c,v)=>bif c then gP v b a else none|none=>none).bind λp=>k p.1 p.2.1 p.2.2:=by
 rcases p with _|⟨c,v⟩
 .rfl
 .cases c<;>rfl
def GX{R}(o)(b)(k:KV R):rxe T a A o b k=(rxe T a A o b gP).bind λp=>k p.1 p.2.1 p.2.2:=by
 unfold rxe;split
 .split
  .rw[mb];rfl
  .rw[mb];rfl
  .rfl
 .split<;>rfl
 .split
  .split
   .split<;>rfl
   .rfl
  .rfl
 .split
  .split
   .split
    .rw[mb];split
     .exact Wpo _ _ _ _
     .rfl
    .split
     .rw[mb];rfl
     .rfl
   .rfl
  .rfl
 .split
  .split
   .split
    .rw[mb,rL];rfl
    .rw[mb,rL];rfl
   .rfl
  .rfl
 .split
  .split
   .split<;>rfl
   .rfl
  .rfl
 .split
  .split
   .split
    .split
     .rw[mb];split
      .exact WqD _ _ _ _ _ _
      .rfl
     .split
      .rw[mb,rL];rfl
      .rw[mb,rL];rfl
      .rfl
    .rfl
   .rfl
  .exact Oi _ _ _ _
 .split
  .split
   .exact Wng _ _ _ _ _ _
   .rfl
  .split
   .split
    .split
     .rw[mb];rfl
     .rfl
    .rfl
   .rfl
  .exact Oi _ _ _ _
  .split
   .split
    .exact Wtx _ _ _ _
    .rfl
   .rfl
  .rfl
 .exact Oi _ _ _ _
end
section
variable{T:Tab}{h:Ctx}{A:List (Nat×An)}
def Wq7{f}{g}{t}{x v}:ql T {env:=g,objs:=f.objs,nx:=f.nx} t x v=(ql T f t x v).map λs=>{env:=g,objs:=s.objs,nx:=s.nx}:=by
 unfold ql;generalize look T t=q;generalize oF v=z;rcases q with _|te
 .rfl
 rcases z with _|ds
 .rcases x with(c|n)|j
  .cases c<;>rfl
  .rfl
  .rfl
 rcases x with(c|n)|j
 .cases c with
  |ptr id k=>
   show(match look f.objs id with|some (.box n)=>_|_=>_)=H6 _ (match look f.objs id with|some (.box n)=>_|_=>_);generalize look f.objs id=a;rcases a with _|a
   .rfl
   cases a with
   |box n=>
    show(if _ then _ else _)=H6 _ (if _ then _ else _);split<;>rfl
   |arr e j=>rfl
   |hole e j i p=>rfl
   |dead=>rfl
  |eptr id i k=>
   show(match look f.objs id with|some (.arr e j)=>_|_=>_)=H6 _ (match look f.objs id with|some (.arr e j)=>_|_=>_);generalize look f.objs id=a;rcases a with _|a
   .rfl
   cases a with
   |box n=>rfl
   |hole e j i p=>rfl
   |dead=>rfl
   |arr e j=>
    show(if _ then _ else _)=H6 _ (if _ then _ else _);by_cases h:(decide (te.ty.size=ds.length)&&te.plain&&decide (k+ds.length<=e.size)&&e.data)=true
    .rw[Wb h,Wb h];generalize d9 e (py (split e (List.getD j i e.dflt)) k ds) f.objs=r;rcases r with _|⟨d,m,l⟩
     .rfl
     .cases m<;>cases l<;>rfl
    .rw[Wa h,Wa h];by_cases b:(decide (te.ty.size=ds.length)&&te.plain&&decide (k=0)&&decide (ds.length=e.size))=true
     .rw[Wb b,Wb b];generalize d9 e ds f.objs=r;rcases r with _|⟨d,m,l⟩
      .rfl
      .cases l with
       |nil=>
        show(if _ then _ else _)=H6 _ (if _ then _ else _);split<;>rfl
       |cons _ _=>rfl
     .rw[Wa b,Wa b];rfl
  |_=>rfl
 .rfl
 .rfl
def Wwc{R}(o){d}{g}(k:KV R)(S:∀x∈be o.op,ev {env:=g,objs:=d.objs,nx:=d.nx} x=ev d x):
  rxe T h A o {env:=g,objs:=d.objs,nx:=d.nx} k=rxe T h A o d k:=by
 have j:(∀t x l W m,o.op≠ .slice t x l W m)->dI T {env:=g,objs:=d.objs,nx:=d.nx} o.op=dI T d o.op:=λN=>UP o.op N S (λ_ _ _ _ _ _ _=>rfl);obtain⟨L,D,J,O,w,guard⟩:=o;simp only at S j;cases D with
 |alloc t=>rfl
 |box t x=>simp only[rxe,S x (by simp[be])]
 |build t parts=>simp only[rxe,I1 (b:=d) parts.toList λp q=>S p.2 (by simp only[be];exact Xy.2 ⟨p,q,rfl⟩)]
 |buildSlice t n parts=>
  have B:∀e G,rQ {env:=g,objs:=d.objs,nx:=d.nx} e G k=rQ d e G k:=λ_ _=>rfl;simp only[rxe,B,I1 (b:=d) parts.toList λp q=>S p.2 (by simp only[be];exact Xy.2 ⟨p,q,rfl⟩)]
 |makeSlice t n c=>simp only[rxe,S n (by simp[be]),S c (by simp[be])]
 |store t a x=>
  simp only[rxe,S a (by simp[be]),S x (by simp[be])];split
  .rename_i p v _ _;have e:=Wq7 (T:=T) (f:={env:=d.env,objs:=uR d.objs (zU d.objs p v),nx:=d.nx}) (g:=g) (t:=t) (x:=p) (v:=xU d.objs (zU d.objs p v) v);simp only at e;rw[e];cases ql T {env:=d.env,objs:=uR d.objs (zU d.objs p v),nx:=d.nx} t p (xU d.objs (zU d.objs p v) v)<;>rfl
  .rfl
 |slice t x V U m=>
  have u:=S x (by simp[be]);have E:=VX (a:=d) (b:={env:=g,objs:=d.objs,nx:=d.nx}) V λy C=>S y (by simp only[be];exact Xe _ (Xn _ C));have H:=VX (a:=d) (b:={env:=g,objs:=d.objs,nx:=d.nx}) U λy C=>S y (by simp only[be];exact Xe _ (Xk _ (Xn _ C)));cases m with
  |none=>
   have q:dI T {env:=g,objs:=d.objs,nx:=d.nx} (.slice t x V U none)=dI T d (.slice t x V U none):=by
    simp only[dI,u];refine CM λv _=>?_;simp only[K5,E,H]
   have B:∀I F l W,rW {env:=g,objs:=d.objs,nx:=d.nx} I F l W k=rW d I F l W k:=λ_ _ _ _=>rfl;simp only[rxe,u,E,H,q,B]
  |some y=>rfl
 |call c=>
  have K:=Yu (b:=d) (c:={env:=g,objs:=d.objs,nx:=d.nx}) c.args.toList λx u=>S x (by simp only[be];exact Xk _ u);have q:=j (λ_ _ _ _ _ W=>by cases W);simp only[rxe];split
  .rename_i s x t t2 hc ha eU;have r:ev {env:=g,objs:=d.objs,nx:=d.nx} s=ev d s:=S s (by simp only[be];rw[ha];exact Xk _ Δ);have M:ev {env:=g,objs:=d.objs,nx:=d.nx} x=ev d x:=S x (by simp only[be];rw[ha];exact Xk _ Δ);rw[r,M];rfl
  .rename_i x t hc ha eU;have r:ev {env:=g,objs:=d.objs,nx:=d.nx} x=ev d x:=S x (by simp only[be];rw[ha];exact Xk _ Δ);rw[r]
  .rw[q]
  .rename_i f hc;have r:ev {env:=g,objs:=d.objs,nx:=d.nx} f=ev d f:=S f (by simp only[be];rw[hc];exact Xn _ Δ);rw[r,K];rfl
  .rfl
 |move x=>simp only[rxe,j (λ_ _ _ _ _ W=>by cases W)]
 |assign x=>simp only[rxe,j (λ_ _ _ _ _ W=>by cases W)]
 |pick c a b=>simp only[rxe,j (λ_ _ _ _ _ W=>by cases W)]
 |load t a=>simp only[rxe,j (λ_ _ _ _ _ W=>by cases W)]
 |nilCheck x=>simp only[rxe,j (λ_ _ _ _ _ W=>by cases W)]
 |binOp D t x y z=>simp only[rxe,j (λ_ _ _ _ _ W=>by cases W)]
 |unOp D t x=>simp only[rxe,j (λ_ _ _ _ _ W=>by cases W)]
 |convert s Q x=>simp only[rxe,j (λ_ _ _ _ _ W=>by cases W)]
 |fieldAddr s x f=>simp only[rxe,j (λ_ _ _ _ _ W=>by cases W)]
 |field t x f=>simp only[rxe,j (λ_ _ _ _ _ W=>by cases W)]
 |indexAddr t x i=>simp only[rxe,j (λ_ _ _ _ _ W=>by cases W)]
 |index t x i=>simp only[rxe,j (λ_ _ _ _ _ W=>by cases W)]
 |extract t P=>simp only[rxe,j (λ_ _ _ _ _ W=>by cases W)]
 |makeFunc f first captured=>simp only[rxe,j (λ_ _ _ _ _ W=>by cases W)]
 |_=>rfl
def ya(T:Tab)(o:Oper)(d:St):Option AVal:=match o.op with
 | .build t parts=>match look T t,pq d parts.toList with
  |some ⟨b,true,.struct fs⟩,some ps=>
   if fs.all (λf=>match look T f.2 with|some te=>te.plain|none=>false)then
    match xY T fs ps (qx b)with
    |some a=>some (.s (.agg a))
    |none=>none
   else none
  |_,_=>none
 |op=>match dI T d op with
  |some (c,v)=>bif c then some v else none
  |none=>none
def TD(p:Option (Bool×AVal))(b:ai)(a:Nat):(match p with|some (c,v)=>bif c then gP v b a else none|none=>none)=(match p with|some (c,v)=>bif c then some v else none|none=>none).bind λv=>gP v b a:=by
 rcases p with _|⟨c,v⟩
 .rfl
 .cases c<;>rfl
def Yz{o}(b:cz o=false)(l):rxe T h A o l gP=(ya T o l).bind λv=>gP v l.objs l.nx:=by
 obtain⟨g,r,f,i,e,guard⟩:=o;cases r with
 |alloc t=>cases b
 |box t x=>cases b
 |buildSlice t n parts=>cases b
 |makeSlice t n c=>cases b
 |store t a x=>cases b
 |slice t x d p m=>cases b
 |build t parts=>
  simp only[rxe,ya];generalize look T t=q;generalize pq l parts.toList=z;rcases q with _|⟨j,k,shape⟩
  .rfl
  rcases z with _|ps
  .cases k<;>cases shape<;>rfl
  cases k with
  |false=>rfl
  |true=>
   cases shape with
   |struct fs=>
    show(if _ then _ else _)=Option.bind (if _ then _ else _) _;rw[mb];cases xY T fs ps (qx j)<;>rfl
   |_=>rfl
 |call c=>
  simp only[rxe,ya];split
  .rename_i hc _ _;simp only[cz,hc]at b;cases b
  .rename_i hc _ _;simp only[cz,hc]at b;cases b
  .exact TD _ _ _
  .rename_i hc;simp only[cz,hc]at b;cases b
  .rename_i h0 h1 h2 h3;have:dI T l (.call c)=none:=by
    simp only[dI];split
    .rename_i hc _ _;first|exact Wh hc (h0 _)|exact Wh hc (h1 _)|exact Wh hc (h2 _)|exact Wh hc (h3 _)
    .rename_i hc _ _;first|exact Wh hc (h0 _)|exact Wh hc (h1 _)|exact Wh hc (h2 _)|exact Wh hc (h3 _)
    .rename_i hc _ _;first|exact Wh hc (h0 _)|exact Wh hc (h1 _)|exact Wh hc (h2 _)|exact Wh hc (h3 _)
    .rfl
   rw[this];rfl
 |_=>first|rfl|exact TD (dI T l _) l.objs l.nx
def WtG{o}(c:cz o=false){q a}(b:∀x∈be o.op,ev a x=ev q x)(g:Oh o.op=true->∀x∈be o.op,∀v,ev q x=some v->sa q a v):ya T o a=ya T o q:=by
 have d:(∀t x l h m,o.op≠ .slice t x l h m)->dI T a o.op=dI T q o.op:=λc=>UP o.op c b g;obtain⟨f,j,e,k,n,guard⟩:=o;simp only at b d;cases j with
 |slice t x s r m=>cases c
 |build t parts=>simp only[ya,I1 (b:=q) parts.toList λp i=>b p.2 (by simp only[be];exact Xy.2 ⟨p,i,rfl⟩)]
 |_=>simp only[ya,d (λ_ _ _ _ _ h=>by cases h)]
def Gk(a):∀l,∃b,kill a l=b++a
 | []=>⟨[],rfl⟩
 |i::l=>by
  obtain⟨b,h⟩:=Gk a l;exact⟨(i,.dead)::b,by simp only[kill,h];rfl⟩
def wj:∀(ps) (o) (c) (d) (a),∃b,(gN ps o c d a).1=b++d
 | [],_,_,d,_=>⟨[],rfl⟩
 | .v _ _::ps,o,c,d,a=>wj ps o c d a
 | .rp _::ps,o,c,d,a=>wj ps o c d a
 | .box t::ps,o,c,d,a=>by
  cases c with
  |nil=>exact⟨[],rfl⟩
  |cons k c=>
   obtain⟨b,h⟩:=wj ps o.2 c ((k.id,xI (look d k.id) k.off (unfold t o.1 a).1)::((unfold t o.1 a).2.1++d)) (unfold t o.1 a).2.2;exact⟨b++(k.id,xI (look d k.id) k.off (unfold t o.1 a).1)::(unfold t o.1 a).2.1,by simp only[gN,h];simp⟩
 | .vj _::ps,o,c,d,a=>wj ps o c d a
 | .boxal t _::ps,o,c,d,a=>by
  cases c with
  |nil=>exact⟨[],rfl⟩
  |cons k c=>
   obtain⟨b,h⟩:=wj ps o.2 c ((k.id,xI (look d k.id) k.off (unfold t o.1 a).1)::((unfold t o.1 a).2.1++d)) (unfold t o.1 a).2.2;exact⟨b++(k.id,xI (look d k.id) k.off (unfold t o.1 a).1)::(unfold t o.1 a).2.1,by simp only[gN,h];simp⟩
 | .mut e::ps,o,c,d,a=>by
  cases c with
  |nil=>exact⟨[],rfl⟩
  |cons k c=>
   obtain⟨b,h⟩:=wj ps o.2 c ((k.id,.arr e o.1)::d) a;exact⟨b++ [(k.id,.arr e o.1)],by simp only[gN,h];simp⟩
 | .clos _ _::ps,o,c,d,a=>wj ps o c d a
def wi:∀(rs) (d) (c) (a),∃b,(iy rs d c a).2.1=b++c
 | [],_,c,_=>⟨[],rfl⟩
 | .v t agg::rs,d,c,a=>by
  obtain⟨b,h⟩:=wi rs d.2 ((unfold t d.1 a).2.1++c) (unfold t d.1 a).2.2;exact⟨b++(unfold t d.1 a).2.1,by simp only[iy,h];simp⟩
 | .box t::rs,d,c,a=>by
  obtain⟨b,h⟩:=wi rs d.2 ((a,.box (unfold t d.1 (a+1)).1)::((unfold t d.1 (a+1)).2.1++c)) (unfold t d.1 (a+1)).2.2;exact⟨b++(a,.box (unfold t d.1 (a+1)).1)::(unfold t d.1 (a+1)).2.1,by simp only[iy,h];simp⟩
 | .mut _::rs,d,c,a=>wi rs d c a
 | .clos _ _::rs,d,c,a=>wi rs d c a
 | .rp _::rs,d,c,a=>wi rs d c a
 | .vj t::rs,d,c,a=>by
  obtain⟨b,h⟩:=wi rs d.2 ((unfold t d.1 a).2.1++c) (unfold t d.1 a).2.2;exact⟨b++(unfold t d.1 a).2.1,by simp only[iy,h];simp⟩
 | .boxal _ _::rs,d,c,a=>wi rs d c a
def Suf(c:ai)(r:Option Out):Prop:=∀x a d,r=some (x,a,d)->∃b,a=b++c
def Suf.none{a}:Suf a none:=λ_ _ _ h=>by cases h
def Suf.out{b a}{x}{c}:Suf b (gP x (a++b) c):=λ_ _ _ h=>by
 injection h with h;have:=Wq (λp:Out=>p.2.1) h;exact⟨a,this.symm⟩
def Suf.ite{a}{c}[Decidable c]{r}(h:Suf a r):Suf a (if c then r else Option.none):=by split;exact h;exact .none
def Suf.bif{a}{c}{r}(h:Suf a r):Suf a (bif c then r else Option.none):=by cases c;exact .none;exact h
def Wlu{d a}{t}{x v}(h:ql T d t x v=some a):∃c,a.objs=c++d.objs:=by
 unfold ql at h;split at h
 .split at h
  .split at h
   .injection h with h;subst h;exact⟨[_],rfl⟩
   .cases h
  .cases h
 .split at h
  .split at h
   .split at h
    .injection h with h;subst h;exact⟨[_],rfl⟩
    .cases h
   .split at h
    .split at h
     .rename_i m _;split at h
      .injection h with h;subst h;obtain⟨c,b⟩:=Gk d.objs m;exact⟨_::c,by simp only[b];rfl⟩
      .cases h
     .cases h
    .cases h
  .cases h
 .cases h
def Ri(p:Option (Bool×AVal))(b)(a:Nat):Suf b (match p with|some (c,v)=>bif c then gP v b a else none|none=>none):=by
 rcases p with _|⟨c,v⟩
 .exact .none
 .exact Suf.bif (Suf.out (a:=[]))
def OP(sg)(j)(k):Suf j.objs (r9 sg j k gP):=by
 unfold r9;split
 .rename_i A _;split
  .intro x a l h;rw[sg.law]at h;cases m:sg.run A.d with
   |none=>rw[m]at h;cases h
   |some out=>
    rw[m]at h;simp only[Xd]at h;injection h with h;have d:=Wq (λp:Out=>p.2.1) h;simp only at d;obtain⟨f,b⟩:=Gk j.objs A.moved;obtain⟨g,c⟩:=wj sg.ps out.1 A.kept (kill j.objs A.moved) j.nx;obtain⟨i,e⟩:=wi sg.rs out.2 (gN sg.ps out.1 A.kept (kill j.objs A.moved) j.nx).1 (gN sg.ps out.1 A.kept (kill j.objs A.moved) j.nx).2;refine⟨i++(g++f),?_⟩;rw[<-d,e,c,b];simp
  .exact .none
 .exact .none
def Suf.over{g}{l}{r}(h:Suf (kill g l) r):Suf g r:=λx a i c=>by
 obtain⟨d,f⟩:=h x a i c;obtain⟨e,b⟩:=Gk g l;exact⟨d++e,by rw[f,b];simp⟩
def WpM(sg)(b)(a):Suf b.objs (xX sg b a gP):=by
 unfold xX;cases sg.fresh with
 |true=>exact OP _ _ _
 |false=>
  simp only[Wc];split
  .split
   .exact OP _ _ _
   .exact Suf.over (OP sg {env:=b.env,objs:=kill b.objs _,nx:=b.nx} _)
  .exact .none
def Ro{b}{x}{p}{l}{c}:Suf b (gP x (p::kill b l) c):=by
 obtain⟨a,h⟩:=Gk b l;rw[h];exact Suf.out (a:=p::a)
def Wls(a)(te)(s x):Suf a.objs (w6 a te s x gP):=by
 unfold w6;split
 .split
  .split
   .split
    .exact Suf.bif Ro
    .exact .none
   .exact .none
  .exact .none
 .split
  .split
   .split
    .exact Suf.ite (Suf.bif Ro)
    .exact .none
   .exact .none
  .exact .none
 .exact .none
def Wln(a)(e)(ps):Suf a.objs (rQ a e ps gP):=by
 unfold rQ;split
 .refine Suf.ite ?_;split
  .split
   .exact Suf.ite (Suf.over Ro)
   .exact .none
  .exact .none
 .exact .none
def Wn1(a)(te)(id)(l h):Suf a.objs (rW a te id l h gP):=by
 unfold rW;split
 .exact Suf.ite (Suf.bif (Suf.out (a:=[])))
 .exact .none
def WtA(o)(b):Suf b.objs (rxe T h A o b gP):=by
 unfold rxe;split
 .split
  .exact Suf.ite (Suf.out (a:=[_]))
  .exact Suf.ite (Suf.out (a:=[_]))
  .exact .none
 .split
  .exact Suf.out (a:=[_])
  .exact .none
 .split
  .split
   .split
    .exact Suf.out (a:=[])
    .exact .none
   .exact .none
  .exact .none
 .split
  .split
   .split
    .exact Suf.ite (Wln _ _ _)
    .split
     .exact Suf.ite (Suf.over (Suf.out (a:=[_])))
     .exact .none
   .exact .none
  .exact .none
 .split
  .split
   .split
    .exact Suf.ite (Suf.bif (Suf.out (a:=[_])))
    .exact Suf.ite (Suf.bif (Suf.out (a:=[_])))
   .exact .none
  .exact .none
 .split
  .split
   .rename_i e c;split
    .obtain⟨a,d⟩:=Wlu c;rw[d];exact Suf.over Suf.out
    .exact .none
   .exact .none
  .exact .none
 .split
  .split
   .split
    .split
     .exact Suf.ite (Wn1 _ _ _ _ _)
     .split
      .exact Suf.ite (Suf.bif (Suf.out (a:=[_,_])))
      .exact Suf.ite (Suf.bif (Suf.out (a:=[_,_,_])))
      .exact .none
    .exact .none
   .exact .none
  .exact Ri _ _ _
 .split
  .split
   .unfold zH;split
    .split
     .split
      .cases LO b _ _ with
       |false=>exact Wls _ _ _ _
       |true=>
       simp only[Xu,Wc];split
       .exact Suf.bif (Suf.out (a:=[_]))
       .split
        .split
         .exact Suf.bif (Suf.out (a:=[_,_]))
         .exact .none
        .exact .none
       .split
        .split
         .exact Suf.bif (Suf.out (a:=[_,_]))
         .exact .none
        .exact .none
       .exact .none
      .exact .none
     .exact .none
    .exact .none
   .exact .none
  .split
   .split
    .split
     .exact Suf.ite (Suf.out (a:=[_]))
     .exact .none
    .exact .none
   .exact .none
  .exact Ri _ _ _
  .split
   .split
    .exact WpM _ _ _
    .exact .none
   .exact .none
  .exact .none
 .exact Ri _ _ _
end
def Wsc{x y}{l}:y∈IN x l↔y=x\/y∈l:=by
 unfold IN;cases h:gc x l with
 |true=>
  have:=(nN x l).1 h;simp only[We];exact⟨.inr,λh=>h.elim (λe=>e▸this) id⟩
 |false=>simp
def VS{y}:∀(m l),y∈Hs m l↔y∈m\/y∈l
 | [],l=>by simp[Hs]
 |x::m,l=>by
  rw[Hs,VS m,Wsc,Xr];constructor
  .rintro(h|h|h)
   .exact .inl (.inr h)
   .exact .inl (.inl h)
   .exact .inr h
  .rintro((h|h)|h)
   .exact .inr (.inl h)
   .exact .inl h
   .exact .inr (.inr h)
def PU{acc}{y}:∀(ds l),y∈u6 acc ds l↔(∃j∈ds,y=j\/y∈acc.getD j [])\/y∈l
 | [],l=>by simp[u6]
 |j::ds,l=>by
  rw[u6,PU ds,VS,Wsc];constructor
  .rintro(⟨k,a,h⟩|h|h|h)
   .exact .inl ⟨k,Xe _ a,h⟩
   .exact .inl ⟨j,Xg ..,.inr h⟩
   .exact .inl ⟨j,Xg ..,.inl h⟩
   .exact .inr h
  .rintro(⟨k,a,h⟩|h)
   .rcases Xr.1 a with rfl|a
    .exact .inr (h.elim (λh=>.inr (.inl h)) .inl)
    .exact .inl ⟨k,a,h⟩
   .exact .inr (.inr (.inr h))
def Hu(a:Array Oper)(S:Nat->Prop):Prop:=∀i o,a[i]?=some o->S i->∀d∈lr o,S d
def V4{a}{S}(f:Hu a S):∀(l) (q),(∀(k) (o),l[k]?=some o->a[q.length+k]?=some o)->
  (∀i,S i->∀j∈q.getD i [],S j)->∀i,S i->∀j∈(kQ l q).getD i [],S j
 | [],q,_,h=>h
 |o::l,q,m,h=>by
  refine V4 f l _ (λk p d=>?_) (λi g j b=>?_)
  .have:=m (k+1) p (by simpa using d);rw[bX];have e:q.length+(k+1)=q.length+ [u6 q (lr o) []].length+k:=Φ
   rw[<-e];exact this
  .rw[Xs,ko]at b;split at b
   .exact h i g j (by rw[Xs];exact b)
   .rename_i ab;by_cases n:i=q.length
    .subst n;simp only[Nat.sub_self,H0,Option.getD_some]at b;rcases(PU _ _).1 b with⟨k,d,c⟩|b
     .have hSk:=f _ o (m 0 o Δ) g k d;rcases c with rfl|c
      .exact hSk
      .exact h k hSk j c
     .cases b
    .have:[u6 q (lr o) []][i-q.length]?=none:=sG Φ;rw[this]at b;cases b
def Wtn{e}{S}(d:Hu e S){i j}(h:hN (kQ e.toList []) j i=true)(a:S i):S j:=
 V4 d e.toList [] (λk o c=>by simpa using c) (λi _ j b=>by simp at b) i a j ((nN _ _).1 h)
def XA{a:Array Oper}:∀(l) (n),LU l n=true->∀(k) (o),l[k]?=some o->∀d∈lr o,d<n+k
 | [],_,_,k,o,hk=>by simp at hk
 |o'::l,n,h,k,o,hk=>by
  simp only[LU,Xl,cS]at h;cases k with
  |zero=>
   simp at hk;subst hk;intro e b;have:=h.1 e b;rw[Xid]at this;omega
  |succ k=>
   have:=XA (a:=a) l (n+1) h.2 k o (by simpa using hk);intro e b;have:=this e b;omega
structure Order(a:Array Oper)(l:List Nat):Prop where
 nodup:l.Nodup
 all:∀i,i<a.size↔i∈l
 dep:∀p i s,l=p++i::s->∀o,a[i]?=some o->∀d∈lr o,d∈p
def Order.closed{a:Array Oper}{l:List Nat}(h:Order a l){p s:List Nat}(e:l=p++s):Hu a (· ∈p):=λi o g f d c=>by
 obtain⟨j,b,rfl⟩:=List.append_of_mem f;have:=h.dep j i (b++s) (by rw[e];simp) o g d c;simp[this]
def Order.bef{c}{l}(h:Order c l){p s}{i j}(e:l=p++s)(b:hN (kQ c.toList []) j i=true)(a:i∈p):j∈p:=
 Wtn (h.closed e) b a
def Order.bef'{a}{l}(h:Order a l){p s}{i j}(e:l=p++i::s)(b:hN (kQ a.toList []) j i=true)(c:j≠i):j∈p:=by
 have:=h.bef (p:=p++ [i]) (s:=s) (by rw[e];simp) b Δ;rcases Xo.1 this with h|h
 .exact h
 .simp at h;exact Wh h c
def unl(a:Array Oper)(b:Array Bool):List Nat:=(bJ a.size).filter λi=>!b.getD i true
def zY{a}{listed}{i}:i∈unl a listed↔i<a.size/\listed.getD i true=false:=by
 unfold unl;rw[fc,HV];simp
def UA{a:Type}{p q}:∀(l:List a),(∀x∈l,q x=true->p x=true)->(∃x∈l,p x=true/\q x=false)->(l.filter q).length<(l.filter p).length
 | [],_,⟨x,f,_⟩=>by cases f
 |x::l,h,⟨y,b,c,d⟩=>by
  have e:∀(l:List a),(∀x∈l,q x=true->p x=true)->(l.filter q).length<=(l.filter p).length:=by
   intro l
   induction l with
   |nil=>intro _;simp
   |cons x l ih=>
    intro h;have:=ih λx f=>h x (Xe _ f);have f:=h x (Xg ..);rw[io,io];cases hqx:q x with
    |true=>rw[f hqx];simpa using this
    |false=>cases p x<;>simp<;>omega
  rw[io,io];rcases Xr.1 b with rfl|b
  .rw[c,d];have:=e l λx f=>h x (Xe _ f);simp;omega
  .have:=UA l (λx f=>h x (Xe _ f)) ⟨y,b,c,d⟩;have f:=h x (Xg ..);cases hqx:q x with
   |true=>rw[f hqx];simpa using this
   |false=>cases p x<;>simp<;>omega
def QH{a:Array Bool}{i j}:(a.setIfInBounds i true).getD j true=(if i=j then true else a.getD j true):=by
 simp only[D5,Xfx];split
 .split<;>rfl
 .rfl
def WuE{b:Array Bool}{i j}(a:i<b.size):(b.setIfInBounds i true).getD j false=(if i=j then true else b.getD j false):=by
 simp only[D5,Xfx];split
 .simp[a]
 .rfl
def WAv{b:Array Bool}{i}(a:i<b.size):b.getD i true=b.getD i false:=by
 simp[a]
def ZC{o}{e}(b:e∈o.after)(a:Region.binds .any e=true):e.on∈lr o:=
 Xy.2 ⟨e,fc.2 ⟨by simpa using b,a⟩,rfl⟩
def ZD{V}(v:∀(k) (o),V[k]?=some o->∀d∈lr o,d<k):∀(fuel t) (listed),listed.size=V.size->(unl V listed).length<=fuel->
  (Region.linearise.go .any V fuel t listed []).Nodup/\
  (∀i,i∈Region.linearise.go .any V fuel t listed []↔i∈unl V listed)/\
  (∀p i s,Region.linearise.go .any V fuel t listed []=p++i::s->∀o,V[i]?=some o->∀e∈o.after,Region.binds .any e=true->listed.getD e.on false=true\/e.on∈p)
 |0,t,listed,G,aa=>by
  have:unl V listed= []:=eY Ω;simp only[Region.linearise.go,List.reverse_nil,this];exact⟨Δ,Δ,λp i s h=>by simp at h⟩
 |fuel+1,t,listed,G,aa=>by
  have R:Region.linearise.go .any V (fuel+1) t listed []=match(Region.ready .any V listed)[t%(Region.ready .any V listed).length]? with
   |some i=>Region.linearise.go .any V fuel (t/(Region.ready .any V listed).length) (listed.setIfInBounds i true) [i]
   |none=>[]:=rfl
  rw[R];cases W:(Region.ready .any V listed)[t%(Region.ready .any V listed).length]? with
  |none=>
   have B:Region.ready .any V listed= []:=by
    cases a:Region.ready .any V listed with
    |nil=>rfl
    |cons x U=>
     rw[a]at W;have A:t%(x::U).length<(x::U).length:=Nat.mod_lt _ Δ;simp at W;simp at A;omega
   have P:unl V listed= []:=by
    have w:∀n i,i<=n->i∉unl V listed:=by
     intro n
     induction n with
     |zero=>
      intro i M f;obtain⟨T,r⟩:=zY.1 f;have:i∈Region.ready .any V listed:=by
       rw[mem_ready];refine⟨r,V[i],L1 T,λe b c=>?_⟩;have:=v i _ (L1 T) e.on (ZC b c);omega
      rw[B]at this;cases this
     |succ n ih=>
      intro i M f;obtain⟨T,r⟩:=zY.1 f;have:i∈Region.ready .any V listed:=by
       rw[mem_ready];refine⟨r,V[i],L1 T,λe b c=>?_⟩;have A:=v i _ (L1 T) e.on (ZC b c);have L:=ih e.on Ω;have u:e.on<V.size:=Ω
       cases E:listed.getD e.on true with
       |false=>exact Wh (zY.2 ⟨u,E⟩) L
       |true=>rw[<-WAv Ω];exact E
      rw[B]at this;cases this
    exact List.eq_nil_iff_forall_not_mem.2 λi=>w i i (Xj _)
   rw[P];exact⟨Ec,λ_=>Iff.rfl,λp i s h=>by simp at h⟩
  |some i=>
   have J:=nl W;obtain⟨T,o,F,u⟩:=mem_ready.1 J;have I:i<V.size:=(Array.getElem?_eq_some_iff.1 F).1;have K:i∈unl V listed:=zY.2 ⟨I,T⟩;simp only[];rw[linearise_go_acc,List.reverse_singleton,List.singleton_append];have Q:(unl V (listed.setIfInBounds i true)).length<=fuel:=by
    have:(unl V (listed.setIfInBounds i true)).length<(unl V listed).length:=by
     refine UA _ (λx _ m=>?_) ⟨i,HV.2 I,by simpa using T,by rw[QH];simp⟩;rw[QH]at m;split at m
     .simp at m
     .exact m
    omega
   obtain⟨N,D,O⟩:=ZD v fuel (t/(Region.ready .any V listed).length) (listed.setIfInBounds i true) (by simp[G]) Q;have z:∀j,j∈unl V (listed.setIfInBounds i true)↔j∈unl V listed/\j≠i:=λj=>by
    rw[zY,zY,QH];constructor
    .rintro⟨y,l⟩;split at l
     .cases l
     .rename_i q;exact⟨⟨y,l⟩,λe=>q e.symm⟩
    .rintro⟨⟨y,l⟩,q⟩;exact⟨y,by rw[Wa (λe=>q e.symm)];exact l⟩
   refine⟨dH.2 ⟨λf=>?_,N⟩,λj=>?_,λp j s e S g C H c=>?_⟩
   .exact((z i).1 ((D i).1 f)).2 rfl
   .rw[Xr,D,z];constructor
    .rintro(rfl|h)
     .exact K
     .exact h.1
    .intro h;by_cases b:j=i
     .exact .inl b
     .exact .inr ⟨h,b⟩
   .cases p with
    |nil=>
     simp only[List.nil_append,List.cons.injEq]at e;obtain⟨rfl,_⟩:=e;rw[F]at g;injection g with g;subst g;exact .inl (u C H c)
    |cons x p=>
     simp only[hZ,List.cons.injEq]at e;obtain⟨rfl,e⟩:=e;rcases O p j s e S g C H c with h|h
     .rw[WuE Ω]at h;split at h
      .rename_i b;exact .inr (by rw[b];simp)
      .exact .inl h
     .exact .inr (Xe _ h)
def Wkr{a}{t}(l:∀(k) (o),a[k]?=some o->∀d∈lr o,d<k):Order a (Region.linearise .any a t):=by
 have n:∀i,i∈unl a (Ef a.size false)↔i<a.size:=λi=>by
  rw[zY];constructor
  .exactλh=>h.1
  .exactλh=>⟨h,by simp[h]⟩
 obtain⟨f,g,j⟩:=ZD l a.size t (Ef a.size false) Δ (by
  have:=List.length_filter_le (λi=>!(Ef a.size false).getD i true) (bJ a.size);rw[List.length_range]at this;exact this)
 refine⟨f,λi=>by unfold Region.linearise;rw[g,n],λp i s e o m d b=>?_⟩;unfold lr at b;obtain⟨c,r,rfl⟩:=Xy.1 b;obtain⟨r,q⟩:=fc.1 r;rcases j p i s e o m c (by simpa using r) q with h|h
 .exfalso;rw[D5,Array.getElem?_replicate]at h;split at h<;>simp at h
 .exact h
def Wlt{a}{t}(b:∀(k) (o),a[k]?=some o->∀d∈lr o,d<k):Order a (Region.schedule true a t):=by
 unfold Region.schedule;rw[Wb Δ];exact Wkr b
def R4(n:Nat)(a:List Nat)(o:Oper):Bool:=match o.dst with
 |some d=>Nat.blt d n&& !gc d a
 |none=>true
def oC(n:Nat)(d:List Nat):Code->Bool
 | .region _ a _=>a.toList.all (R4 n d)
 | .seq e b=>oC n d e&&oC n d b
 | .cond _ x y=>oC n d x&&oC n d y
 | .block _ c=>oC n d c
 | .loop c=>oC n d c
 |_=>true
def WqF{a:Slots}{n}{kept}(f:a.n=n)(c:∀p∈a.kept,p.1∈kept){o}(h:R4 n kept o=true):∀d,o.dst=some d->a.Ok d:=λd b=>by
 unfold R4 at h;rw[b]at h;simp only[Xl,hU]at h;refine⟨by have i:=h.1;rw[Xid]at i;rw[f];exact i,λp g e=>?_⟩;have:=c p g;rw[e]at this;rw[(nN d kept).2 this]at h;exact Wh h.2 Δ
def Ex.to:Ex->Exit
 | .normal=>.normal
 | .exit id=>.exit id
 | .ret=>.ret
section
variable{c:World}{F:CS}{d:Slots}{e:GH}{P:Program}{T:Tab}{b:Ctx}{A:List (Nat×An)}{R:Type}{r:R}
def qM(c:World)(F:CS)(d:Slots)(e:GH)(k:St->Option R)(r:R)(K:Act->World->Prop):Prop:=
 ∀f b w G a,Rel c F d e G a f b w->k f=some r->K b w
def WqI{G}{k:Nat->Nu}{i}{h}{w}(n:Rel c F d e G k i h w){a:Array Oper}{j}{t:Tmp}(f:(a[j]?).bind (·.dst)=some t){b}(l:(look i.env t).bind asB=some b):
  h.tmps[t]?=some (.bool b)/\yielded a h.tmps j=some b:=by
 cases hl:look i.env t with
 |none=>simp[hl]at l
 |some x=>
  simp only[hl,Xd]at l;obtain⟨v,m,g⟩:=n.env t x hl;have:=Rk x v b g l;subst this;refine⟨m,?_⟩;unfold yielded;rw[f];simp[m]
def Wzu(m:bv P T)(q:ji P b){M}{o:Oper}(i:∀S,o.dst=some S->d.Ok S){k}{K}{Q}(W:qM c F d e k r K)
  {J} {I} {w} {G} {L} (g:Rel c F d e G L J I w) (h:rxg T b A M o J k=some r):
  if Region.wanted o (yielded M I.tmps)then o.wp P I w K Q else K (I.put o.dst undef) w:=by
 unfold rxg at h;have s:∀V,Rel c F d e G L V I w->Rel c F d e G L (V.put o.dst (.tup [])) (I.put o.dst undef) w:=λV N=>
  N.put i ⟨[],rfl,rfl,λj x v C=>by simp at C⟩
 have y:∀X:Bool,AValRel G L J.nx (one .bool X) (.bool X):=λX=>gM (t:=.bool) (d:=X) (v:=.bool X) rfl;split at h
 .rename_i hg;simp only[Region.wanted,hg,gp];exact Sa m q g i h (λV u a U O N f=>W _ _ _ _ _ N f)
 .rename_i j want hg;split at h
  .rename_i t ht;split at h
   .rename_i hl;obtain⟨v,n,D⟩:=g.env t _ hl;have E:v=undef:=by
     obtain⟨H,z,B,_⟩:=D;rw[z,eY B];rfl
    subst E;have p:yielded M I.tmps j=none:=by
     unfold yielded;rw[ht];simp only[Xd,n];rfl
    simp only[Region.wanted,hg,p];rw[Wa Δ];exact W _ _ _ _ _ (s _ g) h
   .rename_i x _ hl;split at h
    .rename_i X hb;obtain⟨n,p⟩:=WqI g ht (b:=X) (by rw[hl];exact hb);simp only[Region.wanted,hg,p];have l:=g.rebind n (y X);cases X with
     |true=>
      simp only[We]at h;cases want with
      |true=>
       simp only[gp]at h;simp only[beq_self_eq_true,gp];exact Sa m q l i h (λV u a U O N f=>W _ _ _ _ _ N f)
      |false=>
       simp only[my,jN]at h;rw[Wa Δ];exact W _ _ _ _ _ (s _ l) h
     |false=>
      simp only[Wc]at h;cases want with
      |true=>
       simp only[gp]at h;rw[Wa Δ];exact W _ _ _ _ _ (s _ l) h
      |false=>
       simp only[my,jN]at h;simp only[beq_self_eq_true,gp];exact Sa m q l i h (λV u a U O N f=>W _ _ _ _ _ N f)
    .cases h
   .cases h
  .cases h
def Wzw(n:bv P T)(q:ji P b){a}:∀(l:List Oper),(∀o∈l,∀J,o.dst=some J->d.Ok J)->∀{k} {Q},qM c F d e k r (Q .normal)->
  qM c F d e (λC=>rxs T b A a l C k) r (wpList P a Q l)
 | [],_,k,Q,hK=>λC B w G D j h=>hK C B w G D j h
 |o::l,p,k,Q,hK=>λC B w G D j h=>by
  have x:=Wzw (a:=a) n q l (λo v=>p o (Xe _ v)) hK;have h:rxg T b A a o C (λM=>match opG A o M with
   |some (H,dj)=>bif H then rxs T b A a l dj k else none
   |none=>none)=some r:=h
  have s:qM c F d e (λM=>match opG A o M with
   |some (H,dj)=>bif H then rxs T b A a l dj k else none
   |none=>none) r (wpList P a Q l):=λu m w1 g i f L=>by
   have L:(match opG A o u with
    |some (H,dj)=>bif H then rxs T b A a l dj k else none
    |none=>none)=some r:=L
   split at L
   .rename_i H N E;obtain⟨rfl,L⟩:=lB L;have:∃K I,Rel c F d e K I N m w1:=by
     unfold opG at E;split at E
     .split at E
      .injection E with E;injection E with _ E;subst E;exact⟨g,i,f⟩
      .exact Yk f E
     .injection E with E;injection E with _ E;subst E;exact⟨g,i,f⟩
     .injection E with E;injection E with _ E;subst E;exact⟨g,i,f⟩
     .injection E with E;injection E with _ E;subst E;exact⟨g,i,f⟩
     .injection E with E;injection E with _ E;subst E;exact⟨g,i,f⟩
    obtain⟨t,z,y⟩:=this;exact x N m w1 t z y L
   .cases L
  have:=Wzu n q (p o (Xg ..)) (Q:=Q) s j h;unfold wpList;split
  .rename_i hw;rw[Wb hw]at this;exact .inl this
  .rename_i hw;rw[Wa hw]at this;exact this
end
section
variable{T:Tab}{W:Ctx}{A:List (Nat×An)}{j:Array Oper}
def QW{R}(o)(c)(k:St->Option R):rx1 T W A o c k=(rx1 T W A o c some).bind k:=by
 unfold rx1;rw[GX,GX o c (λx b a=>some _),Xhx];rfl
def Wxx{R}(o)(a)(k:St->Option R):rxg T W A j o a k=(rxg T W A j o a some).bind k:=by
 unfold rxg;cases o.guard with
 |none=>exact QW o a k
 |some g=>
  obtain⟨e,d⟩:=g;simp only;cases(j[e]?).bind (·.dst)with
  |none=>rfl
  |some t=>
   simp only;cases look a.env t with
   |none=>rfl
   |some x=>
    have c:(match asB x with
      |some b=>bif b
       then(if d then rx1 T W A o (a.put (some t) (one .bool true)) k else k ((a.put (some t) (one .bool true)).put o.dst (.tup [])))
       else(if d then k ((a.put (some t) (one .bool false)).put o.dst (.tup []))else rx1 T W A o (a.put (some t) (one .bool false)) k)
      |none=>none)=(match asB x with
      |some b=>bif b
       then(if d then rx1 T W A o (a.put (some t) (one .bool true)) some else some ((a.put (some t) (one .bool true)).put o.dst (.tup [])))
       else(if d then some ((a.put (some t) (one .bool false)).put o.dst (.tup []))else rx1 T W A o (a.put (some t) (one .bool false)) some)
      |none=>none).bind k:=by
     cases asB x with
     |none=>rfl
     |some b=>
      cases b<;>cases d
      .exact QW _ _ _
      .rfl
      .rfl
      .exact QW _ _ _
    cases x with
    |s y=>exact c
    |tup l=>
     cases l with
     |nil=>rfl
     |cons y l=>exact c
def YA{R}{o}{b}{k}{r:R}(h:rxg T W A j o b k=some r):∃a,rxg T W A j o b some=some a/\k a=some r:=by
 rw[Wxx]at h;exact mx.1 h
structure Eff(o:Oper)(v:AVal)(d:ai)(c:Nat)(a b:St):Prop where
 env:∀t,look b.env t=if o.dst=some t then some v else look a.env t
 objs:b.objs=d++a.objs
 nx:b.nx=c
def wR(b:St)(a)(x)(t):look (b.put a x).env t=if a=some t then some x else look b.env t:=by
 cases a with
 |none=>simp[St.put]
 |some d=>
  simp only[St.put];rw[WZ];by_cases h:d=t
  .subst h;simp
  .rw[Wa h,Wa (by simpa using h)]
def JP{b a}{x}(h:∀t∈Sb x,look a.env t=look b.env t):ev a x=ev b x:=by
 cases x with
 |tmp t=>exact h t (by simp[Sb])
 |_=>rfl
def Pf{a}{x}{v}:∀(l),x∈l->ev a x=some v->∀c∈kH v,c∈w7 a l
 | [],h,_,_,_=>by cases h
 |y::l,h,b,c,cr=>by
  simp only[w7];rcases Xr.1 h with rfl|h
  .rw[b];exact Xn _ cr
  .split
   .exact Xk _ (Pf l h b c cr)
   .exact Pf l h b c cr
def Uy{c a}:∀(l),(∀x∈l,ev a x=ev c x)->w7 a l=w7 c l
 | [],_=>rfl
 |x::l,h=>by simp only[w7,h x (Xg ..),Uy l λy b=>h y (Xe _ b)]
def WuT{o}{E F a}(h:rx1 T W A o E some=some F)(k:∀x∈be o.op,ev a x=ev E x)
  (r:cz o=true->a.objs=E.objs/\a.nx=E.nx) (q:cz o=false->∀d∈qk o E,look a.objs d=look E.objs d):
  ∃v D G,Eff o v D G E F/\(cz o=false->D= []/\G=E.nx)/\
   ∃g,rx1 T W A o a some=some g/\(cz o=true->Eff o v D G a g)/\(cz o=false->Eff o v [] a.nx a g):=by
 unfold rx1 at*;rw[GX]at h;obtain⟨⟨v,b,G⟩,f,i⟩:=mx.1 h;injection i with i;subst i;cases fS:cz o with
 |true=>
  obtain⟨H,e⟩:=r fS;obtain⟨D,rfl⟩:=WtA o E v b G f;refine⟨v,D,G,⟨λt=>wR _ _ _ _,by cases o.dst<;>rfl,by cases o.dst<;>rfl⟩,Δ,?_⟩;have j:rxe T W A o a gP=some (v,D++E.objs,G):=by
   obtain⟨B,C,y⟩:=a;simp only at H e;subst H e;rw[Wwc o (g:=B) (d:=E) gP k];exact f
  refine⟨_,?_,λ_=>⟨λt=>wR (⟨a.env,D++E.objs,G⟩) o.dst v t,?_,?_⟩,Δ⟩
  .rw[GX,j];rfl
  .rw[H];cases o.dst<;>rfl
  .cases o.dst<;>rfl
 |false=>
  rw[Yz fS]at f;obtain⟨u,j,c⟩:=mx.1 f;injection c with c;have H:u=v:=Wq (λp:Out=>p.1) c;have e:E.objs=b:=Wq (λp:Out=>p.2.1) c;have m:E.nx=G:=Wq (λp:Out=>p.2.2) c;subst H e m;refine⟨u,[],E.nx,⟨λt=>wR _ _ _ _,by cases o.dst<;>rfl,by cases o.dst<;>rfl⟩,Δ,?_⟩;have n:ya T o a=some u:=by
   rw[<-j];refine WtG fS k λz x w v s d l=>q fS d ?_;unfold qk;rw[z];exact Pf _ w s d l
  refine⟨_,?_,Δ,λ_=>⟨λt=>wR (⟨a.env,a.objs,a.nx⟩) o.dst u t,?_,?_⟩⟩
  .rw[GX,Yz fS,n];rfl
  .cases o.dst<;>rfl
  .cases o.dst<;>rfl
def WBp{x}{b}(h:asB x=some b):x=one .bool b:=by
 unfold asB at h;split at h
 .injection h with h;subst h;rfl
 .cases h
def I8{a:St}{t}{x}(h:look a.env t=some x)(t'):look (a.put (some t) x).env t'=look a.env t':=by
 rw[wR];split
 .rename_i e;injection e with e;subst e;exact h.symm
 .rfl
def zK(a:St)(d)(x):(a.put d x).objs=a.objs:=by cases d<;>rfl
def AE(a:St)(d)(x):(a.put d x).nx=a.nx:=by cases d<;>rfl
def Uu{o}{b a}(h:∀x∈be o.op,ev a x=ev b x):qk o a=qk o b:=by
 unfold qk;rw[Uy _ h]
def Wxg{o}{g y V}(h:rxg T W A j o g some=some y)(N:∀t∈rO j o,look V.env t=look g.env t)
  (E:cz o=true->V.objs=g.objs/\V.nx=g.nx) (O:cz o=false->∀z∈qk o g,look V.objs z=look g.objs z):
  ∃v a U,Eff o v a U g y/\(cz o=false->a= []/\U=g.nx)/\
   ∃c,rxg T W A j o V some=some c/\(cz o=true->Eff o v a U V c)/\(cz o=false->Eff o v [] V.nx V c):=by
 have J:∀x∈be o.op,ev V x=ev g x:=λx f=>JP λt r=>N t (by
  unfold rO;exact Xn _ (Xgp.2 ⟨x,f,r⟩))
 unfold rxg at h|-;cases hg:o.guard with
 |none=>
  rw[hg]at h;exact WuT h J E O
 |some qa0=>
  obtain⟨qa1,d⟩:=qa0;rw[hg]at h;simp only at h|-;cases r:(j[qa1]?).bind (·.dst)with
  |none=>rw[r]at h;cases h
  |some t=>
   rw[r]at h;simp only at h|-;have H:look V.env t=look g.env t:=N t (by
    unfold rO;refine Xk _ ?_;rw[hg];simp only;rw[r];simp)
   rw[H];cases f:look g.env t with
   |none=>rw[f]at h;cases h
   |some x=>
    rw[f]at h;have k:∀(s u:St) (I:St),some (s.put o.dst (.tup []))=some I->(∀t,look s.env t=look g.env t)->s.objs=g.objs->s.nx=g.nx->(∀t,look u.env t=look V.env t)->u.objs=V.objs->u.nx=V.nx->
      ∃v a U,Eff o v a U g I/\(cz o=false->a= []/\U=g.nx)/\
       ∃c,some (u.put o.dst (.tup []))=some c/\(cz o=true->Eff o v a U V c)/\(cz o=false->Eff o v [] V.nx V c):=by
     intro s u I F qa3 qa4 qa5 K L M;injection F with F;subst F;refine⟨.tup [],[],g.nx,⟨λt=>?_,by rw[zK,qa4];rfl,by rw[AE,qa5]⟩,λ_=>⟨rfl,rfl⟩,_,rfl,λi=>⟨λt=>?_,by rw[zK,L];rfl,by rw[AE,M];exact(E i).2⟩,λ_=>⟨λt=>?_,by rw[zK,L];rfl,by rw[AE,M]⟩⟩
     .rw[wR,qa3]
     .rw[wR,K]
     .rw[wR,K]
    have m:∀b:Bool,x=one .bool b->rx1 T W A o (g.put (some t) (one .bool b)) some=some y->
      ∃v a U,Eff o v a U g y/\(cz o=false->a= []/\U=g.nx)/\
       ∃c,rx1 T W A o (V.put (some t) (one .bool b)) some=some c/\(cz o=true->Eff o v a U V c)/\(cz o=false->Eff o v [] V.nx V c):=by
     intro b q h1;subst q;have P:=I8 f;have G:=I8 (a:=V) (t:=t) (x:=one .bool b) (by rw[H];exact f);have S:∀x∈be o.op,ev (g.put (some t) (one .bool b)) x=ev g x:=λx f=>JP λt' _=>P t';have xE:∀x∈be o.op,ev (V.put (some t) (one .bool b)) x=ev V x:=λx f=>JP λt' _=>G t';obtain⟨v,a,U,B,Y,c,Z,C,D⟩:=WuT (a:=V.put (some t) (one .bool b)) h1 (λx f=>by rw[xE x f,S x f,J x f])
      (λi=>E i) (λkr z X=>O kr z (by rw[<-Uu S];exact X))
     refine⟨v,a,U,⟨λt'=>by rw[B.env,P],B.objs,B.nx⟩,Y,c,Z,λi=>⟨λt'=>by rw[(C i).env,G],(C i).objs,(C i).nx⟩,λi=>⟨λt'=>by rw[(D i).env,G],(D i).objs,(D i).nx⟩⟩
    have n:(match asB x with
      |some b=>bif b
       then(if d then rx1 T W A o (g.put (some t) (one .bool true)) some else some ((g.put (some t) (one .bool true)).put o.dst (.tup [])))
       else(if d then some ((g.put (some t) (one .bool false)).put o.dst (.tup []))else rx1 T W A o (g.put (some t) (one .bool false)) some)
      |none=>none)=some y->∃v a U,Eff o v a U g y/\(cz o=false->a= []/\U=g.nx)/\
       ∃c,(match asB x with
      |some b=>bif b
       then(if d then rx1 T W A o (V.put (some t) (one .bool true)) some else some ((V.put (some t) (one .bool true)).put o.dst (.tup [])))
       else(if d then some ((V.put (some t) (one .bool false)).put o.dst (.tup []))else rx1 T W A o (V.put (some t) (one .bool false)) some)
      |none=>none)=some c/\(cz o=true->Eff o v a U V c)/\(cz o=false->Eff o v [] V.nx V c):=by
     intro h;cases q:asB x with
     |none=>rw[q]at h;cases h
     |some b=>
      rw[q]at h;have w:=WBp q;have Q:∀p,p=b->∀t',look (g.put (some t) (one .bool p)).env t'=look g.env t':=λp e=>by subst e;exact I8 (by rw[f,w])
      have R:∀p,p=b->∀t',look (V.put (some t) (one .bool p)).env t'=look V.env t':=λp e=>by subst e;exact I8 (by rw[H,f,w])
      cases b<;>cases d
      .exact m false w h
      .exact k _ _ _ h (Q _ rfl) (zK _ _ _) (AE _ _ _) (R _ rfl) (zK _ _ _) (AE _ _ _)
      .exact k _ _ _ h (Q _ rfl) (zK _ _ _) (AE _ _ _) (R _ rfl) (zK _ _ _) (AE _ _ _)
      .exact m true w h
    cases x with
    |s qa2=>exact n h
    |tup l=>
     cases l with
     |nil=>exact k g V y h (λ_=>rfl) rfl rfl (λ_=>rfl) rfl rfl
     |cons qa2 l=>exact n h
end
structure Rc where
 i:Nat
 v:AVal
 pre:ai
 nx:Nat
 ids:List Nat
 mv:Bool
section
variable{T:Tab}{d:Ctx}{A:List (Nat×An)}{b:Array Oper}
structure StepTo(T:Tab)(d:Ctx)(A:List (Nat×An))(b:Array Oper)(ρ:Rc)(o:Oper)(a c:St):Prop where
 at_:b[ρ.i]?=some o
 isM:ρ.mv=cz o
 lk:ρ.mv=false->ρ.ids=qk o a
 run:rxg T d A b o a some=some c
 env:∀t,look c.env t=if o.dst=some t then some ρ.v else look a.env t
 objs:c.objs=if ρ.mv then ρ.pre++a.objs else a.objs
 nx:c.nx=if ρ.mv then ρ.nx else a.nx
def zg(T:Tab)(d:Ctx)(A:List (Nat×An))(b:Array Oper):List Rc->St->St->Prop
 | [],e,a=>e=a
 |ρ::l,e,a=>∃o c,StepTo T d A b ρ o e c/\zg T d A b l c a
def Ww1{i}{o}{f j}(g:b[i]?=some o)(h:rxg T d A b o f some=some j):
  ∃ρ:Rc,ρ.i=i/\StepTo T d A b ρ o f j:=by
 obtain⟨v,e,a,k,c,_⟩:=Wxg (V:=f) h (λ_ _=>rfl) (λ_=>⟨rfl,rfl⟩) (λ_ _ _=>rfl);refine⟨⟨i,v,e,a,qk o f,cz o⟩,rfl,g,rfl,λ_=>rfl,h,k.env,?_,?_⟩
 .simp only;cases hm:cz o with
  |true=>simpa using k.objs
  |false=>rw[k.objs,(c hm).1];rfl
 .simp only;cases hm:cz o with
  |true=>simpa using k.nx
  |false=>rw[k.nx,(c hm).2];rfl
def StepTo.move{ρ}{o}{E F a}(h:StepTo T d A b ρ o E F)(m:∀t∈rO b o,look a.env t=look E.env t)
  (n:ρ.mv=true->a.objs=E.objs/\a.nx=E.nx) (i:ρ.mv=false->∀j∈ρ.ids,look a.objs j=look E.objs j):
  ∃cC,StepTo T d A b ρ o a cC:=by
 obtain⟨v,u,G,k,y,cC,l,f,g⟩:=Wxg (V:=a) h.run m (λe=>n (by rw[h.isM];exact e)) (λq j r=>i (by rw[h.isM];exact q) j (by rw[h.lk (by rw[h.isM];exact q)];exact r));have p:∀t,o.dst=some t->v=ρ.v:=λt H=>by
  have C:=k.env t;have D:=h.env t;rw[Wb H]at C D;rw[C]at D;injection D
 have w:ρ.mv=false->qk o a=qk o E:=λ_=>Uu λx s=>JP λt H=>m t (by
  unfold rO;exact Xn _ (Xgp.2 ⟨x,s,H⟩))
 cases e:cz o with
 |true=>
  have c:ρ.mv=true:=by rw[h.isM];exact e
  have f:=f e;obtain⟨z,B⟩:=n c;refine⟨cC,h.at_,h.isM,λi=>(by rw[c]at i;cases i),l,λt=>?_,?_,?_⟩
  .rw[f.env];split
   .rename_i H;rw[p t H]
   .rfl
  .rw[f.objs,c];simp only[gp];have C:=k.objs;have D:=h.objs;rw[c]at D;simp only[gp]at D;rw[C]at D;rw[List.append_cancel_right D]
  .rw[f.nx,c];simp only[gp];have C:=k.nx;have D:=h.nx;rw[c]at D;simp only[gp]at D;rw[<-C,D]
 |false=>
  have c:ρ.mv=false:=by rw[h.isM];exact e
  have g:=g e;refine⟨cC,h.at_,h.isM,λi=>by rw[w c];exact h.lk c,l,λt=>?_,?_,?_⟩
  .rw[g.env];split
   .rename_i H;rw[p t H]
   .rfl
  .rw[g.objs,c];rfl
  .rw[g.nx,c];rfl
def LR(c:List Nat)(a:ai):Prop:=∀b∈c,b∉xT a
def OB(B:List (List Nat))(x y:Rc):Prop:=
 (x.mv=false->y.mv=true->hN B x.i y.i=true\/LR x.ids y.pre)/\
 (x.mv=true->y.mv=false->hN B x.i y.i=true\/LR y.ids x.pre)
def GB{a}:∀(l) (k:List Nat->a),uW l k=k l
 | [],_=>rfl
 |x::l,k=>by rw[uW,GB l]
def Yg{a}:∀(l) (k:List (List Nat)->a),Lx l k=k l
 | [],_=>rfl
 |x::l,k=>by rw[Lx,GB,Yg l]
def V1{ids}{a}(h:oT ids (xT a)=true):LR ids a:=λe b c=>by
 unfold oT at h;have:=cS.1 h e b;rw[(nN e _).2 c]at this;cases this
def WsR(a c):Sl c (a++c)=xT a:=by
 unfold Sl;simp
def QI{B:List (List Nat)}{R}{k:St->Option R}{r}:∀(l:List Nat) (s t:List (Nat×List Nat)) (J),rdx T d A b B l s t J k=some r->
  ∃(c:List Rc) (a:St),c.map (·.i)=l/\zg T d A b c J a/\k a=some r/\c.Pairwise (OB B)/\
   (∀p∈s,∀ρ∈c,ρ.mv=true->hN B p.1 ρ.i=true\/LR p.2 ρ.pre)/\
   (∀p∈t,∀ρ∈c,ρ.mv=false->hN B p.1 ρ.i=true\/oT ρ.ids p.2=true)
 | [],s,t,J,h=>⟨[],J,rfl,rfl,h,List.Pairwise.nil,Δ,Δ⟩
 |i::l,s,t,J,h=>by
  simp only[rdx]at h;cases ho:b[i]? with
  |none=>rw[ho]at h;cases h
  |some o=>
   rw[ho]at h;simp only at h;cases hm:cz o with
   |true=>
    simp only[hm,We]at h;obtain⟨x,z,K⟩:=YA h;rw[GB]at K;obtain⟨q,K⟩:=lB K;obtain⟨ρ,e,f⟩:=Ww1 ho z;have g:ρ.mv=true:=by rw[f.isM];exact hm
    have w:=f.objs;rw[g]at w;simp only[gp]at w;rw[w,WsR]at q K;obtain⟨c,a,C,D,E,F,u,v⟩:=QI l _ _ _ K;refine⟨ρ::c,a,by simp[e,C],⟨o,x,f,D⟩,E,List.Pairwise.cons (λy H=>⟨λn=>(by rw[g]at n;cases n),λ_ j=>?_⟩) F,λp I y H m=>?_,λp I y H j=>?_⟩
    .rcases v (i,xT ρ.pre) (Xg ..) y H j with h|h
     .rw[e];exact .inl h
     .exact .inr (V1 h)
    .rcases Xr.1 H with rfl|H
     .have:=cS.1 q p I;rw[sH]at this;rw[e];exact this.imp id V1
     .exact u p I y H m
    .rcases Xr.1 H with rfl|H
     .rw[g]at j;cases j
     .exact v p (Xe _ I) y H j
   |false=>
    simp only[hm,Wc]at h;rw[GB]at h;obtain⟨q,h⟩:=lB h;obtain⟨x,z,K⟩:=YA h;obtain⟨ρ,e,f⟩:=Ww1 ho z;have g:ρ.mv=false:=by rw[f.isM];exact hm
    have G:=f.lk g;rw[<-G]at q K;obtain⟨c,a,C,D,E,F,u,v⟩:=QI l _ _ _ K;refine⟨ρ::c,a,by simp[e,C],⟨o,x,f,D⟩,E,List.Pairwise.cons (λy H=>⟨λ_ m=>?_,λn=>(by rw[g]at n;cases n)⟩) F,λp I y H m=>?_,λp I y H j=>?_⟩
    .rw[e];exact u (i,ρ.ids) (Xg ..) y H m
    .rcases Xr.1 H with rfl|H
     .rw[g]at m;cases m
     .exact u p (Xe _ I) y H m
    .rcases Xr.1 H with rfl|H
     .have:=cS.1 q p I;rw[sH]at this;rw[e];exact this
     .exact v p I y H j
def jY(b:Array Oper)(i:Nat):Option Tmp:=(b[i]?).bind (·.dst)
def nd(b:Array Oper):List Rc->(Nat->Option AVal)->Nat->Option AVal
 | [],e,t=>e t
 |ρ::a,e,t=>nd b a (λc=>if jY b ρ.i=some c then some ρ.v else e c) t
def gt:List Rc->ai×Nat->ai×Nat
 | [],m=>m
 |ρ::a,m=>gt a (if ρ.mv then(ρ.pre++m.1,ρ.nx)else m)
def Pk:∀(rs) (i a),zg T d A b rs i a->(∀t,look a.env t=nd b rs (look i.env) t)/\(a.objs,a.nx)=gt rs (i.objs,i.nx)
 | [],i,a,h=>by cases h;exact⟨λ_=>rfl,rfl⟩
 |ρ::rs,i,a,⟨o,g,f,h⟩=>by
  obtain⟨c,j⟩:=Pk rs g a h;have e:(look g.env)= λt'=>if jY b ρ.i=some t' then some ρ.v else look i.env t':=funext λt=>by
   rw[f.env];unfold jY;rw[f.at_];rfl
  refine⟨λt=>by rw[c,e];rfl,?_⟩;rw[j,gt];congr 1;rw[f.objs,f.nx];split<;>rfl
def VD:∀(l) (ρ) (m) (n a),zg T d A b (l++ρ::m) n a->∃o c e,zg T d A b l n c/\StepTo T d A b ρ o c e
 | [],ρ,m,n,a,⟨o,c,p,h⟩=>⟨o,n,c,rfl,p⟩
 |x::l,ρ,m,n,a,⟨o,c,p,h⟩=>by
  obtain⟨i,j,k,f,g⟩:=VD l ρ m c a h;exact⟨i,j,k,⟨o,c,p,f⟩,g⟩
def zy:∀(a:List Rc) (m:ai×Nat),gt a m=gt (a.filter (·.mv)) m
 | [],_=>rfl
 |ρ::a,m=>by
  rw[gt,zy a,io];cases h:ρ.mv with
  |true=>simp only[gp,gt,h]
  |false=>simp only[my,jN]
def JB:∀(a b) (m),gt (a++b) m=gt b (gt a m)
 | [],_,_=>rfl
 |ρ::a,b,m=>by rw[hZ,gt,JB a b];rfl
def Wk4{a c:ai}{id}(h:id∉xT a):look (a++c) id=look c id:=by
 induction a with
 |nil=>rfl
 |cons p a ih=>
  obtain⟨j,b⟩:=p;simp only[xT,bo,Xr,not_or]at h;rw[hZ,WZ,Wa (λe=>h.1 e.symm)];exact ih h.2
def PL{id}:∀(a) (m),(∀ρ∈a,ρ.mv=true->id∉xT ρ.pre)->look (gt a m).1 id=look m.1 id
 | [],_,_=>rfl
 |ρ::a,m,h=>by
  rw[gt,PL a _ λx b=>h x (Xe _ b)];split
  .rename_i hm;exact Wk4 (h ρ (Xg ..) hm)
  .rfl
def Lg(b:Array Oper):Prop:=∀i j t,jY b i=some t->jY b j=some t->i=j
def JV{t:Nat}:∀(a) (e),(∀ρ∈a,jY b ρ.i≠some t)->nd b a e t=e t
 | [],_,_=>rfl
 |ρ::a,e,h=>by
  rw[nd,JV a _ λx c=>h x (Xe _ c),Wa (h ρ (Xg ..))]
def Py{t:Nat}(d:Lg b):∀(a:List Rc) (e:Nat->Option AVal),(a.map (·.i)).Nodup->∀ρ∈a,jY b ρ.i=some t->nd b a e t=some ρ.v
 | [],_,_,_,h,_=>by cases h
 |x::a,e,i,ρ,c,ht=>by
  rw[bo,dH]at i;rw[nd];rcases Xr.1 c with rfl|c
  .rw[JV a _ λy g f=>i.1 (by rw[d _ _ _ ht f];exact Xy.2 ⟨y,g,rfl⟩),Wb ht]
  .exact Py d a _ i.2 ρ c ht
def VH{t:Nat}(g:Lg b){a i:List Rc}{e:Nat->Option AVal}(j:(a.map (·.i)).Nodup)(k:(i.map (·.i)).Nodup)
  (h:∀ρ,jY b ρ.i=some t->(ρ∈a↔ρ∈i)):nd b a e t=nd b i e t:=by
 by_cases f:∃ρ∈a,jY b ρ.i=some t
 .obtain⟨ρ,d,c⟩:=f;rw[Py g a e j ρ d c,Py g i e k ρ ((h ρ c).1 d) c]
 .rw[JV a e λρ d c=>f ⟨ρ,d,c⟩,JV i e λρ d c=>f ⟨ρ,(h ρ c).2 d,c⟩]
end
end Go.Sx
