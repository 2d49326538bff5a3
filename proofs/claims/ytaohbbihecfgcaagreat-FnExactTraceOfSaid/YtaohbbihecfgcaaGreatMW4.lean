/- Plain laws of the Lean functions. -/
import Derived.Test.YtaohbbihecfgcaaGreatMW3
open Nat renaming le_trans→Xbe,le_refl→Xl
open List renaming getElem_mem→Xab,replicate→Xp,drop_zero→Xal,length_cons→Xq,mem_cons_self→Xj,mem_cons_of_mem→Xf,length_append→Xw,length_nil→Xbp,map_cons→Xaf,sum_cons→Xcx
open Option renaming bind_some→Xd
open Int renaming toNat→Xa
namespace Go.Sx
set_option linter.unusedVariables false
set_option linter.unusedSimpArgs false
section
set_option synthInstance.maxSize 20000
set_option synthInstance.maxHeartbeats 4000000
def WbJ(l:List Int):Nat:=l.length
theorem WoA{N:Nat}{a:List Int}{left:Int}(hN:1048576<N)(h0:0<=left)(h1:left<=1048576)(hw:Wfd (.slice (.int .i64)) a):
  Zn1 N a left=ret (if left<(WbJ a:Int)then-1 else left-(WbJ a:Int)):=by
 have hl:a.length<=9223372036854775807:=Xbe hw.1 (by decide);unfold Zn1 WbJ;have e:WV .i64 left (Wh a)=left-(a.length:Int):=WQ (by unfold I64 Wh;omega);rw[e];by_cases h:left<(a.length:Int)
 .rw[Wf h,show decide (left-(a.length:Int)<0)=true by simp;omega];rfl
 .rw[Wb h,show decide (left-(a.length:Int)<0)=false by simp;omega];rfl
def WaV(a:List Int×List Int×Int):Nat:=WbJ a.1+WbJ a.2.1
theorem Wo6{N:Nat}{a:List Int×List Int×Int}{left:Int}(hN:1048576<N)(h0:0<=left)(h1:left<=1048576)(hw:Wfd (.prod (.slice (.int .i64)) (.prod (.slice (.int .i64)) (.int .i64))) a):
  Zon N a left=ret (if left<(WaV a:Int)then-1 else left-(WaV a:Int)):=by
 unfold Zon;unfold WaV;rw[show(WbJ a.1+WbJ a.2.1)=WbJ a.1+(WbJ a.2.1+(0)) by omega];rw[WoA hN (by omega) (by omega) hw.1];refine Wes (z2:=WbJ a.2.1+(0)) (by omega) λh2=>?_;simp only[];rw[WoA hN (by omega) (by omega) hw.2.1];refine Wes (z2:=0) (by omega) λh3=>?_;simp only[];exact Wj9 (by omega)
def WdG(l:List Ka):Nat:=l.length
theorem WqW{N:Nat}{a:List Ka}{left:Int}(hN:1048576<N)(h0:0<=left)(h1:left<=1048576)(hw:Wfd (.slice (.prod (.int .i64) (.prod (.int .i64) (.prod (.int .i64) (.int .i64))))) a):
  Zpo N a left=ret (if left<(WdG a:Int)then-1 else left-(WdG a:Int)):=by
 have hl:a.length<=9223372036854775807:=Xbe hw.1 (by decide);unfold Zpo WdG;have e:WV .i64 left (Wh a)=left-(a.length:Int):=WQ (by unfold I64 Wh;omega);rw[e];by_cases h:left<(a.length:Int)
 .rw[Wf h,show decide (left-(a.length:Int)<0)=true by simp;omega];rfl
 .rw[Wb h,show decide (left-(a.length:Int)<0)=false by simp;omega];rfl
def WeY(a:List Ka):Nat:=WdG a
theorem Wtw{N:Nat}{a:List Ka}{left:Int}(hN:1048576<N)(h0:0<=left)(h1:left<=1048576)(hw:Wfd (.slice (.prod (.int .i64) (.prod (.int .i64) (.prod (.int .i64) (.int .i64))))) a):
  Zth N a left=ret (if left<(WeY a:Int)then-1 else left-(WeY a:Int)):=by
 unfold Zth;unfold WeY;rw[show(WdG a)=WdG a+(0) by omega];rw[WqW hN (by omega) (by omega) hw];refine Wes (z2:=0) (by omega) λh2=>?_;simp only[];exact Wj9 (by omega)
def Wbd(l:List Kaa):Nat:=l.length+(l.map WeY).sum
theorem WeI{l:List Kaa}{x:List Ka}(h:x∈l):WeY x<=Wbd l:=by
 have:=WgJ WeY h;unfold Wbd;omega
theorem WeP{l:List Kaa}:l.length<=Wbd l:=by unfold Wbd;omega
theorem WsE{N:Nat}{a:List Kaa}{left:Int}(hN:1048576<N)(h0:0<=left)(h1:left<=1048576)(hw:Wfd (.slice (.slice (.prod (.int .i64) (.prod (.int .i64) (.prod (.int .i64) (.int .i64)))))) a):
  Zj2 N a left=ret (if left<(Wbd a:Int)then-1 else left-(Wbd a:Int)):=by
 have hl:a.length<=9223372036854775807:=Xbe hw.1 (by decide);unfold Zj2 Wbd;have e:WV .i64 left (Wh a)=left-(a.length:Int):=WQ (by unfold I64 Wh;omega);rw[e];by_cases h:left<(a.length:Int)
 .rw[Wf (by omega),show decide (left-(a.length:Int)<0)=true by simp;omega];rfl
 .rw[show decide (left-(a.length:Int)<0)=false by simp;omega];simp only[Wc];refine Wor (z:=WeY) (lp:=λn left i=>Zdr N a _ _ n left i) ?_ ?_ (by omega) (by omega) h1
  .intro n left j hj h0 h1;simp only[Zdr,WG hj,Wu hj,Ww hj,Wm (show j<4611686018427387904 by omega),Wa,Wtw hN h0 h1 (hw.2 _ (Xab hj)),ret,Xd];by_cases h2:left<(WeY a[j]:Int)
   .rw[Wf h2,Wf h2];rfl
   .rw[Wb h2,Wb h2,show decide (left-(WeY a[j]:Int)<0)=false by simp;omega];rfl
  .intro n left;simp only[Zdr,WP (Xl a.length),Wc]
def Wcp(a:List Ka×List Kaa):Nat:=WdG a.1+Wbd a.2
theorem Wsh{N:Nat}{a:List Ka×List Kaa}{left:Int}(hN:1048576<N)(h0:0<=left)(h1:left<=1048576)(hw:Wfd (.prod (.slice (.prod (.int .i64) (.prod (.int .i64) (.prod (.int .i64) (.int .i64))))) (.slice (.slice (.prod (.int .i64) (.prod (.int .i64) (.prod (.int .i64) (.int .i64))))))) a):
  Zrs N a left=ret (if left<(Wcp a:Int)then-1 else left-(Wcp a:Int)):=by
 unfold Zrs;unfold Wcp;rw[show(WdG a.1+Wbd a.2)=WdG a.1+(Wbd a.2+(0)) by omega];rw[WqW hN (by omega) (by omega) hw.1];refine Wes (z2:=Wbd a.2+(0)) (by omega) λh2=>?_;simp only[];rw[WsE hN (by omega) (by omega) hw.2];refine Wes (z2:=0) (by omega) λh3=>?_;simp only[];exact Wj9 (by omega)
def WaE(l:List Km):Nat:=l.length+(l.map Wcp).sum
theorem WdC{l:List Km}{x:List Ka×List Kaa}(h:x∈l):Wcp x<=WaE l:=by
 have:=WgJ Wcp h;unfold WaE;omega
theorem Wdy{l:List Km}:l.length<=WaE l:=by unfold WaE;omega
theorem Wqj{N:Nat}{a:List Km}{left:Int}(hN:1048576<N)(h0:0<=left)(h1:left<=1048576)(hw:Wfd (.slice (.prod (.slice (.prod (.int .i64) (.prod (.int .i64) (.prod (.int .i64) (.int .i64))))) (.slice (.slice (.prod (.int .i64) (.prod (.int .i64) (.prod (.int .i64) (.int .i64)))))))) a):
  Zix N a left=ret (if left<(WaE a:Int)then-1 else left-(WaE a:Int)):=by
 have hl:a.length<=9223372036854775807:=Xbe hw.1 (by decide);unfold Zix WaE;have e:WV .i64 left (Wh a)=left-(a.length:Int):=WQ (by unfold I64 Wh;omega);rw[e];by_cases h:left<(a.length:Int)
 .rw[Wf (by omega),show decide (left-(a.length:Int)<0)=true by simp;omega];rfl
 .rw[show decide (left-(a.length:Int)<0)=false by simp;omega];simp only[Wc];refine Wor (z:=Wcp) (lp:=λn left i=>Zc0 N a _ _ n left i) ?_ ?_ (by omega) (by omega) h1
  .intro n left j hj h0 h1;simp only[Zc0,WG hj,Wu hj,Ww hj,Wm (show j<4611686018427387904 by omega),Wa,Wsh hN h0 h1 (hw.2 _ (Xab hj)),ret,Xd];by_cases h2:left<(Wcp a[j]:Int)
   .rw[Wf h2,Wf h2];rfl
   .rw[Wb h2,Wb h2,show decide (left-(Wcp a[j]:Int)<0)=false by simp;omega];rfl
  .intro n left;simp only[Zc0,WP (Xl a.length),Wc]
def Wc9(l:List Kb):Nat:=l.length
theorem WrR{N:Nat}{a:List Kb}{left:Int}(hN:1048576<N)(h0:0<=left)(h1:left<=1048576)(hw:Wfd (.slice (.prod (.int .i64) (.prod (.int .i64) (.int .i64)))) a):
  Zrt N a left=ret (if left<(Wc9 a:Int)then-1 else left-(Wc9 a:Int)):=by
 have hl:a.length<=9223372036854775807:=Xbe hw.1 (by decide);unfold Zrt Wc9;have e:WV .i64 left (Wh a)=left-(a.length:Int):=WQ (by unfold I64 Wh;omega);rw[e];by_cases h:left<(a.length:Int)
 .rw[Wf h,show decide (left-(a.length:Int)<0)=true by simp;omega];rfl
 .rw[Wb h,show decide (left-(a.length:Int)<0)=false by simp;omega];rfl
def Wbg(a:Kf×List Km×List Kb):Nat:=WaV a.1+WaE a.2.1+Wc9 a.2.2
theorem WpQ{N:Nat}{a:Kf×List Km×List Kb}{left:Int}(hN:1048576<N)(h0:0<=left)(h1:left<=1048576)(hw:Wfd (.prod (.prod (.slice (.int .i64)) (.prod (.slice (.int .i64)) (.int .i64))) (.prod (.slice (.prod (.slice (.prod (.int .i64) (.prod (.int .i64) (.prod (.int .i64) (.int .i64))))) (.slice (.slice (.prod (.int .i64) (.prod (.int .i64) (.prod (.int .i64) (.int .i64)))))))) (.slice (.prod (.int .i64) (.prod (.int .i64) (.int .i64)))))) a):
  Zoo N a left=ret (if left<(Wbg a:Int)then-1 else left-(Wbg a:Int)):=by
 unfold Zoo;unfold Wbg;rw[show(WaV a.1+WaE a.2.1+Wc9 a.2.2)=WaV a.1+(WaE a.2.1+(Wc9 a.2.2+(0))) by omega];rw[Wo6 hN (by omega) (by omega) hw.1];refine Wes (z2:=WaE a.2.1+(Wc9 a.2.2+(0))) (by omega) λh2=>?_;simp only[];rw[Wqj hN (by omega) (by omega) hw.2.1];refine Wes (z2:=Wc9 a.2.2+(0)) (by omega) λh3=>?_;simp only[];rw[WrR hN (by omega) (by omega) hw.2.2];refine Wes (z2:=0) (by omega) λh4=>?_;simp only[];exact Wj9 (by omega)
theorem WoG{N:Nat}{a:List Int}(h:WbJ a<=1048576)(hN:1048576<N):Zh8 N a=ret a:=by
 have hl:a.length<=1048576:=h;unfold Zh8;rw[WgL a (by omega),Wcx];simp only[Wa];have h1:=Wy (l:=a) (V:=List Int) (R:=Unit×(List Int×Unit)) (lp:=λn j v=>Zds N a (λi8 t9 cP=>some ((),(cP,()))) n j v) (n:=N) (by omega)
  (body:=λj x v k=>bif inb j v.length then k (v.set j.toNat x)else none) (K:=λ_ v=>some ((),(v,())))
  (λn i v hi=>by simp only[Zds,WG hi,Wu hi,Ww hi,Wm (show i<4611686018427387904 by omega),Wa,ret,Xd])
  (λn v=>by simp only[Zds,WP (Xl a.length),Wc]) (Xp a.length (0:Int))
 refine h1.trans ?_;rw[Wdj (f:=id) a (λj x v k _=>rfl)];simp
theorem WpL{N:Nat}{a:List Int×List Int×Int}(h:WaV a<=1048576)(hN:1048576<N):Zop N a=ret a:=by
 unfold WaV at h;unfold Zop;simp only[WoG (a:=a.1) (show WbJ a.1<=1048576 by omega) hN,WoG (a:=a.2.1) (show WbJ a.2.1<=1048576 by omega) hN,ret,Xd]
 all_goals rfl
theorem Wui{N:Nat}{a:Int×Int×Int×Int}(hN:1048576<N):Zvc N a=ret a:=by
 unfold Zvc
 all_goals rfl
theorem WrG{N:Nat}{a:List Ka}(h:WdG a<=1048576)(hN:1048576<N):Zi9 N a=ret a:=by
 have hl:a.length<=1048576:=h;unfold Zi9;rw[WgL a (by omega),Wcx];simp only[Wa];have h1:=Wy (l:=a) (V:=List Ka) (R:=Unit×(List Ka×Unit)) (lp:=λn j v=>Zex N a (λi8 t9 cP=>some ((),(cP,()))) n j v) (n:=N) (by omega)
  (body:=λj x v k=>bif inb j v.length then k (v.set j.toNat x)else none) (K:=λ_ v=>some ((),(v,())))
  (λn i v hi=>by simp only[Zex,WG hi,Wu hi,Ww hi,Wm (show i<4611686018427387904 by omega),Wa,Wui hN,ret,Xd])
  (λn v=>by simp only[Zex,WP (Xl a.length),Wc]) (Xp a.length ((0:Int),((0:Int),((0:Int),(0:Int)))))
 refine h1.trans ?_;rw[Wdj (f:=id) a (λj x v k _=>rfl)];simp
theorem WtH{N:Nat}{a:List Ka}(h:WeY a<=1048576)(hN:1048576<N):Zti N a=ret a:=by
 unfold WeY at h;unfold Zti;simp only[WrG (a:=a) (show WdG a<=1048576 by omega) hN,ret,Xd]
 all_goals rfl
theorem Wsm{N:Nat}{a:List Kaa}(h:Wbd a<=1048576)(hN:1048576<N):Zj3 N a=ret a:=by
 have hl:a.length<=1048576:=Xbe WeP h;unfold Zj3;rw[WgL a (by omega),Wcx];simp only[Wa];have h1:=Wy (l:=a) (V:=List Kaa) (R:=Unit×(List Kaa×Unit)) (lp:=λn j v=>Zdt N a (λi8 t9 cP=>some ((),(cP,()))) n j v) (n:=N) (by omega)
  (body:=λj x v k=>bif inb j v.length then k (v.set j.toNat x)else none) (K:=λ_ v=>some ((),(v,())))
  (λn i v hi=>by simp only[Zdt,WG hi,Wu hi,Ww hi,Wm (show i<4611686018427387904 by omega),Wa,WtH (Xbe (WeI (Xab hi)) h) hN,ret,Xd])
  (λn v=>by simp only[Zdt,WP (Xl a.length),Wc]) (Xp a.length ([]:List Ka))
 refine h1.trans ?_;rw[Wdj (f:=id) a (λj x v k _=>rfl)];simp
theorem WsB{N:Nat}{a:List Ka×List Kaa}(h:Wcp a<=1048576)(hN:1048576<N):Zru N a=ret a:=by
 unfold Wcp at h;unfold Zru;simp only[WrG (a:=a.1) (show WdG a.1<=1048576 by omega) hN,Wsm (a:=a.2) (show Wbd a.2<=1048576 by omega) hN,ret,Xd]
 all_goals rfl
theorem Wrl{N:Nat}{a:List Km}(h:WaE a<=1048576)(hN:1048576<N):Ziy N a=ret a:=by
 have hl:a.length<=1048576:=Xbe Wdy h;unfold Ziy;rw[WgL a (by omega),Wcx];simp only[Wa];have h1:=Wy (l:=a) (V:=List Km) (R:=Unit×(List Km×Unit)) (lp:=λn j v=>Zc1 N a (λi8 t9 cP=>some ((),(cP,()))) n j v) (n:=N) (by omega)
  (body:=λj x v k=>bif inb j v.length then k (v.set j.toNat x)else none) (K:=λ_ v=>some ((),(v,())))
  (λn i v hi=>by simp only[Zc1,WG hi,Wu hi,Ww hi,Wm (show i<4611686018427387904 by omega),Wa,WsB (Xbe (WdC (Xab hi)) h) hN,ret,Xd])
  (λn v=>by simp only[Zc1,WP (Xl a.length),Wc]) (Xp a.length (([]:List Ka),([]:List Kaa)))
 refine h1.trans ?_;rw[Wdj (f:=id) a (λj x v k _=>rfl)];simp
theorem Wtv{N:Nat}{a:Int×Int×Int}(hN:1048576<N):Ztl N a=ret a:=by
 unfold Ztl
 all_goals rfl
theorem Wsb{N:Nat}{a:List Kb}(h:Wc9 a<=1048576)(hN:1048576<N):Zkd N a=ret a:=by
 have hl:a.length<=1048576:=h;unfold Zkd;rw[WgL a (by omega),Wcx];simp only[Wa];have h1:=Wy (l:=a) (V:=List Kb) (R:=Unit×(List Kb×Unit)) (lp:=λn j v=>Zd5 N a (λi8 t9 cP=>some ((),(cP,()))) n j v) (n:=N) (by omega)
  (body:=λj x v k=>bif inb j v.length then k (v.set j.toNat x)else none) (K:=λ_ v=>some ((),(v,())))
  (λn i v hi=>by simp only[Zd5,WG hi,Wu hi,Ww hi,Wm (show i<4611686018427387904 by omega),Wa,Wtv hN,ret,Xd])
  (λn v=>by simp only[Zd5,WP (Xl a.length),Wc]) (Xp a.length ((0:Int),((0:Int),(0:Int))))
 refine h1.trans ?_;rw[Wdj (f:=id) a (λj x v k _=>rfl)];simp
theorem Wp4{N:Nat}{a:Kf×List Km×List Kb}(h:Wbg a<=1048576)(hN:1048576<N):Zgc N a=ret a:=by
 unfold Wbg at h;unfold Zgc;simp only[WpL (a:=a.1) (show WaV a.1<=1048576 by omega) hN,Wrl (a:=a.2.1) (show WaE a.2.1<=1048576 by omega) hN,Wsb (a:=a.2.2) (show Wc9 a.2.2<=1048576 by omega) hN,ret,Xd]
 all_goals rfl
theorem WoE{N:Nat}{a b:List Int}(h:WbJ a<=1048576)(hN:1048576<N):Zib N a b=ret (same a b):=by
 have hl0:a.length<=1048576:=h;unfold Zib;by_cases hl:a.length=b.length
 .have e:(Wh a !=Wh b)=false:=by simp[Wh,hl]
  rw[e];simp only[Wc];have h1:=Wy (l:=a) (V:=Unit) (R:=Unit×Kq) (lp:=λn j v=>Zd2 N a b (some ((),(false,()))) (λi8 t9=>some ((),(true,()))) n j) (n:=N) (by omega)
   (body:=λj x v k=>bif inb j b.length then(bif !same x (b.getD j.toNat (0:Int))then some ((),(false,()))else k v)else none) (K:=λ_ v=>some ((),(true,())))
   (λn i v hi=>by simp only[Zd2,WG hi,Wu hi,Ww hi,Wm (show i<4611686018427387904 by omega),Wa,Wc0,WcY,Wc5,ret,Xd])
   (λn v=>by simp only[Zd2,WP (Xl a.length),Wc]) ()
  refine h1.trans ?_;rw[WbQ (E:=λ_=>some ((),(false,()))) (z:=(0:Int)) a b 0 () (by omega) (λj x v k _=>rfl)];simp only[Xal];cases same a b<;>rfl
 .have e:(Wh a !=Wh b)=true:=by simp[Wh];omega
  have e2:a≠b:=λh=>hl (by rw[h]);rw[e,Wdd e2];rfl
theorem WpP{N:Nat}{a b:List Int×List Int×Int}(h:WaV a<=1048576)(hN:1048576<N):Zor N a b=ret (same a b):=by
 unfold WaV at h;unfold Zor;simp only[Wc0,WcY,Wc5,WoE (a:=a.1) (show WbJ a.1<=1048576 by omega) hN,WoE (a:=a.2.1) (show WbJ a.2.1<=1048576 by omega) hN,ret,Xd];exact WbM (WbM (Wfo))
theorem Wuh{N:Nat}{a b:Int×Int×Int×Int}(hN:1048576<N):Zvf N a b=ret (same a b):=by
 unfold Zvf;simp only[Wc0,WcY,Wc5,ret,Xd];exact WbM (WbM (WbM (Wfo)))
theorem Wrj{N:Nat}{a b:List Ka}(h:WdG a<=1048576)(hN:1048576<N):Zje N a b=ret (same a b):=by
 have hl0:a.length<=1048576:=h;unfold Zje;by_cases hl:a.length=b.length
 .have e:(Wh a !=Wh b)=false:=by simp[Wh,hl]
  rw[e];simp only[Wc];have h1:=Wy (l:=a) (V:=Unit) (R:=Unit×Kq) (lp:=λn j v=>Ze4 N a b (some ((),(false,()))) (λi8 t9=>some ((),(true,()))) n j) (n:=N) (by omega)
   (body:=λj x v k=>bif inb j b.length then(bif !same x (b.getD j.toNat ((0:Int),((0:Int),((0:Int),(0:Int)))))then some ((),(false,()))else k v)else none) (K:=λ_ v=>some ((),(true,())))
   (λn i v hi=>by simp only[Ze4,WG hi,Wu hi,Ww hi,Wm (show i<4611686018427387904 by omega),Wa,Wuh hN,ret,Xd])
   (λn v=>by simp only[Ze4,WP (Xl a.length),Wc]) ()
  refine h1.trans ?_;rw[WbQ (E:=λ_=>some ((),(false,()))) (z:=((0:Int),((0:Int),((0:Int),(0:Int))))) a b 0 () (by omega) (λj x v k _=>rfl)];simp only[Xal];cases same a b<;>rfl
 .have e:(Wh a !=Wh b)=true:=by simp[Wh];omega
  have e2:a≠b:=λh=>hl (by rw[h]);rw[e,Wdd e2];rfl
theorem Wts{N:Nat}{a b:List Ka}(h:WeY a<=1048576)(hN:1048576<N):Ztj N a b=ret (same a b):=by
 unfold WeY at h;unfold Ztj;simp only[Wc0,WcY,Wc5,Wrj (a:=a) (show WdG a<=1048576 by omega) hN,ret,Xd];exact Wfo
theorem WsS{N:Nat}{a b:List Kaa}(h:Wbd a<=1048576)(hN:1048576<N):Zj8 N a b=ret (same a b):=by
 have hl0:a.length<=1048576:=Xbe WeP h;unfold Zj8;by_cases hl:a.length=b.length
 .have e:(Wh a !=Wh b)=false:=by simp[Wh,hl]
  rw[e];simp only[Wc];have h1:=Wy (l:=a) (V:=Unit) (R:=Unit×Kq) (lp:=λn j v=>Zd3 N a b (some ((),(false,()))) (λi8 t9=>some ((),(true,()))) n j) (n:=N) (by omega)
   (body:=λj x v k=>bif inb j b.length then(bif !same x (b.getD j.toNat ([]:List Ka))then some ((),(false,()))else k v)else none) (K:=λ_ v=>some ((),(true,())))
   (λn i v hi=>by simp only[Zd3,WG hi,Wu hi,Ww hi,Wm (show i<4611686018427387904 by omega),Wa,Wts (Xbe (WeI (Xab hi)) h) hN,ret,Xd])
   (λn v=>by simp only[Zd3,WP (Xl a.length),Wc]) ()
  refine h1.trans ?_;rw[WbQ (E:=λ_=>some ((),(false,()))) (z:=([]:List Ka)) a b 0 () (by omega) (λj x v k _=>rfl)];simp only[Xal];cases same a b<;>rfl
 .have e:(Wh a !=Wh b)=true:=by simp[Wh];omega
  have e2:a≠b:=λh=>hl (by rw[h]);rw[e,Wdd e2];rfl
theorem Wsp{N:Nat}{a b:List Ka×List Kaa}(h:Wcp a<=1048576)(hN:1048576<N):Zr0 N a b=ret (same a b):=by
 unfold Wcp at h;unfold Zr0;simp only[Wc0,WcY,Wc5,Wrj (a:=a.1) (show WdG a.1<=1048576 by omega) hN,WsS (a:=a.2) (show Wbd a.2<=1048576 by omega) hN,ret,Xd];exact WbM (Wfo)
theorem WqM{N:Nat}{a b:List Km}(h:WaE a<=1048576)(hN:1048576<N):Zi6 N a b=ret (same a b):=by
 have hl0:a.length<=1048576:=Xbe Wdy h;unfold Zi6;by_cases hl:a.length=b.length
 .have e:(Wh a !=Wh b)=false:=by simp[Wh,hl]
  rw[e];simp only[Wc];have h1:=Wy (l:=a) (V:=Unit) (R:=Unit×Kq) (lp:=λn j v=>Zc9 N a b (some ((),(false,()))) (λi8 t9=>some ((),(true,()))) n j) (n:=N) (by omega)
   (body:=λj x v k=>bif inb j b.length then(bif !same x (b.getD j.toNat (([]:List Ka),([]:List Kaa)))then some ((),(false,()))else k v)else none) (K:=λ_ v=>some ((),(true,())))
   (λn i v hi=>by simp only[Zc9,WG hi,Wu hi,Ww hi,Wm (show i<4611686018427387904 by omega),Wa,Wsp (Xbe (WdC (Xab hi)) h) hN,ret,Xd])
   (λn v=>by simp only[Zc9,WP (Xl a.length),Wc]) ()
  refine h1.trans ?_;rw[WbQ (E:=λ_=>some ((),(false,()))) (z:=(([]:List Ka),([]:List Kaa))) a b 0 () (by omega) (λj x v k _=>rfl)];simp only[Xal];cases same a b<;>rfl
 .have e:(Wh a !=Wh b)=true:=by simp[Wh];omega
  have e2:a≠b:=λh=>hl (by rw[h]);rw[e,Wdd e2];rfl
theorem Wtx{N:Nat}{a b:Int×Int×Int}(hN:1048576<N):Ztm N a b=ret (same a b):=by
 unfold Ztm;simp only[Wc0,WcY,Wc5,ret,Xd];exact WbM (WbM (Wfo))
theorem WrZ{N:Nat}{a b:List Kb}(h:Wc9 a<=1048576)(hN:1048576<N):Zkf N a b=ret (same a b):=by
 have hl0:a.length<=1048576:=h;unfold Zkf;by_cases hl:a.length=b.length
 .have e:(Wh a !=Wh b)=false:=by simp[Wh,hl]
  rw[e];simp only[Wc];have h1:=Wy (l:=a) (V:=Unit) (R:=Unit×Kq) (lp:=λn j v=>Zd6 N a b (some ((),(false,()))) (λi8 t9=>some ((),(true,()))) n j) (n:=N) (by omega)
   (body:=λj x v k=>bif inb j b.length then(bif !same x (b.getD j.toNat ((0:Int),((0:Int),(0:Int))))then some ((),(false,()))else k v)else none) (K:=λ_ v=>some ((),(true,())))
   (λn i v hi=>by simp only[Zd6,WG hi,Wu hi,Ww hi,Wm (show i<4611686018427387904 by omega),Wa,Wtx hN,ret,Xd])
   (λn v=>by simp only[Zd6,WP (Xl a.length),Wc]) ()
  refine h1.trans ?_;rw[WbQ (E:=λ_=>some ((),(false,()))) (z:=((0:Int),((0:Int),(0:Int)))) a b 0 () (by omega) (λj x v k _=>rfl)];simp only[Xal];cases same a b<;>rfl
 .have e:(Wh a !=Wh b)=true:=by simp[Wh];omega
  have e2:a≠b:=λh=>hl (by rw[h]);rw[e,Wdd e2];rfl
theorem Wpf{N:Nat}{a b:Kf×List Km×List Kb}(h:Wbg a<=1048576)(hN:1048576<N):Zos N a b=ret (same a b):=by
 unfold Wbg at h;unfold Zos;simp only[Wc0,WcY,Wc5,WpP (a:=a.1) (show WaV a.1<=1048576 by omega) hN,WqM (a:=a.2.1) (show WaE a.2.1<=1048576 by omega) hN,WrZ (a:=a.2.2) (show Wc9 a.2.2<=1048576 by omega) hN,ret,Xd];exact WbM (WbM (Wfo))
theorem WrQ{N:Nat}{a b:Int×Int×Int×Int}(hN:1048576<N):Zrz N a b=ret (same a b):=by
 unfold Zrz;simp only[Wc0,WcY,Wc5,ret,Xd];exact WbM (WbM (WbM (Wfo)))
def Wrt(l:List Ka):Nat:=l.length
theorem Wq4{N:Nat}{a b:List Ka}(h:Wrt a<=1048576)(hN:1048576<N):Zfu N a b=ret (same a b):=by
 have hl0:a.length<=1048576:=h;unfold Zfu;by_cases hl:a.length=b.length
 .have e:(Wh a !=Wh b)=false:=by simp[Wh,hl]
  rw[e];simp only[Wc];have h1:=Wy (l:=a) (V:=Unit) (R:=Unit×Kq) (lp:=λn j v=>Zc8 N a b (some ((),(false,()))) (λi8 t9=>some ((),(true,()))) n j) (n:=N) (by omega)
   (body:=λj x v k=>bif inb j b.length then(bif !same x (b.getD j.toNat ((0:Int),((0:Int),((0:Int),(0:Int)))))then some ((),(false,()))else k v)else none) (K:=λ_ v=>some ((),(true,())))
   (λn i v hi=>by simp only[Zc8,WG hi,Wu hi,Ww hi,Wm (show i<4611686018427387904 by omega),Wa,WrQ hN,ret,Xd])
   (λn v=>by simp only[Zc8,WP (Xl a.length),Wc]) ()
  refine h1.trans ?_;rw[WbQ (E:=λ_=>some ((),(false,()))) (z:=((0:Int),((0:Int),((0:Int),(0:Int))))) a b 0 () (by omega) (λj x v k _=>rfl)];simp only[Xal];cases same a b<;>rfl
 .have e:(Wh a !=Wh b)=true:=by simp[Wh];omega
  have e2:a≠b:=λh=>hl (by rw[h]);rw[e,Wdd e2];rfl
end
section
def mkL{α:Type}(mk:α->Int->α)(w:α->Int):List α->Int->List α
 | [],_=>[]
 |x::l,k=>mk x k::mkL mk w l (k+w x)
def wL{α:Type}(w:α->Int):List α->Int
 | []=>0
 |x::l=>w x+wL w l
theorem WsN{α:Type}{w:α->Int}(h:∀x,0<=w x):∀l:List α,0<=wL w l
 | []=>Int.le_refl _
 |x::l=>by rw[wL];have:=h x;have:=WsN h l;omega
theorem WfB{α:Type}(p:List α)(x:α)(l:List α)(d:α):List.getD (p++x::l) (Xa (p.length:Int)) d=x:=by simp
theorem Wgx{α:Type}(p:List α)(x y:α)(l:List α):List.set (p++x::l) (Xa (p.length:Int)) y=p++y::l:=by simp
theorem WfA{α:Type}(p:List α)(x:α)(l:List α):inb (p.length:Int) (p++x::l).length=true:=by unfold inb;simp;omega
theorem WhS{α:Type}(p:List α)(x:α)(l:List α):decide ((p.length:Int)<Wh (p++x::l))=true:=by unfold Wh;simp;omega
theorem WhA{α:Type}(l:List α):decide ((l.length:Int)<Wh l)=false:=Wk (by unfold Wh;omega)
theorem WnX{α R:Type}{mk:α->Int->α}{w:α->Int}{P:α->Prop}{lp:Nat->Int->Int->List α->Option R}{K0:Int->Int->Bool->List α->Option R}(hw:∀x,0<=w x)
  (dj:∀(n:Nat) (k:Int) (p:List α) (x:α) (l:List α),P x->0<=k->k+w x<=1000000000->(p.length:Int)+1<=2000000->lp (n+1) k (p.length:Int) (p++x::l)=lp n (k+w x) ((p.length:Int)+1) (p++mk x k::l))
  (jR:∀(n:Nat) (k:Int) (l:List α),lp (n+1) k (l.length:Int) l=K0 k (l.length:Int) false l):
  ∀(l p:List α) (n:Nat) (k:Int),(∀x∈l,P x)->l.length<n->p.length+l.length<=1500000->0<=k->k+wL w l<=1000000000->lp n k (p.length:Int) (p++l)=K0 (k+wL w l) ((p.length:Int)+l.length) false (p++mkL mk w l k)
 | [],p,n,k,_,hn,_,_,_=>by
  obtain⟨n,rfl⟩:∃n',n=n'+1:=⟨n-1,by omega⟩;rw[List.append_nil,jR];simp[wL,mkL]
 |x::l,p,n,k,hP,hn,hl,h0,h1=>by
  obtain⟨n,rfl⟩:∃n',n=n'+1:=⟨n-1,by omega⟩;simp only[Xq]at hn hl;rw[wL]at h1;have uw:=hw x;have jJ:=WsN hw l;rw[dj n k p x l (hP x (Xj ..)) h0 (by omega) (by omega)];have ih:=WnX hw dj jR l (p++ [mk x k]) n (k+w x) (λy hy=>hP y (Xf _ hy)) (by omega) (by simp;omega) (by omega) (by omega);simp only[Xw,Xq,Xbp,List.append_assoc,List.cons_append,List.nil_append]at ih
  push_cast at ih
  rw[ih,wL,mkL,Xq]
  push_cast
  rw[show k+w x+wL w l=k+(w x+wL w l) by omega,show(p.length:Int)+1+(l.length:Int)=(p.length:Int)+((l.length:Int)+1) by omega]
theorem Wuv{α R:Type}{mk:α->Int->α}{w:α->Int}{P:α->Prop}{a:List α}{lp:Nat->Int->Int->Option R}{K1:Int->Int->Bool->Option R}(hw:∀x,0<=w x)
  (dj:∀(n:Nat) (k:Int) (p:List α) (x:α) (l:List α),a=p++mk x k::l->P x->0<=k->k+w x<=1000000000->(p.length:Int)+1<=2000000->lp (n+1) k (p.length:Int)=lp n (k+w x) ((p.length:Int)+1))
  (jR:∀(n:Nat) (k:Int),lp (n+1) k (a.length:Int)=K1 k (a.length:Int) false):
  ∀(l p:List α) (n:Nat) (k:Int),a=p++mkL mk w l k->(∀x∈l,P x)->l.length<n->p.length+l.length<=1500000->0<=k->k+wL w l<=1000000000->lp n k (p.length:Int)=K1 (k+wL w l) (a.length:Int) false
 | [],p,n,k,ha,_,hn,_,_,_=>by
  obtain⟨n,rfl⟩:∃n',n=n'+1:=⟨n-1,by omega⟩;have e:p=a:=by rw[ha];simp[mkL]
  rw[e,jR];simp[wL]
 |x::l,p,n,k,ha,hP,hn,hl,h0,h1=>by
  obtain⟨n,rfl⟩:∃n',n=n'+1:=⟨n-1,by omega⟩;simp only[Xq]at hn hl;rw[wL]at h1;have uw:=hw x;have jJ:=WsN hw l;rw[mkL]at ha;rw[dj n k p x _ ha (hP x (Xj ..)) h0 (by omega) (by omega)];have ih:=Wuv hw dj jR l (p++ [mk x k]) n (k+w x) (by rw[ha];simp) (λy hy=>hP y (Xf _ hy)) (by omega) (by simp;omega) (by omega) (by omega);simp only[Xw,Xq,Xbp]at ih
  push_cast at ih
  rw[ih,wL,show k+w x+wL w l=k+(w x+wL w l) by omega]
theorem ia1{a:Int}(h:0<=a)(h':a<=1000000100):Wj .i64 a 1=a+1:=WI (by unfold I64;omega)
theorem Wqe(x:Int):(x !=x)=false:=by simp
theorem lt0{a:Int}(h:0<=a):decide (a<0)=false:=Wk (by omega)
def Wt8{α:Type}(mk:α->Int->α)(w:α->Int)(P:α->Prop)(T:Nat->List α->Int->Option ((List α×Unit)×Kh)):Prop:=
 ∀{N:Nat} {l:List α} {k:Int},1600000<N->l.length<=1500000->(∀x∈l,P x)->0<=k->k+wL w l<=1000000000->T N l k=some ((mkL mk w l k,()),(k+wL w l,()))
def Wu6{α:Type}(mk:α->Int->α)(w:α->Int)(P:α->Prop)(T:Nat->List α->Int->Option Ku):Prop:=
 ∀{N:Nat} {l:List α} {k:Int},1600000<N->l.length<=1500000->(∀x∈l,P x)->0<=k->k+wL w l<=1000000000->T N (mkL mk w l k) k=ret (k+wL w l)
def mkI(_:Int)(k:Int):Int:=k
def wI(_:Int):Int:=1
theorem Wu8(x:Int):0<=wI x:=by unfold wI;omega
theorem Wml{P:Int->Prop}:Wt8 mkI wI P Zf9:=by
 intro N l k hN hl hP h0 h1;unfold Zf9;have h:=WnX (mk:=mkI) (w:=wI) (P:=λ_=>True) (lp:=λn k i l=>Zcn N (λk10 bZ aB aY=>(some ((aY,()),(k10,())))) n k i l) (K0:=λk10 bZ aB aY=>(some ((aY,()),(k10,())))) Wu8
  (λn k p x l _ h0 h1 h2=>by
   unfold wI at h1;simp(disch:=omega) only[Zcn,Ws,WhS,WfA,Wgx,WfB,Wa,ia1,wI,mkI]
   try rw[show k+1=k+1 by omega])
  (λn k l=>by simp only[Zcn,WhA,Wc]) l [] N k (λ_ _=>trivial) (by omega) (by simpa using hl) h0 h1
 simpa using h
def Wp7(_:Ka)(k:Int):Ka:=(k,k+1,k+1+1,k+1+1+1)
def wOp(_:Ka):Int:=4
theorem Wpj(x:Ka):0<=wOp x:=by unfold wOp;omega
theorem WjP{P:Ka->Prop}:Wt8 Wp7 wOp P Zg6:=by
 intro N l k hN hl hP h0 h1;unfold Zg6;have h:=WnX (mk:=Wp7) (w:=wOp) (P:=λ_=>True) (lp:=λn k i l=>Zcv N (λk10 bZ aB aY=>(some ((aY,()),(k10,())))) n k i l) (K0:=λk10 bZ aB aY=>(some ((aY,()),(k10,())))) Wpj
  (λn k p x l _ h0 h1 h2=>by
   unfold wOp at h1;simp(disch:=omega) only[Zcv,Ws,WhS,WfA,Wgx,WfB,Wa,ia1,wOp,Wp7]
   try rw[show k+4=k+1+1+1+1 by omega])
  (λn k l=>by simp only[Zcv,WhA,Wc]) l [] N k (λ_ _=>trivial) (by omega) (by simpa using hl) h0 h1
 simpa using h
def WuR(_:Kb)(k:Int):Kb:=(k,k+1,k+1+1)
def wWd(_:Kb):Int:=3
theorem Wu1(x:Kb):0<=wWd x:=by unfold wWd;omega
def Sm{α:Type}(l:List α):Prop:=l.length<=1500000
def WuM(x:List Ka)(k:Int):List Ka:=mkL Wp7 wOp x k
def wKd(x:List Ka):Int:=wL wOp x
theorem WtO(x:List Ka):0<=wKd x:=WsN Wpj x
theorem WpE:Wt8 WuM wKd Sm Zhz:=by
 intro N l k hN hl hP h0 h1;unfold Zhz;have h:=WnX (mk:=WuM) (w:=wKd) (P:=Sm) (lp:=λn k i l=>Zco N (λk10 bZ aB aY=>(some ((aY,()),(k10,())))) n k i l) (K0:=λk10 bZ aB aY=>(some ((aY,()),(k10,())))) WtO
  (λn k p x l hx h0 h1 h2=>by
   simp only[Zco,Ws,WhS,WfA,Wgx,WfB,Wa];rw[WjP (P:=λ_=>True) hN hx (λ_ _=>trivial) h0 h1];simp(disch:=omega) only[Xd,ia1];rfl)
  (λn k l=>by simp only[Zco,WhA,Wc]) l [] N k hP (by omega) (by simpa using hl) h0 h1
 simpa using h
theorem nbq(i:Nat):Nat.beq i i=true:=Nat.beq_refl i
end
section
theorem Wpd{P:Ka->Prop}:Wt8 Wp7 wOp P Zhd:=by
 intro N l k hN hl hP h0 h1;unfold Zhd;have h:=WnX (mk:=Wp7) (w:=wOp) (P:=λ_=>True) (lp:=λn k i l=>Zca N (λk10 bZ aB aY=>(some ((aY,()),(k10,())))) n k i l) (K0:=λk10 bZ aB aY=>(some ((aY,()),(k10,())))) Wpj
  (λn k p x l _ h0 h1 h2=>by
   unfold wOp at h1;simp(disch:=omega) only[Zca,Ws,WhS,WfA,Wgx,WfB,Wa,ia1,wOp,Wp7]
   try rw[show k+4=k+1+1+1+1 by omega])
  (λn k l=>by simp only[Zca,WhA,Wc]) l [] N k (λ_ _=>trivial) (by omega) (by simpa using hl) h0 h1
 simpa using h
theorem Wpp{P:Ka->Prop}:Wu6 Wp7 wOp P Zfb:=by
 intro N l k hN hl hP h0 h1;unfold Zfb;generalize ea:mkL Wp7 wOp l k=a;have h:=Wuv (mk:=Wp7) (w:=wOp) (P:=λ_=>True) (a:=a) (lp:=λn k i=>Zcb N a (some ((),((-1:Int),()))) (λk9 bo aw=>(some ((),(k9,())))) n k i) (K1:=λk9 bo aw=>(some ((),(k9,())))) Wpj
  (λn k p x l' ha _ h0 h1 h2=>by
   unfold wOp at h1;rw[ha];simp only[Zcb,WhS,WfA,WfB,Wa];simp(disch:=omega) only[Wp7,Wa,ia1,Wqe,Wc,wOp]
   try rw[show k+4=k+1+1+1+1 by omega])
  (λn k=>by simp only[Zcb,WhA,Wc]) l [] N k (by rw[←ea];rfl) (λ_ _=>trivial) (by omega) (by simpa using hl) h0 h1
 exact h
theorem Wpk{P:Kb->Prop}:Wt8 WuR wWd P Zh3:=by
 intro N l k hN hl hP h0 h1;unfold Zh3;have h:=WnX (mk:=WuR) (w:=wWd) (P:=λ_=>True) (lp:=λn k i l=>Zcp N (λk10 bZ aB aY=>(some ((aY,()),(k10,())))) n k i l) (K0:=λk10 bZ aB aY=>(some ((aY,()),(k10,())))) Wu1
  (λn k p x l _ h0 h1 h2=>by
   unfold wWd at h1;simp(disch:=omega) only[Zcp,Ws,WhS,WfA,Wgx,WfB,Wa,ia1,wWd,WuR]
   try rw[show k+3=k+1+1+1 by omega])
  (λn k l=>by simp only[Zcp,WhA,Wc]) l [] N k (λ_ _=>trivial) (by omega) (by simpa using hl) h0 h1
 simpa using h
abbrev PgT:=List Ka×List Kaa
def Wu5(x:PgT)(k:Int):PgT:=(mkL Wp7 wOp x.1 k,mkL WuM wKd x.2 (k+wL wOp x.1))
def wPg(x:PgT):Int:=wL wOp x.1+wL wKd x.2
theorem Wuy(x:PgT):0<=wPg x:=by
 have:=WsN Wpj x.1;have:=WsN WtO x.2;unfold wPg;omega
def WuL(x:PgT):Prop:=Sm x.1/\Sm x.2/\∀y∈x.2,Sm y
theorem Wpz:Wt8 Wu5 wPg WuL Zhc:=by
 intro N l k hN hl hP h0 h1;unfold Zhc;have h:=WnX (mk:=Wu5) (w:=wPg) (P:=WuL) (lp:=λn k i l=>Zb9 N (λk10 bZ aB aY=>(some ((aY,()),(k10,())))) n k i l) (K0:=λk10 bZ aB aY=>(some ((aY,()),(k10,())))) Wuy
  (λn k p x l hx h0 h1 h2=>by
   have hw:=WsN Wpj x.1;have ua:=WsN WtO x.2;unfold wPg at h1;simp(disch:=omega) only[Zb9,Ws,WhS,WfA,Wgx,WfB,Wa,nbq,Bool.and_true,ia1];rw[WjP (P:=λ_=>True) hN hx.1 (λ_ _=>trivial) h0 (by omega),Xd,WpE hN hx.2.1 hx.2.2 (by dsimp only;omega) (by dsimp only;omega)];simp only[Xd,wPg];rw[show k+wL wOp x.1+wL wKd x.2=k+(wL wOp x.1+wL wKd x.2) by omega];rfl)
  (λn k l=>by simp only[Zb9,WhA,Wc]) l [] N k hP (by omega) (by simpa using hl) h0 h1
 simpa using h
theorem WtM:∀l:List Int,wL wI l=l.length
 | []=>rfl
 |x::l=>by rw[wL,WtM l,Xq];unfold wI;omega
theorem Woj:∀l:List Ka,wL wOp l=4*l.length
 | []=>rfl
 |x::l=>by rw[wL,Woj l,Xq];unfold wOp;omega
theorem Wta:∀l:List Kb,wL wWd l=3*l.length
 | []=>rfl
 |x::l=>by rw[wL,Wta l,Xq];unfold wWd;omega
theorem Ws8:∀l:List Kaa,wL wKd l<=4*Wbd l
 | []=>by simp[wL,Wbd]
 |x::l=>by
  have:=Ws8 l;rw[wL];unfold Wbd at*;simp only[Xq,Xaf,Xcx];have hx:WeY x=x.length:=rfl;have hy:wKd x=4*x.length:=Woj x;omega
theorem Wtm:∀l:List PgT,wL wPg l<=4*WaE l
 | []=>by simp[wL,WaE]
 |x::l=>by
  have:=Wtm l;have h1:=Ws8 x.2;rw[wL];unfold WaE at*;simp only[Xq,Xaf,Xcx];have hy:wPg x=4*x.1.length+wL wKd x.2:=by unfold wPg;rw[Woj]
  have hx:Wcp x=x.1.length+Wbd x.2:=rfl;omega
theorem Wi4{N:Nat}{s:Kf×List PgT×List Kb}(hN:1600000<N)(h:Wbg s<=1048576):∃s' k,Zlk N s 1=some ((s',()),(k,()))/\0<=k:=by
 unfold Wbg WaV WbJ Wc9 at h;have c1:=WtM s.1.1;have c2:=WtM s.1.2.1;have c3:=Wtm s.2.1;have d3:=WsN Wuy s.2.1;have c4:=Wta s.2.2;have l3:s.2.1.length<=WaE s.2.1:=Wdy;have s3:∀x∈s.2.1,WuL x:=λx hx=>by
  have hm:=WdC hx;unfold Wcp WdG at hm;have lk:x.2.length<=Wbd x.2:=WeP;refine⟨by show x.1.length<=1500000;omega,by show x.2.length<=1500000;omega,λy hy=>?_⟩;have:=WeI hy;unfold WeY WdG at this;show y.length<=1500000;omega
 unfold Zlk Zq2;rw[Wml (P:=λ_=>True) hN (by omega) (λ_ _=>trivial) (by omega) (by omega),Xd,
   Wml (P:=λ_=>True) hN (by omega) (λ_ _=>trivial) (by dsimp only;omega) (by dsimp only;omega),Xd,Xd,
   Wpz hN (by omega) s3 (by dsimp only;omega) (by dsimp only;omega),Xd,
   Wpk (P:=λ_=>True) hN (by omega) (λ_ _=>trivial) (by dsimp only;omega) (by dsimp only;omega),Xd]
 refine⟨_,_,rfl,?_⟩;dsimp only;omega
end
section
variable{N:Nat}{s:Sc}{w:Wo}
theorem Wlp:∀(l:List Ac) (i:Nat) (w:Wo),(WfK s l i w).length<=l.length
 | [],_,_=>by simp[WfK]
 |a::l,i,w=>by
  have:=Wlp l (i+1) (Wb8 s w a);have:=WgE (s:=s) (w:=w) (a:=a) i;rw[WfK,Xw,Xq];omega
theorem Wm6(hN:1600000<N)(hw:Wfd (.prod (.prod (.slice (.int .i64)) (.prod (.slice (.int .i64)) (.int .i64))) (.prod (.slice (.prod (.slice (.prod (.int .i64) (.prod (.int .i64) (.prod (.int .i64) (.int .i64))))) (.slice (.slice (.prod (.int .i64) (.prod (.int .i64) (.prod (.int .i64) (.int .i64)))))))) (.slice (.prod (.int .i64) (.prod (.int .i64) (.int .i64)))))) s):Zfv N s=some ((),(true,())):=by
 unfold Zfv;have hN':1048576<N:=by omega
 rw[WpQ hN' (by omega) (by omega) hw];simp only[ret,Xd];by_cases hz:(1048576:Int)<(Wbg s:Int)
 .rw[Wf hz];rfl
 .rw[Wb hz,lt0 (by omega),Wc];have lg:Wbg s<=1048576:=by omega
  have hb:SB s:=by
   unfold Wbg WaV WbJ Wc9 at lg;have l4:s.2.1.length<=WaE s.2.1:=Wdy;refine⟨by omega,by omega,by omega,λp hp=>?_,by omega⟩;have h1:=WdC hp;unfold Wcp WdG at h1;have h2:p.2.length<=Wbd p.2:=WeP;refine⟨by omega,by omega,λc hc=>?_⟩;have h3:=WeI hc;unfold WeY WdG at h3;omega
  have fV:=WnB hb hN';have sf:=WnE hb hN';obtain⟨s',k,hm,ux⟩:=Wi4 hN lg;generalize hg:(if WmT s=true then WfK s s.2.2 0 (WlW s)else [])=g at fV sf;have uy:g.length<=1048576:=by
   rw[←hg];split
   .have:=Wlp (s:=s) s.2.2 0 (WlW s);have:=hb.acts;omega
   .simp
  have hgw:=Woj g;have uz:Wrt g<=1048576:=uy;rw[Wp4 lg hN'];simp only[ret,Xd,fV,sf];rw[Wq4 uz hN',Wpf lg hN'];simp only[ret,Xd,Wdl,Bool.not_true,Wc];rw[hm];simp only[Xd,lt0 ux,Wc];rw[Wpd (P:=λ_=>True) hN (by omega) (λ_ _=>trivial) (by omega) (by omega)];simp only[Xd];rw[Wpp (P:=λ_=>True) hN (by omega) (λ_ _=>trivial) (by omega) (by omega)];simp only[ret,Xd];rw[lt0 (by omega),Wc,Wqe];rfl
theorem law_FnExactTraceOf(d:We9 [.v (.prod (.prod (.slice (.int .i64)) (.prod (.slice (.int .i64)) (.int .i64))) (.prod (.slice (.prod (.slice (.prod (.int .i64) (.prod (.int .i64) (.prod (.int .i64) (.int .i64))))) (.slice (.slice (.prod (.int .i64) (.prod (.int .i64) (.prod (.int .i64) (.int .i64)))))))) (.slice (.prod (.int .i64) (.prod (.int .i64) (.int .i64)))))) false])(hw:WoW [.v (.prod (.prod (.slice (.int .i64)) (.prod (.slice (.int .i64)) (.int .i64))) (.prod (.slice (.prod (.slice (.prod (.int .i64) (.prod (.int .i64) (.prod (.int .i64) (.int .i64))))) (.slice (.slice (.prod (.int .i64) (.prod (.int .i64) (.prod (.int .i64) (.int .i64)))))))) (.slice (.prod (.int .i64) (.prod (.int .i64) (.int .i64)))))) false] d):∃N o,Zfv N d.1=some (o,(true,())):=
 ⟨1600001,(),Wm6 (N:=1600001) (by omega) hw.1⟩
end
end Go.Sx
