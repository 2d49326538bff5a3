/- Plain laws of the Lean functions. -/
import Derived.Test.YtaohbbihecfgcaaGreatMW3
open Nat renaming le_trans→Xbe,le_refl→Xl
open List renaming getElem_mem→Xab,replicate→Xp,drop_zero→Xak,length_cons→Xq,mem_cons_self→Xj,mem_cons_of_mem→Xf,length_append→Xw,length_nil→Xbq,map_cons→Xaf,sum_cons→Xcw
open Option renaming bind_some→Xd
open Int renaming toNat→Xa
namespace Go.Sx
set_option linter.unusedVariables false
set_option linter.unusedSimpArgs false
section
set_option synthInstance.maxSize 20000
set_option synthInstance.maxHeartbeats 4000000
def WbI(l:List Int):Nat:=l.length
theorem Woy{N:Nat}{a:List Int}{left:Int}(hN:1048576<N)(h0:0<=left)(h1:left<=1048576)(hw:Wfd (.slice (.int .i64)) a):
  Zn1 N a left=ret (if left<(WbI a:Int)then-1 else left-(WbI a:Int)):=by
 have hl:a.length<=9223372036854775807:=Xbe hw.1 (by decide);unfold Zn1 WbI;have e:WV .i64 left (Wh a)=left-(a.length:Int):=WQ (by unfold I64 Wh;omega);rw[e];by_cases h:left<(a.length:Int)
 .rw[Wf h,show decide (left-(a.length:Int)<0)=true by simp;omega];rfl
 .rw[Wb h,show decide (left-(a.length:Int)<0)=false by simp;omega];rfl
def WaW(a:List Int×List Int×Int):Nat:=WbI a.1+WbI a.2.1
theorem WpG{N:Nat}{a:List Int×List Int×Int}{left:Int}(hN:1048576<N)(h0:0<=left)(h1:left<=1048576)(hw:Wfd (.prod (.slice (.int .i64)) (.prod (.slice (.int .i64)) (.int .i64))) a):
  Zon N a left=ret (if left<(WaW a:Int)then-1 else left-(WaW a:Int)):=by
 unfold Zon;unfold WaW;rw[show(WbI a.1+WbI a.2.1)=WbI a.1+(WbI a.2.1+(0)) by omega];rw[Woy hN (by omega) (by omega) hw.1];refine Wel (z2:=WbI a.2.1+(0)) (by omega) λh2=>?_;simp only[];rw[Woy hN (by omega) (by omega) hw.2.1];refine Wel (z2:=0) (by omega) λh3=>?_;simp only[];exact Wj9 (by omega)
def WdI(l:List Ka):Nat:=l.length
theorem WqO{N:Nat}{a:List Ka}{left:Int}(hN:1048576<N)(h0:0<=left)(h1:left<=1048576)(hw:Wfd (.slice (.prod (.int .i64) (.prod (.int .i64) (.prod (.int .i64) (.int .i64))))) a):
  Zpo N a left=ret (if left<(WdI a:Int)then-1 else left-(WdI a:Int)):=by
 have hl:a.length<=9223372036854775807:=Xbe hw.1 (by decide);unfold Zpo WdI;have e:WV .i64 left (Wh a)=left-(a.length:Int):=WQ (by unfold I64 Wh;omega);rw[e];by_cases h:left<(a.length:Int)
 .rw[Wf h,show decide (left-(a.length:Int)<0)=true by simp;omega];rfl
 .rw[Wb h,show decide (left-(a.length:Int)<0)=false by simp;omega];rfl
def WeW(a:List Ka):Nat:=WdI a
theorem Wt4{N:Nat}{a:List Ka}{left:Int}(hN:1048576<N)(h0:0<=left)(h1:left<=1048576)(hw:Wfd (.slice (.prod (.int .i64) (.prod (.int .i64) (.prod (.int .i64) (.int .i64))))) a):
  Zth N a left=ret (if left<(WeW a:Int)then-1 else left-(WeW a:Int)):=by
 unfold Zth;unfold WeW;rw[show(WdI a)=WdI a+(0) by omega];rw[WqO hN (by omega) (by omega) hw];refine Wel (z2:=0) (by omega) λh2=>?_;simp only[];exact Wj9 (by omega)
def Wba(l:List Kaa):Nat:=l.length+(l.map WeW).sum
theorem WeJ{l:List Kaa}{x:List Ka}(h:x∈l):WeW x<=Wba l:=by
 have:=WgD WeW h;unfold Wba;omega
theorem WeB{l:List Kaa}:l.length<=Wba l:=by unfold Wba;omega
theorem Wr0{N:Nat}{a:List Kaa}{left:Int}(hN:1048576<N)(h0:0<=left)(h1:left<=1048576)(hw:Wfd (.slice (.slice (.prod (.int .i64) (.prod (.int .i64) (.prod (.int .i64) (.int .i64)))))) a):
  Zj2 N a left=ret (if left<(Wba a:Int)then-1 else left-(Wba a:Int)):=by
 have hl:a.length<=9223372036854775807:=Xbe hw.1 (by decide);unfold Zj2 Wba;have e:WV .i64 left (Wh a)=left-(a.length:Int):=WQ (by unfold I64 Wh;omega);rw[e];by_cases h:left<(a.length:Int)
 .rw[Wf (by omega),show decide (left-(a.length:Int)<0)=true by simp;omega];rfl
 .rw[show decide (left-(a.length:Int)<0)=false by simp;omega];simp only[Wc];refine Won (z:=WeW) (lp:=λn left i=>Zdr N a _ _ n left i) ?_ ?_ (by omega) (by omega) h1
  .intro n left j hj h0 h1;simp only[Zdr,WF hj,Wu hj,Ww hj,Wm (show j<4611686018427387904 by omega),Wa,Wt4 hN h0 h1 (hw.2 _ (Xab hj)),ret,Xd];by_cases h2:left<(WeW a[j]:Int)
   .rw[Wf h2,Wf h2];rfl
   .rw[Wb h2,Wb h2,show decide (left-(WeW a[j]:Int)<0)=false by simp;omega];rfl
  .intro n left;simp only[Zdr,WO (Xl a.length),Wc]
def Wcp(a:List Ka×List Kaa):Nat:=WdI a.1+Wba a.2
theorem WsL{N:Nat}{a:List Ka×List Kaa}{left:Int}(hN:1048576<N)(h0:0<=left)(h1:left<=1048576)(hw:Wfd (.prod (.slice (.prod (.int .i64) (.prod (.int .i64) (.prod (.int .i64) (.int .i64))))) (.slice (.slice (.prod (.int .i64) (.prod (.int .i64) (.prod (.int .i64) (.int .i64))))))) a):
  Zrs N a left=ret (if left<(Wcp a:Int)then-1 else left-(Wcp a:Int)):=by
 unfold Zrs;unfold Wcp;rw[show(WdI a.1+Wba a.2)=WdI a.1+(Wba a.2+(0)) by omega];rw[WqO hN (by omega) (by omega) hw.1];refine Wel (z2:=Wba a.2+(0)) (by omega) λh2=>?_;simp only[];rw[Wr0 hN (by omega) (by omega) hw.2];refine Wel (z2:=0) (by omega) λh3=>?_;simp only[];exact Wj9 (by omega)
def WaG(l:List Km):Nat:=l.length+(l.map Wcp).sum
theorem WdE{l:List Km}{x:List Ka×List Kaa}(h:x∈l):Wcp x<=WaG l:=by
 have:=WgD Wcp h;unfold WaG;omega
theorem WdU{l:List Km}:l.length<=WaG l:=by unfold WaG;omega
theorem Wq8{N:Nat}{a:List Km}{left:Int}(hN:1048576<N)(h0:0<=left)(h1:left<=1048576)(hw:Wfd (.slice (.prod (.slice (.prod (.int .i64) (.prod (.int .i64) (.prod (.int .i64) (.int .i64))))) (.slice (.slice (.prod (.int .i64) (.prod (.int .i64) (.prod (.int .i64) (.int .i64)))))))) a):
  Zix N a left=ret (if left<(WaG a:Int)then-1 else left-(WaG a:Int)):=by
 have hl:a.length<=9223372036854775807:=Xbe hw.1 (by decide);unfold Zix WaG;have e:WV .i64 left (Wh a)=left-(a.length:Int):=WQ (by unfold I64 Wh;omega);rw[e];by_cases h:left<(a.length:Int)
 .rw[Wf (by omega),show decide (left-(a.length:Int)<0)=true by simp;omega];rfl
 .rw[show decide (left-(a.length:Int)<0)=false by simp;omega];simp only[Wc];refine Won (z:=Wcp) (lp:=λn left i=>Zc0 N a _ _ n left i) ?_ ?_ (by omega) (by omega) h1
  .intro n left j hj h0 h1;simp only[Zc0,WF hj,Wu hj,Ww hj,Wm (show j<4611686018427387904 by omega),Wa,WsL hN h0 h1 (hw.2 _ (Xab hj)),ret,Xd];by_cases h2:left<(Wcp a[j]:Int)
   .rw[Wf h2,Wf h2];rfl
   .rw[Wb h2,Wb h2,show decide (left-(Wcp a[j]:Int)<0)=false by simp;omega];rfl
  .intro n left;simp only[Zc0,WO (Xl a.length),Wc]
def Wc1(l:List Kb):Nat:=l.length
theorem Wsi{N:Nat}{a:List Kb}{left:Int}(hN:1048576<N)(h0:0<=left)(h1:left<=1048576)(hw:Wfd (.slice (.prod (.int .i64) (.prod (.int .i64) (.int .i64)))) a):
  Zrt N a left=ret (if left<(Wc1 a:Int)then-1 else left-(Wc1 a:Int)):=by
 have hl:a.length<=9223372036854775807:=Xbe hw.1 (by decide);unfold Zrt Wc1;have e:WV .i64 left (Wh a)=left-(a.length:Int):=WQ (by unfold I64 Wh;omega);rw[e];by_cases h:left<(a.length:Int)
 .rw[Wf h,show decide (left-(a.length:Int)<0)=true by simp;omega];rfl
 .rw[Wb h,show decide (left-(a.length:Int)<0)=false by simp;omega];rfl
def Wbg(a:Kf×List Km×List Kb):Nat:=WaW a.1+WaG a.2.1+Wc1 a.2.2
theorem WpN{N:Nat}{a:Kf×List Km×List Kb}{left:Int}(hN:1048576<N)(h0:0<=left)(h1:left<=1048576)(hw:Wfd (.prod (.prod (.slice (.int .i64)) (.prod (.slice (.int .i64)) (.int .i64))) (.prod (.slice (.prod (.slice (.prod (.int .i64) (.prod (.int .i64) (.prod (.int .i64) (.int .i64))))) (.slice (.slice (.prod (.int .i64) (.prod (.int .i64) (.prod (.int .i64) (.int .i64)))))))) (.slice (.prod (.int .i64) (.prod (.int .i64) (.int .i64)))))) a):
  Zoo N a left=ret (if left<(Wbg a:Int)then-1 else left-(Wbg a:Int)):=by
 unfold Zoo;unfold Wbg;rw[show(WaW a.1+WaG a.2.1+Wc1 a.2.2)=WaW a.1+(WaG a.2.1+(Wc1 a.2.2+(0))) by omega];rw[WpG hN (by omega) (by omega) hw.1];refine Wel (z2:=WaG a.2.1+(Wc1 a.2.2+(0))) (by omega) λh2=>?_;simp only[];rw[Wq8 hN (by omega) (by omega) hw.2.1];refine Wel (z2:=Wc1 a.2.2+(0)) (by omega) λh3=>?_;simp only[];rw[Wsi hN (by omega) (by omega) hw.2.2];refine Wel (z2:=0) (by omega) λh4=>?_;simp only[];exact Wj9 (by omega)
theorem WoD{N:Nat}{a:List Int}(h:WbI a<=1048576)(hN:1048576<N):Zh8 N a=ret a:=by
 have hl:a.length<=1048576:=h;unfold Zh8;rw[WgK a (by omega),Wcw];simp only[Wa];have h1:=Wy (l:=a) (V:=List Int) (R:=Unit×(List Int×Unit)) (lp:=λn j v=>Zds N a (λi8 t9 cP=>some ((),(cP,()))) n j v) (n:=N) (by omega)
  (body:=λj x v k=>bif inb j v.length then k (v.set j.toNat x)else none) (K:=λ_ v=>some ((),(v,())))
  (λn i v hi=>by simp only[Zds,WF hi,Wu hi,Ww hi,Wm (show i<4611686018427387904 by omega),Wa,ret,Xd])
  (λn v=>by simp only[Zds,WO (Xl a.length),Wc]) (Xp a.length (0:Int))
 refine h1.trans ?_;rw[Wdt (f:=id) a (λj x v k _=>rfl)];simp
theorem Wpr{N:Nat}{a:List Int×List Int×Int}(h:WaW a<=1048576)(hN:1048576<N):Zop N a=ret a:=by
 unfold WaW at h;unfold Zop;simp only[WoD (a:=a.1) (show WbI a.1<=1048576 by omega) hN,WoD (a:=a.2.1) (show WbI a.2.1<=1048576 by omega) hN,ret,Xd]
 all_goals rfl
theorem WuC{N:Nat}{a:Int×Int×Int×Int}(hN:1048576<N):Zvc N a=ret a:=by
 unfold Zvc
 all_goals rfl
theorem WrA{N:Nat}{a:List Ka}(h:WdI a<=1048576)(hN:1048576<N):Zi9 N a=ret a:=by
 have hl:a.length<=1048576:=h;unfold Zi9;rw[WgK a (by omega),Wcw];simp only[Wa];have h1:=Wy (l:=a) (V:=List Ka) (R:=Unit×(List Ka×Unit)) (lp:=λn j v=>Zex N a (λi8 t9 cP=>some ((),(cP,()))) n j v) (n:=N) (by omega)
  (body:=λj x v k=>bif inb j v.length then k (v.set j.toNat x)else none) (K:=λ_ v=>some ((),(v,())))
  (λn i v hi=>by simp only[Zex,WF hi,Wu hi,Ww hi,Wm (show i<4611686018427387904 by omega),Wa,WuC hN,ret,Xd])
  (λn v=>by simp only[Zex,WO (Xl a.length),Wc]) (Xp a.length ((0:Int),((0:Int),((0:Int),(0:Int)))))
 refine h1.trans ?_;rw[Wdt (f:=id) a (λj x v k _=>rfl)];simp
theorem Wtp{N:Nat}{a:List Ka}(h:WeW a<=1048576)(hN:1048576<N):Zti N a=ret a:=by
 unfold WeW at h;unfold Zti;simp only[WrA (a:=a) (show WdI a<=1048576 by omega) hN,ret,Xd]
 all_goals rfl
theorem WrT{N:Nat}{a:List Kaa}(h:Wba a<=1048576)(hN:1048576<N):Zj3 N a=ret a:=by
 have hl:a.length<=1048576:=Xbe WeB h;unfold Zj3;rw[WgK a (by omega),Wcw];simp only[Wa];have h1:=Wy (l:=a) (V:=List Kaa) (R:=Unit×(List Kaa×Unit)) (lp:=λn j v=>Zdt N a (λi8 t9 cP=>some ((),(cP,()))) n j v) (n:=N) (by omega)
  (body:=λj x v k=>bif inb j v.length then k (v.set j.toNat x)else none) (K:=λ_ v=>some ((),(v,())))
  (λn i v hi=>by simp only[Zdt,WF hi,Wu hi,Ww hi,Wm (show i<4611686018427387904 by omega),Wa,Wtp (Xbe (WeJ (Xab hi)) h) hN,ret,Xd])
  (λn v=>by simp only[Zdt,WO (Xl a.length),Wc]) (Xp a.length ([]:List Ka))
 refine h1.trans ?_;rw[Wdt (f:=id) a (λj x v k _=>rfl)];simp
theorem WrS{N:Nat}{a:List Ka×List Kaa}(h:Wcp a<=1048576)(hN:1048576<N):Zru N a=ret a:=by
 unfold Wcp at h;unfold Zru;simp only[WrA (a:=a.1) (show WdI a.1<=1048576 by omega) hN,WrT (a:=a.2) (show Wba a.2<=1048576 by omega) hN,ret,Xd]
 all_goals rfl
theorem Wqf{N:Nat}{a:List Km}(h:WaG a<=1048576)(hN:1048576<N):Ziy N a=ret a:=by
 have hl:a.length<=1048576:=Xbe WdU h;unfold Ziy;rw[WgK a (by omega),Wcw];simp only[Wa];have h1:=Wy (l:=a) (V:=List Km) (R:=Unit×(List Km×Unit)) (lp:=λn j v=>Zc1 N a (λi8 t9 cP=>some ((),(cP,()))) n j v) (n:=N) (by omega)
  (body:=λj x v k=>bif inb j v.length then k (v.set j.toNat x)else none) (K:=λ_ v=>some ((),(v,())))
  (λn i v hi=>by simp only[Zc1,WF hi,Wu hi,Ww hi,Wm (show i<4611686018427387904 by omega),Wa,WrS (Xbe (WdE (Xab hi)) h) hN,ret,Xd])
  (λn v=>by simp only[Zc1,WO (Xl a.length),Wc]) (Xp a.length (([]:List Ka),([]:List Kaa)))
 refine h1.trans ?_;rw[Wdt (f:=id) a (λj x v k _=>rfl)];simp
theorem Wtw{N:Nat}{a:Int×Int×Int}(hN:1048576<N):Ztl N a=ret a:=by
 unfold Ztl
 all_goals rfl
theorem Wsl{N:Nat}{a:List Kb}(h:Wc1 a<=1048576)(hN:1048576<N):Zkd N a=ret a:=by
 have hl:a.length<=1048576:=h;unfold Zkd;rw[WgK a (by omega),Wcw];simp only[Wa];have h1:=Wy (l:=a) (V:=List Kb) (R:=Unit×(List Kb×Unit)) (lp:=λn j v=>Zd5 N a (λi8 t9 cP=>some ((),(cP,()))) n j v) (n:=N) (by omega)
  (body:=λj x v k=>bif inb j v.length then k (v.set j.toNat x)else none) (K:=λ_ v=>some ((),(v,())))
  (λn i v hi=>by simp only[Zd5,WF hi,Wu hi,Ww hi,Wm (show i<4611686018427387904 by omega),Wa,Wtw hN,ret,Xd])
  (λn v=>by simp only[Zd5,WO (Xl a.length),Wc]) (Xp a.length ((0:Int),((0:Int),(0:Int))))
 refine h1.trans ?_;rw[Wdt (f:=id) a (λj x v k _=>rfl)];simp
theorem WpX{N:Nat}{a:Kf×List Km×List Kb}(h:Wbg a<=1048576)(hN:1048576<N):Zgc N a=ret a:=by
 unfold Wbg at h;unfold Zgc;simp only[Wpr (a:=a.1) (show WaW a.1<=1048576 by omega) hN,Wqf (a:=a.2.1) (show WaG a.2.1<=1048576 by omega) hN,Wsl (a:=a.2.2) (show Wc1 a.2.2<=1048576 by omega) hN,ret,Xd]
 all_goals rfl
theorem WoJ{N:Nat}{a b:List Int}(h:WbI a<=1048576)(hN:1048576<N):Zib N a b=ret (same a b):=by
 have hl0:a.length<=1048576:=h;unfold Zib;by_cases hl:a.length=b.length
 .have e:(Wh a !=Wh b)=false:=by simp[Wh,hl]
  rw[e];simp only[Wc];have h1:=Wy (l:=a) (V:=Unit) (R:=Unit×Kq) (lp:=λn j v=>Zd2 N a b (some ((),(false,()))) (λi8 t9=>some ((),(true,()))) n j) (n:=N) (by omega)
   (body:=λj x v k=>bif inb j b.length then(bif !same x (b.getD j.toNat (0:Int))then some ((),(false,()))else k v)else none) (K:=λ_ v=>some ((),(true,())))
   (λn i v hi=>by simp only[Zd2,WF hi,Wu hi,Ww hi,Wm (show i<4611686018427387904 by omega),Wa,WcQ,WcU,Wc9,ret,Xd])
   (λn v=>by simp only[Zd2,WO (Xl a.length),Wc]) ()
  refine h1.trans ?_;rw[WbK (E:=λ_=>some ((),(false,()))) (z:=(0:Int)) a b 0 () (by omega) (λj x v k _=>rfl)];simp only[Xak];cases same a b<;>rfl
 .have e:(Wh a !=Wh b)=true:=by simp[Wh];omega
  have e2:a≠b:=λh=>hl (by rw[h]);rw[e,Wdb e2];rfl
theorem Wpb{N:Nat}{a b:List Int×List Int×Int}(h:WaW a<=1048576)(hN:1048576<N):Zor N a b=ret (same a b):=by
 unfold WaW at h;unfold Zor;simp only[WcQ,WcU,Wc9,WoJ (a:=a.1) (show WbI a.1<=1048576 by omega) hN,WoJ (a:=a.2.1) (show WbI a.2.1<=1048576 by omega) hN,ret,Xd];exact WbU (WbU (Wfw))
theorem Wuz{N:Nat}{a b:Int×Int×Int×Int}(hN:1048576<N):Zvf N a b=ret (same a b):=by
 unfold Zvf;simp only[WcQ,WcU,Wc9,ret,Xd];exact WbU (WbU (WbU (Wfw)))
theorem Wrr{N:Nat}{a b:List Ka}(h:WdI a<=1048576)(hN:1048576<N):Zje N a b=ret (same a b):=by
 have hl0:a.length<=1048576:=h;unfold Zje;by_cases hl:a.length=b.length
 .have e:(Wh a !=Wh b)=false:=by simp[Wh,hl]
  rw[e];simp only[Wc];have h1:=Wy (l:=a) (V:=Unit) (R:=Unit×Kq) (lp:=λn j v=>Ze4 N a b (some ((),(false,()))) (λi8 t9=>some ((),(true,()))) n j) (n:=N) (by omega)
   (body:=λj x v k=>bif inb j b.length then(bif !same x (b.getD j.toNat ((0:Int),((0:Int),((0:Int),(0:Int)))))then some ((),(false,()))else k v)else none) (K:=λ_ v=>some ((),(true,())))
   (λn i v hi=>by simp only[Ze4,WF hi,Wu hi,Ww hi,Wm (show i<4611686018427387904 by omega),Wa,Wuz hN,ret,Xd])
   (λn v=>by simp only[Ze4,WO (Xl a.length),Wc]) ()
  refine h1.trans ?_;rw[WbK (E:=λ_=>some ((),(false,()))) (z:=((0:Int),((0:Int),((0:Int),(0:Int))))) a b 0 () (by omega) (λj x v k _=>rfl)];simp only[Xak];cases same a b<;>rfl
 .have e:(Wh a !=Wh b)=true:=by simp[Wh];omega
  have e2:a≠b:=λh=>hl (by rw[h]);rw[e,Wdb e2];rfl
theorem WtT{N:Nat}{a b:List Ka}(h:WeW a<=1048576)(hN:1048576<N):Ztj N a b=ret (same a b):=by
 unfold WeW at h;unfold Ztj;simp only[WcQ,WcU,Wc9,Wrr (a:=a) (show WdI a<=1048576 by omega) hN,ret,Xd];exact Wfw
theorem Wsd{N:Nat}{a b:List Kaa}(h:Wba a<=1048576)(hN:1048576<N):Zj8 N a b=ret (same a b):=by
 have hl0:a.length<=1048576:=Xbe WeB h;unfold Zj8;by_cases hl:a.length=b.length
 .have e:(Wh a !=Wh b)=false:=by simp[Wh,hl]
  rw[e];simp only[Wc];have h1:=Wy (l:=a) (V:=Unit) (R:=Unit×Kq) (lp:=λn j v=>Zd3 N a b (some ((),(false,()))) (λi8 t9=>some ((),(true,()))) n j) (n:=N) (by omega)
   (body:=λj x v k=>bif inb j b.length then(bif !same x (b.getD j.toNat ([]:List Ka))then some ((),(false,()))else k v)else none) (K:=λ_ v=>some ((),(true,())))
   (λn i v hi=>by simp only[Zd3,WF hi,Wu hi,Ww hi,Wm (show i<4611686018427387904 by omega),Wa,WtT (Xbe (WeJ (Xab hi)) h) hN,ret,Xd])
   (λn v=>by simp only[Zd3,WO (Xl a.length),Wc]) ()
  refine h1.trans ?_;rw[WbK (E:=λ_=>some ((),(false,()))) (z:=([]:List Ka)) a b 0 () (by omega) (λj x v k _=>rfl)];simp only[Xak];cases same a b<;>rfl
 .have e:(Wh a !=Wh b)=true:=by simp[Wh];omega
  have e2:a≠b:=λh=>hl (by rw[h]);rw[e,Wdb e2];rfl
theorem WsI{N:Nat}{a b:List Ka×List Kaa}(h:Wcp a<=1048576)(hN:1048576<N):Zr0 N a b=ret (same a b):=by
 unfold Wcp at h;unfold Zr0;simp only[WcQ,WcU,Wc9,Wrr (a:=a.1) (show WdI a.1<=1048576 by omega) hN,Wsd (a:=a.2) (show Wba a.2<=1048576 by omega) hN,ret,Xd];exact WbU (Wfw)
theorem Wrc{N:Nat}{a b:List Km}(h:WaG a<=1048576)(hN:1048576<N):Zi6 N a b=ret (same a b):=by
 have hl0:a.length<=1048576:=Xbe WdU h;unfold Zi6;by_cases hl:a.length=b.length
 .have e:(Wh a !=Wh b)=false:=by simp[Wh,hl]
  rw[e];simp only[Wc];have h1:=Wy (l:=a) (V:=Unit) (R:=Unit×Kq) (lp:=λn j v=>Zc9 N a b (some ((),(false,()))) (λi8 t9=>some ((),(true,()))) n j) (n:=N) (by omega)
   (body:=λj x v k=>bif inb j b.length then(bif !same x (b.getD j.toNat (([]:List Ka),([]:List Kaa)))then some ((),(false,()))else k v)else none) (K:=λ_ v=>some ((),(true,())))
   (λn i v hi=>by simp only[Zc9,WF hi,Wu hi,Ww hi,Wm (show i<4611686018427387904 by omega),Wa,WsI (Xbe (WdE (Xab hi)) h) hN,ret,Xd])
   (λn v=>by simp only[Zc9,WO (Xl a.length),Wc]) ()
  refine h1.trans ?_;rw[WbK (E:=λ_=>some ((),(false,()))) (z:=(([]:List Ka),([]:List Kaa))) a b 0 () (by omega) (λj x v k _=>rfl)];simp only[Xak];cases same a b<;>rfl
 .have e:(Wh a !=Wh b)=true:=by simp[Wh];omega
  have e2:a≠b:=λh=>hl (by rw[h]);rw[e,Wdb e2];rfl
theorem Wtu{N:Nat}{a b:Int×Int×Int}(hN:1048576<N):Ztm N a b=ret (same a b):=by
 unfold Ztm;simp only[WcQ,WcU,Wc9,ret,Xd];exact WbU (WbU (Wfw))
theorem WrZ{N:Nat}{a b:List Kb}(h:Wc1 a<=1048576)(hN:1048576<N):Zkf N a b=ret (same a b):=by
 have hl0:a.length<=1048576:=h;unfold Zkf;by_cases hl:a.length=b.length
 .have e:(Wh a !=Wh b)=false:=by simp[Wh,hl]
  rw[e];simp only[Wc];have h1:=Wy (l:=a) (V:=Unit) (R:=Unit×Kq) (lp:=λn j v=>Zd6 N a b (some ((),(false,()))) (λi8 t9=>some ((),(true,()))) n j) (n:=N) (by omega)
   (body:=λj x v k=>bif inb j b.length then(bif !same x (b.getD j.toNat ((0:Int),((0:Int),(0:Int))))then some ((),(false,()))else k v)else none) (K:=λ_ v=>some ((),(true,())))
   (λn i v hi=>by simp only[Zd6,WF hi,Wu hi,Ww hi,Wm (show i<4611686018427387904 by omega),Wa,Wtu hN,ret,Xd])
   (λn v=>by simp only[Zd6,WO (Xl a.length),Wc]) ()
  refine h1.trans ?_;rw[WbK (E:=λ_=>some ((),(false,()))) (z:=((0:Int),((0:Int),(0:Int)))) a b 0 () (by omega) (λj x v k _=>rfl)];simp only[Xak];cases same a b<;>rfl
 .have e:(Wh a !=Wh b)=true:=by simp[Wh];omega
  have e2:a≠b:=λh=>hl (by rw[h]);rw[e,Wdb e2];rfl
theorem WpY{N:Nat}{a b:Kf×List Km×List Kb}(h:Wbg a<=1048576)(hN:1048576<N):Zos N a b=ret (same a b):=by
 unfold Wbg at h;unfold Zos;simp only[WcQ,WcU,Wc9,Wpb (a:=a.1) (show WaW a.1<=1048576 by omega) hN,Wrc (a:=a.2.1) (show WaG a.2.1<=1048576 by omega) hN,WrZ (a:=a.2.2) (show Wc1 a.2.2<=1048576 by omega) hN,ret,Xd];exact WbU (WbU (Wfw))
theorem Wsx{N:Nat}{a b:Int×Int×Int×Int}(hN:1048576<N):Zrz N a b=ret (same a b):=by
 unfold Zrz;simp only[WcQ,WcU,Wc9,ret,Xd];exact WbU (WbU (WbU (Wfw)))
def Wrd(l:List Ka):Nat:=l.length
theorem Wru{N:Nat}{a b:List Ka}(h:Wrd a<=1048576)(hN:1048576<N):Zfu N a b=ret (same a b):=by
 have hl0:a.length<=1048576:=h;unfold Zfu;by_cases hl:a.length=b.length
 .have e:(Wh a !=Wh b)=false:=by simp[Wh,hl]
  rw[e];simp only[Wc];have h1:=Wy (l:=a) (V:=Unit) (R:=Unit×Kq) (lp:=λn j v=>Zc8 N a b (some ((),(false,()))) (λi8 t9=>some ((),(true,()))) n j) (n:=N) (by omega)
   (body:=λj x v k=>bif inb j b.length then(bif !same x (b.getD j.toNat ((0:Int),((0:Int),((0:Int),(0:Int)))))then some ((),(false,()))else k v)else none) (K:=λ_ v=>some ((),(true,())))
   (λn i v hi=>by simp only[Zc8,WF hi,Wu hi,Ww hi,Wm (show i<4611686018427387904 by omega),Wa,Wsx hN,ret,Xd])
   (λn v=>by simp only[Zc8,WO (Xl a.length),Wc]) ()
  refine h1.trans ?_;rw[WbK (E:=λ_=>some ((),(false,()))) (z:=((0:Int),((0:Int),((0:Int),(0:Int))))) a b 0 () (by omega) (λj x v k _=>rfl)];simp only[Xak];cases same a b<;>rfl
 .have e:(Wh a !=Wh b)=true:=by simp[Wh];omega
  have e2:a≠b:=λh=>hl (by rw[h]);rw[e,Wdb e2];rfl
end
section
def mkL{α:Type}(mk:α->Int->α)(w:α->Int):List α->Int->List α
 | [],_=>[]
 |x::l,k=>mk x k::mkL mk w l (k+w x)
def wL{α:Type}(w:α->Int):List α->Int
 | []=>0
 |x::l=>w x+wL w l
theorem WsP{α:Type}{w:α->Int}(h:∀x,0<=w x):∀l:List α,0<=wL w l
 | []=>Int.le_refl _
 |x::l=>by rw[wL];have:=h x;have:=WsP h l;omega
theorem Wfz{α:Type}(p:List α)(x:α)(l:List α)(d:α):List.getD (p++x::l) (Xa (p.length:Int)) d=x:=by simp
theorem WgO{α:Type}(p:List α)(x y:α)(l:List α):List.set (p++x::l) (Xa (p.length:Int)) y=p++y::l:=by simp
theorem Wfx{α:Type}(p:List α)(x:α)(l:List α):inb (p.length:Int) (p++x::l).length=true:=by unfold inb;simp;omega
theorem WhG{α:Type}(p:List α)(x:α)(l:List α):decide ((p.length:Int)<Wh (p++x::l))=true:=by unfold Wh;simp;omega
theorem WhY{α:Type}(l:List α):decide ((l.length:Int)<Wh l)=false:=Wk (by unfold Wh;omega)
theorem WnW{α R:Type}{mk:α->Int->α}{w:α->Int}{P:α->Prop}{lp:Nat->Int->Int->List α->Option R}{K0:Int->Int->Bool->List α->Option R}(hw:∀x,0<=w x)
  (dj:∀(n:Nat) (k:Int) (p:List α) (x:α) (l:List α),P x->0<=k->k+w x<=1000000000->(p.length:Int)+1<=2000000->lp (n+1) k (p.length:Int) (p++x::l)=lp n (k+w x) ((p.length:Int)+1) (p++mk x k::l))
  (jR:∀(n:Nat) (k:Int) (l:List α),lp (n+1) k (l.length:Int) l=K0 k (l.length:Int) false l):
  ∀(l p:List α) (n:Nat) (k:Int),(∀x∈l,P x)->l.length<n->p.length+l.length<=1500000->0<=k->k+wL w l<=1000000000->lp n k (p.length:Int) (p++l)=K0 (k+wL w l) ((p.length:Int)+l.length) false (p++mkL mk w l k)
 | [],p,n,k,_,hn,_,_,_=>by
  obtain⟨n,rfl⟩:∃n',n=n'+1:=⟨n-1,by omega⟩;rw[List.append_nil,jR];simp[wL,mkL]
 |x::l,p,n,k,hP,hn,hl,h0,h1=>by
  obtain⟨n,rfl⟩:∃n',n=n'+1:=⟨n-1,by omega⟩;simp only[Xq]at hn hl;rw[wL]at h1;have uw:=hw x;have jJ:=WsP hw l;rw[dj n k p x l (hP x (Xj ..)) h0 (by omega) (by omega)];have ih:=WnW hw dj jR l (p++ [mk x k]) n (k+w x) (λy hy=>hP y (Xf _ hy)) (by omega) (by simp;omega) (by omega) (by omega);simp only[Xw,Xq,Xbq,List.append_assoc,List.cons_append,List.nil_append]at ih
  push_cast at ih
  rw[ih,wL,mkL,Xq]
  push_cast
  rw[show k+w x+wL w l=k+(w x+wL w l) by omega,show(p.length:Int)+1+(l.length:Int)=(p.length:Int)+((l.length:Int)+1) by omega]
theorem Wup{α R:Type}{mk:α->Int->α}{w:α->Int}{P:α->Prop}{a:List α}{lp:Nat->Int->Int->Option R}{K1:Int->Int->Bool->Option R}(hw:∀x,0<=w x)
  (dj:∀(n:Nat) (k:Int) (p:List α) (x:α) (l:List α),a=p++mk x k::l->P x->0<=k->k+w x<=1000000000->(p.length:Int)+1<=2000000->lp (n+1) k (p.length:Int)=lp n (k+w x) ((p.length:Int)+1))
  (jR:∀(n:Nat) (k:Int),lp (n+1) k (a.length:Int)=K1 k (a.length:Int) false):
  ∀(l p:List α) (n:Nat) (k:Int),a=p++mkL mk w l k->(∀x∈l,P x)->l.length<n->p.length+l.length<=1500000->0<=k->k+wL w l<=1000000000->lp n k (p.length:Int)=K1 (k+wL w l) (a.length:Int) false
 | [],p,n,k,ha,_,hn,_,_,_=>by
  obtain⟨n,rfl⟩:∃n',n=n'+1:=⟨n-1,by omega⟩;have e:p=a:=by rw[ha];simp[mkL]
  rw[e,jR];simp[wL]
 |x::l,p,n,k,ha,hP,hn,hl,h0,h1=>by
  obtain⟨n,rfl⟩:∃n',n=n'+1:=⟨n-1,by omega⟩;simp only[Xq]at hn hl;rw[wL]at h1;have uw:=hw x;have jJ:=WsP hw l;rw[mkL]at ha;rw[dj n k p x _ ha (hP x (Xj ..)) h0 (by omega) (by omega)];have ih:=Wup hw dj jR l (p++ [mk x k]) n (k+w x) (by rw[ha];simp) (λy hy=>hP y (Xf _ hy)) (by omega) (by simp;omega) (by omega) (by omega);simp only[Xw,Xq,Xbq]at ih
  push_cast at ih
  rw[ih,wL,show k+w x+wL w l=k+(w x+wL w l) by omega]
theorem ia1{a:Int}(h:0<=a)(h':a<=1000000100):Wj .i64 a 1=a+1:=WI (by unfold I64;omega)
theorem Wq4(x:Int):(x !=x)=false:=by simp
theorem lt0{a:Int}(h:0<=a):decide (a<0)=false:=Wk (by omega)
def Wua{α:Type}(mk:α->Int->α)(w:α->Int)(P:α->Prop)(T:Nat->List α->Int->Option ((List α×Unit)×Kh)):Prop:=
 ∀{N:Nat} {l:List α} {k:Int},1600000<N->l.length<=1500000->(∀x∈l,P x)->0<=k->k+wL w l<=1000000000->T N l k=some ((mkL mk w l k,()),(k+wL w l,()))
def Wu9{α:Type}(mk:α->Int->α)(w:α->Int)(P:α->Prop)(T:Nat->List α->Int->Option Ku):Prop:=
 ∀{N:Nat} {l:List α} {k:Int},1600000<N->l.length<=1500000->(∀x∈l,P x)->0<=k->k+wL w l<=1000000000->T N (mkL mk w l k) k=ret (k+wL w l)
def mkI(_:Int)(k:Int):Int:=k
def wI(_:Int):Int:=1
theorem Wu8(x:Int):0<=wI x:=by unfold wI;omega
theorem Wlo{P:Int->Prop}:Wua mkI wI P Zf9:=by
 intro N l k hN hl hP h0 h1;unfold Zf9;have h:=WnW (mk:=mkI) (w:=wI) (P:=λ_=>True) (lp:=λn k i l=>Zcn N (λk10 bZ aB aY=>(some ((aY,()),(k10,())))) n k i l) (K0:=λk10 bZ aB aY=>(some ((aY,()),(k10,())))) Wu8
  (λn k p x l _ h0 h1 h2=>by
   unfold wI at h1;simp(disch:=omega) only[Zcn,Ws,WhG,Wfx,WgO,Wfz,Wa,ia1,wI,mkI]
   try rw[show k+1=k+1 by omega])
  (λn k l=>by simp only[Zcn,WhY,Wc]) l [] N k (λ_ _=>trivial) (by omega) (by simpa using hl) h0 h1
 simpa using h
def Wp8(_:Ka)(k:Int):Ka:=(k,k+1,k+1+1,k+1+1+1)
def wOp(_:Ka):Int:=4
theorem WpI(x:Ka):0<=wOp x:=by unfold wOp;omega
theorem Wjz{P:Ka->Prop}:Wua Wp8 wOp P Zg6:=by
 intro N l k hN hl hP h0 h1;unfold Zg6;have h:=WnW (mk:=Wp8) (w:=wOp) (P:=λ_=>True) (lp:=λn k i l=>Zcv N (λk10 bZ aB aY=>(some ((aY,()),(k10,())))) n k i l) (K0:=λk10 bZ aB aY=>(some ((aY,()),(k10,())))) WpI
  (λn k p x l _ h0 h1 h2=>by
   unfold wOp at h1;simp(disch:=omega) only[Zcv,Ws,WhG,Wfx,WgO,Wfz,Wa,ia1,wOp,Wp8]
   try rw[show k+4=k+1+1+1+1 by omega])
  (λn k l=>by simp only[Zcv,WhY,Wc]) l [] N k (λ_ _=>trivial) (by omega) (by simpa using hl) h0 h1
 simpa using h
def WuR(_:Kb)(k:Int):Kb:=(k,k+1,k+1+1)
def wWd(_:Kb):Int:=3
theorem WuQ(x:Kb):0<=wWd x:=by unfold wWd;omega
def Sm{α:Type}(l:List α):Prop:=l.length<=1500000
def WuS(x:List Ka)(k:Int):List Ka:=mkL Wp8 wOp x k
def wKd(x:List Ka):Int:=wL wOp x
theorem WtP(x:List Ka):0<=wKd x:=WsP WpI x
theorem Wo5:Wua WuS wKd Sm Zhz:=by
 intro N l k hN hl hP h0 h1;unfold Zhz;have h:=WnW (mk:=WuS) (w:=wKd) (P:=Sm) (lp:=λn k i l=>Zco N (λk10 bZ aB aY=>(some ((aY,()),(k10,())))) n k i l) (K0:=λk10 bZ aB aY=>(some ((aY,()),(k10,())))) WtP
  (λn k p x l hx h0 h1 h2=>by
   simp only[Zco,Ws,WhG,Wfx,WgO,Wfz,Wa];rw[Wjz (P:=λ_=>True) hN hx (λ_ _=>trivial) h0 h1];simp(disch:=omega) only[Xd,ia1];rfl)
  (λn k l=>by simp only[Zco,WhY,Wc]) l [] N k hP (by omega) (by simpa using hl) h0 h1
 simpa using h
theorem nbq(i:Nat):Nat.beq i i=true:=Nat.beq_refl i
end
section
theorem WpL{P:Ka->Prop}:Wua Wp8 wOp P Zhd:=by
 intro N l k hN hl hP h0 h1;unfold Zhd;have h:=WnW (mk:=Wp8) (w:=wOp) (P:=λ_=>True) (lp:=λn k i l=>Zca N (λk10 bZ aB aY=>(some ((aY,()),(k10,())))) n k i l) (K0:=λk10 bZ aB aY=>(some ((aY,()),(k10,())))) WpI
  (λn k p x l _ h0 h1 h2=>by
   unfold wOp at h1;simp(disch:=omega) only[Zca,Ws,WhG,Wfx,WgO,Wfz,Wa,ia1,wOp,Wp8]
   try rw[show k+4=k+1+1+1+1 by omega])
  (λn k l=>by simp only[Zca,WhY,Wc]) l [] N k (λ_ _=>trivial) (by omega) (by simpa using hl) h0 h1
 simpa using h
theorem Wo4{P:Ka->Prop}:Wu9 Wp8 wOp P Zfb:=by
 intro N l k hN hl hP h0 h1;unfold Zfb;generalize ea:mkL Wp8 wOp l k=a;have h:=Wup (mk:=Wp8) (w:=wOp) (P:=λ_=>True) (a:=a) (lp:=λn k i=>Zcb N a (some ((),((-1:Int),()))) (λk9 bo aw=>(some ((),(k9,())))) n k i) (K1:=λk9 bo aw=>(some ((),(k9,())))) WpI
  (λn k p x l' ha _ h0 h1 h2=>by
   unfold wOp at h1;rw[ha];simp only[Zcb,WhG,Wfx,Wfz,Wa];simp(disch:=omega) only[Wp8,Wa,ia1,Wq4,Wc,wOp]
   try rw[show k+4=k+1+1+1+1 by omega])
  (λn k=>by simp only[Zcb,WhY,Wc]) l [] N k (by rw[←ea];rfl) (λ_ _=>trivial) (by omega) (by simpa using hl) h0 h1
 exact h
theorem Wpu{P:Kb->Prop}:Wua WuR wWd P Zh3:=by
 intro N l k hN hl hP h0 h1;unfold Zh3;have h:=WnW (mk:=WuR) (w:=wWd) (P:=λ_=>True) (lp:=λn k i l=>Zcp N (λk10 bZ aB aY=>(some ((aY,()),(k10,())))) n k i l) (K0:=λk10 bZ aB aY=>(some ((aY,()),(k10,())))) WuQ
  (λn k p x l _ h0 h1 h2=>by
   unfold wWd at h1;simp(disch:=omega) only[Zcp,Ws,WhG,Wfx,WgO,Wfz,Wa,ia1,wWd,WuR]
   try rw[show k+3=k+1+1+1 by omega])
  (λn k l=>by simp only[Zcp,WhY,Wc]) l [] N k (λ_ _=>trivial) (by omega) (by simpa using hl) h0 h1
 simpa using h
abbrev PgT:=List Ka×List Kaa
def Wu4(x:PgT)(k:Int):PgT:=(mkL Wp8 wOp x.1 k,mkL WuS wKd x.2 (k+wL wOp x.1))
def wPg(x:PgT):Int:=wL wOp x.1+wL wKd x.2
theorem Wuj(x:PgT):0<=wPg x:=by
 have:=WsP WpI x.1;have:=WsP WtP x.2;unfold wPg;omega
def WuT(x:PgT):Prop:=Sm x.1/\Sm x.2/\∀y∈x.2,Sm y
theorem Wpj:Wua Wu4 wPg WuT Zhc:=by
 intro N l k hN hl hP h0 h1;unfold Zhc;have h:=WnW (mk:=Wu4) (w:=wPg) (P:=WuT) (lp:=λn k i l=>Zb9 N (λk10 bZ aB aY=>(some ((aY,()),(k10,())))) n k i l) (K0:=λk10 bZ aB aY=>(some ((aY,()),(k10,())))) Wuj
  (λn k p x l hx h0 h1 h2=>by
   have hw:=WsP WpI x.1;have ua:=WsP WtP x.2;unfold wPg at h1;simp(disch:=omega) only[Zb9,Ws,WhG,Wfx,WgO,Wfz,Wa,nbq,Bool.and_true,ia1];rw[Wjz (P:=λ_=>True) hN hx.1 (λ_ _=>trivial) h0 (by omega),Xd,Wo5 hN hx.2.1 hx.2.2 (by dsimp only;omega) (by dsimp only;omega)];simp only[Xd,wPg];rw[show k+wL wOp x.1+wL wKd x.2=k+(wL wOp x.1+wL wKd x.2) by omega];rfl)
  (λn k l=>by simp only[Zb9,WhY,Wc]) l [] N k hP (by omega) (by simpa using hl) h0 h1
 simpa using h
theorem WtG:∀l:List Int,wL wI l=l.length
 | []=>rfl
 |x::l=>by rw[wL,WtG l,Xq];unfold wI;omega
theorem Wn9:∀l:List Ka,wL wOp l=4*l.length
 | []=>rfl
 |x::l=>by rw[wL,Wn9 l,Xq];unfold wOp;omega
theorem Wtc:∀l:List Kb,wL wWd l=3*l.length
 | []=>rfl
 |x::l=>by rw[wL,Wtc l,Xq];unfold wWd;omega
theorem Wtk:∀l:List Kaa,wL wKd l<=4*Wba l
 | []=>by simp[wL,Wba]
 |x::l=>by
  have:=Wtk l;rw[wL];unfold Wba at*;simp only[Xq,Xaf,Xcw];have hx:WeW x=x.length:=rfl;have hy:wKd x=4*x.length:=Wn9 x;omega
theorem Wtm:∀l:List PgT,wL wPg l<=4*WaG l
 | []=>by simp[wL,WaG]
 |x::l=>by
  have:=Wtm l;have h1:=Wtk x.2;rw[wL];unfold WaG at*;simp only[Xq,Xaf,Xcw];have hy:wPg x=4*x.1.length+wL wKd x.2:=by unfold wPg;rw[Wn9]
  have hx:Wcp x=x.1.length+Wba x.2:=rfl;omega
theorem Wja{N:Nat}{s:Kf×List PgT×List Kb}(hN:1600000<N)(h:Wbg s<=1048576):∃s' k,Zlk N s 1=some ((s',()),(k,()))/\0<=k:=by
 unfold Wbg WaW WbI Wc1 at h;have c1:=WtG s.1.1;have c2:=WtG s.1.2.1;have c3:=Wtm s.2.1;have d3:=WsP Wuj s.2.1;have c4:=Wtc s.2.2;have l3:s.2.1.length<=WaG s.2.1:=WdU;have s3:∀x∈s.2.1,WuT x:=λx hx=>by
  have hm:=WdE hx;unfold Wcp WdI at hm;have lk:x.2.length<=Wba x.2:=WeB;refine⟨by show x.1.length<=1500000;omega,by show x.2.length<=1500000;omega,λy hy=>?_⟩;have:=WeJ hy;unfold WeW WdI at this;show y.length<=1500000;omega
 unfold Zlk Zq2;rw[Wlo (P:=λ_=>True) hN (by omega) (λ_ _=>trivial) (by omega) (by omega),Xd,
   Wlo (P:=λ_=>True) hN (by omega) (λ_ _=>trivial) (by dsimp only;omega) (by dsimp only;omega),Xd,Xd,
   Wpj hN (by omega) s3 (by dsimp only;omega) (by dsimp only;omega),Xd,
   Wpu (P:=λ_=>True) hN (by omega) (λ_ _=>trivial) (by dsimp only;omega) (by dsimp only;omega),Xd]
 refine⟨_,_,rfl,?_⟩;dsimp only;omega
end
section
variable{N:Nat}{s:Sc}{w:Wo}
theorem Wlq:∀(l:List Ac) (i:Nat) (w:Wo),(WfL s l i w).length<=l.length
 | [],_,_=>by simp[WfL]
 |a::l,i,w=>by
  have:=Wlq l (i+1) (Wce s w a);have:=Wgt (s:=s) (w:=w) (a:=a) i;rw[WfL,Xw,Xq];omega
theorem WnB(hN:1600000<N)(hw:Wfd (.prod (.prod (.slice (.int .i64)) (.prod (.slice (.int .i64)) (.int .i64))) (.prod (.slice (.prod (.slice (.prod (.int .i64) (.prod (.int .i64) (.prod (.int .i64) (.int .i64))))) (.slice (.slice (.prod (.int .i64) (.prod (.int .i64) (.prod (.int .i64) (.int .i64)))))))) (.slice (.prod (.int .i64) (.prod (.int .i64) (.int .i64)))))) s):Zfv N s=some ((),(true,())):=by
 unfold Zfv;have hN':1048576<N:=by omega
 rw[WpN hN' (by omega) (by omega) hw];simp only[ret,Xd];by_cases hz:(1048576:Int)<(Wbg s:Int)
 .rw[Wf hz];rfl
 .rw[Wb hz,lt0 (by omega),Wc];have lg:Wbg s<=1048576:=by omega
  have hb:SB s:=by
   unfold Wbg WaW WbI Wc1 at lg;have l4:s.2.1.length<=WaG s.2.1:=WdU;refine⟨by omega,by omega,by omega,λp hp=>?_,by omega⟩;have h1:=WdE hp;unfold Wcp WdI at h1;have h2:p.2.length<=Wba p.2:=WeB;refine⟨by omega,by omega,λc hc=>?_⟩;have h3:=WeJ hc;unfold WeW WdI at h3;omega
  have fV:=WnM hb hN';have sf:=Wnf hb hN';obtain⟨s',k,hm,ux⟩:=Wja hN lg;generalize hg:(if WlP s=true then WfL s s.2.2 0 (WmL s)else [])=g at fV sf;have uy:g.length<=1048576:=by
   rw[←hg];split
   .have:=Wlq (s:=s) s.2.2 0 (WmL s);have:=hb.acts;omega
   .simp
  have hgw:=Wn9 g;have uz:Wrd g<=1048576:=uy;rw[WpX lg hN'];simp only[ret,Xd,fV,sf];rw[Wru uz hN',WpY lg hN'];simp only[ret,Xd,Wdv,Bool.not_true,Wc];rw[hm];simp only[Xd,lt0 ux,Wc];rw[WpL (P:=λ_=>True) hN (by omega) (λ_ _=>trivial) (by omega) (by omega)];simp only[Xd];rw[Wo4 (P:=λ_=>True) hN (by omega) (λ_ _=>trivial) (by omega) (by omega)];simp only[ret,Xd];rw[lt0 (by omega),Wc,Wq4];rfl
theorem law_FnExactTraceOf(d:We1 [.v (.prod (.prod (.slice (.int .i64)) (.prod (.slice (.int .i64)) (.int .i64))) (.prod (.slice (.prod (.slice (.prod (.int .i64) (.prod (.int .i64) (.prod (.int .i64) (.int .i64))))) (.slice (.slice (.prod (.int .i64) (.prod (.int .i64) (.prod (.int .i64) (.int .i64)))))))) (.slice (.prod (.int .i64) (.prod (.int .i64) (.int .i64)))))) false])(hw:WoL [.v (.prod (.prod (.slice (.int .i64)) (.prod (.slice (.int .i64)) (.int .i64))) (.prod (.slice (.prod (.slice (.prod (.int .i64) (.prod (.int .i64) (.prod (.int .i64) (.int .i64))))) (.slice (.slice (.prod (.int .i64) (.prod (.int .i64) (.prod (.int .i64) (.int .i64)))))))) (.slice (.prod (.int .i64) (.prod (.int .i64) (.int .i64)))))) false] d):∃N o,Zfv N d.1=some (o,(true,())):=
 ⟨1600001,(),WnB (N:=1600001) (by omega) hw.1⟩
end
end Go.Sx
