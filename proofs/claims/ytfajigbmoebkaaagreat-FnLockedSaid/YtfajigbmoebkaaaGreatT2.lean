/- What each Go function computes, as a Lean function. -/
import Derived.Test.YtfajigbmoebkaaaGreatT
open List renaming length→Xa,getD→Xd
open Int renaming toNat→Xb
namespace Go.Sx
set_option linter.unusedVariables false
noncomputable def Zcr(N:Nat)(code1:List Int):Option (Unit×(Bool×Unit)):=
    ((Zto N code1).bind λo2=>
 (bif o2.2.1 then
 (some ((),(true,())))
 else
 ((Zkw N code1).bind λo3=>
 ((Ze2 N o3.2.1).bind λo4=>
 ((Zdl N o3.2.1).bind λo5=>
 (bif !o5.2.1 then
 (some ((),((ilen o4.2.1.2.2.2.2.2.1)==0,())))
 else
 (bif (ilen o4.2.1.2.2.2.2.2.1) !=(ilen o3.2.1.2.1)then
 (some ((),(false,())))
 else
 ((Zfn N o4.2.1.2.2.1).bind λo6=>
 (bif !o6.2.1 then
 (some ((),(false,())))
 else
 ((Ze4 N o4.2.1.2.2.2.2.1).bind λo7=>
 (bif !o7.2.1 then
 (some ((),(false,())))
 else
 ((Zjb N o4.2.1.2.2.2.1).bind λo8=>
 (bif !o8.2.1 then
 (some ((),(false,())))
 else
 (Zbd N o4.2.1
 (some ((),(false,())))
 (λi13 t14=>
   ((Zhi N o4.2.1).bind λo15=>
 (Zbu N o4.2.1 o15.2.1
 (some ((),(false,())))
 (λi23 t24=>
   (bif o4.2.1.2.1==0 then
 (some ((),(true,())))
 else
 (bif decide (o4.2.1.2.1≥1)then
 (bif decide (o4.2.1.2.1≤(ilen o4.2.1.2.2.2.2.2.1))then
 (bif inb (isub .i64 o4.2.1.2.1 1) (Xa o4.2.1.2.2.2.2.2.1)then
 (bif decide ((Xd o4.2.1.2.2.2.2.2.1 (Xb (isub .i64 o4.2.1.2.1 1)) d_Root).2.1≥3)then
 (bif inb (isub .i64 o4.2.1.2.1 1) (Xa o4.2.1.2.2.2.2.2.1)then
 (some ((),((Xd o4.2.1.2.2.2.2.2.1 (Xb (isub .i64 o4.2.1.2.1 1)) d_Root).1 !=8,())))else none)
 else
 (some ((),(false,()))))else none)
 else
 (some ((),(false,()))))
 else
 (some ((),(false,()))))))
  N 0)))
  N 0))))))))))))))
end Go.Sx
