/- What each Go function computes, as a Lean function. -/
import Derived.Test.YtfajigbmoebkaaaGreatT
namespace Go.Sx
set_option linter.unusedVariables false
noncomputable def Zcv (N:Nat) (code1:List Int):Option (Unit × (Bool × Unit)) :=
    ((Ztr N code1).bind fun o2 =>
 (bif o2.2.1 then
 (some ((),(true,())))
 else
 ((Zku N code1).bind fun o3 =>
 ((Zdp N o3.2.1).bind fun o4 =>
 (bif !o4.2.1 then
 (some ((),(true,())))
 else
 (bif decide ((ilen o3.2.1.2.2) ≥ 400) then
 (some ((),(true,())))
 else
 (bif (ilen o3.2.1.2.1) == 0 then
 (some ((),(true,())))
 else
 ((Za2 N o3.2.1).bind fun o5 =>
 (bif (ilen o5.2.1.2.2.2.2.2.1) != (ilen o3.2.1.2.1) then
 (some ((),(false,())))
 else
 ((Zlh N code1 2).bind fun o6 =>
 (bif inz (ilen o3.2.1.2.1) then
 ((Zlh N code1 3).bind fun o7 =>
 (bif inz 3 then
 (bif inb (irem o6.2.1 (ilen o3.2.1.2.1)) (List.length o5.2.1.2.2.2.2.2.1) then
 (bif (List.getD o5.2.1.2.2.2.2.2.1 (Int.toNat (irem o6.2.1 (ilen o3.2.1.2.1))) d_Root).1 != 8 then
 (both
 (bif room ((List.length ([]:List (Int × Int × Int))) + (List.length o3.2.1.2.2)) then
 (bif room ((List.length (List.append ([]:List (Int × Int × Int)) o3.2.1.2.2)) + (List.length ([(iadd .i64 (1:Int) (irem o7.2.1 (3:Int)),(ilen o3.2.1.2.1,(0:Int)))]))) then
 ((Za2 N (o3.2.1.1,(o3.2.1.2.1,List.append (List.append ([]:List (Int × Int × Int)) o3.2.1.2.2) ([(iadd .i64 1 (irem o7.2.1 3),(ilen o3.2.1.2.1,0))])))).bind fun o8 =>
 (bif (ilen o8.2.1.2.2.2.2.2.1) != (ilen o5.2.1.2.2.2.2.2.1) then
 (some ((),(false,())))
 else
 (bif o8.2.1.1 != (iadd .i64 o5.2.1.1 1) then
 (some ((),(false,())))
 else
 (bif o8.2.1.2.1 != o5.2.1.2.1 then
 (some ((),(false,())))
 else
 ((Za6 N o8.2.1.2.2.1 o5.2.1.2.2.1).bind fun o9 =>
 (bif !o9.2.1 then
 (some ((),(false,())))
 else
 ((Zaq N o8.2.1.2.2.2.2.1 o5.2.1.2.2.2.2.1).bind fun o10 =>
 (bif !o10.2.1 then
 (some ((),(false,())))
 else
 ((Zay N o8.2.1.2.2.2.2.2.2 o5.2.1.2.2.2.2.2.2).bind fun o11 =>
 (bif !o11.2.1 then
 (some ((),(false,())))
 else
 (Zah N o5.2.1 o8.2.1
 (some ((),(false,())))
 (fun i19 t20 =>
   (some ((),(true,()))))
  N 0))))))))))) else none) else none)
 (both
 (bif room ((List.length ([]:List (Int × Int × Int))) + (List.length o3.2.1.2.2)) then
 (bif room ((List.length (List.append ([]:List (Int × Int × Int)) o3.2.1.2.2)) + (List.length ([(iadd .i64 (1:Int) (irem o7.2.1 (3:Int)),(ilen o3.2.1.2.1,(0:Int)))]))) then
 ((Za2 N (o3.2.1.1,(o3.2.1.2.1,List.append (List.append ([]:List (Int × Int × Int)) o3.2.1.2.2) ([(iadd .i64 1 (irem o7.2.1 3),(ilen o3.2.1.2.1,0))])))).bind fun o21 =>
 (bif (ilen o21.2.1.2.2.2.2.2.1) != (ilen o5.2.1.2.2.2.2.2.1) then
 (some ((),(false,())))
 else
 (bif o21.2.1.1 != (iadd .i64 o5.2.1.1 1) then
 (some ((),(false,())))
 else
 (bif o21.2.1.2.1 != o5.2.1.2.1 then
 (some ((),(false,())))
 else
 ((Za6 N o21.2.1.2.2.1 o5.2.1.2.2.1).bind fun o22 =>
 (bif !o22.2.1 then
 (some ((),(false,())))
 else
 ((Zaq N o21.2.1.2.2.2.2.1 o5.2.1.2.2.2.2.1).bind fun o23 =>
 (bif !o23.2.1 then
 (some ((),(false,())))
 else
 ((Zay N o21.2.1.2.2.2.2.2.2 o5.2.1.2.2.2.2.2.2).bind fun o24 =>
 (bif !o24.2.1 then
 (some ((),(false,())))
 else
 (Zah N o5.2.1 o21.2.1
 (some ((),(false,())))
 (fun i25 t26 =>
   (some ((),(true,()))))
  N 0))))))))))) else none) else none)
 (bif room ((List.length ([]:List (Int × Int × Int))) + (List.length o3.2.1.2.2)) then
 (bif room ((List.length (List.append ([]:List (Int × Int × Int)) o3.2.1.2.2)) + (List.length ([(iadd .i64 (1:Int) (irem o7.2.1 (3:Int)),(ilen o3.2.1.2.1,(0:Int)))]))) then
 ((Za2 N (o3.2.1.1,(o3.2.1.2.1,List.append (List.append ([]:List (Int × Int × Int)) o3.2.1.2.2) ([(iadd .i64 1 (irem o7.2.1 3),(ilen o3.2.1.2.1,0))])))).bind fun o27 =>
 (bif (ilen o27.2.1.2.2.2.2.2.1) != (ilen o5.2.1.2.2.2.2.2.1) then
 (some ((),(false,())))
 else
 (bif o27.2.1.1 != (iadd .i64 o5.2.1.1 1) then
 (some ((),(false,())))
 else
 (bif o27.2.1.2.1 != o5.2.1.2.1 then
 (some ((),(false,())))
 else
 ((Za6 N o27.2.1.2.2.1 o5.2.1.2.2.1).bind fun o28 =>
 (bif !o28.2.1 then
 (some ((),(false,())))
 else
 ((Zaq N o27.2.1.2.2.2.2.1 o5.2.1.2.2.2.2.1).bind fun o29 =>
 (bif !o29.2.1 then
 (some ((),(false,())))
 else
 ((Zay N o27.2.1.2.2.2.2.2.2 o5.2.1.2.2.2.2.2.2).bind fun o30 =>
 (bif !o30.2.1 then
 (some ((),(false,())))
 else
 (Zah N o5.2.1 o27.2.1
 (some ((),(false,())))
 (fun i31 t32 =>
   (some ((),(true,()))))
  N 0))))))))))) else none) else none)))
 else
 (both
 (bif room ((List.length ([]:List (Int × Int × Int))) + (List.length o3.2.1.2.2)) then
 (bif room ((List.length (List.append ([]:List (Int × Int × Int)) o3.2.1.2.2)) + (List.length ([(iadd .i64 (1:Int) (irem o7.2.1 (3:Int)),(irem o6.2.1 (ilen o3.2.1.2.1),(0:Int)))]))) then
 ((Za2 N (o3.2.1.1,(o3.2.1.2.1,List.append (List.append ([]:List (Int × Int × Int)) o3.2.1.2.2) ([(iadd .i64 1 (irem o7.2.1 3),(irem o6.2.1 (ilen o3.2.1.2.1),0))])))).bind fun o33 =>
 (bif (ilen o33.2.1.2.2.2.2.2.1) != (ilen o5.2.1.2.2.2.2.2.1) then
 (some ((),(false,())))
 else
 (bif o33.2.1.1 != (iadd .i64 o5.2.1.1 1) then
 (some ((),(false,())))
 else
 (bif o33.2.1.2.1 != o5.2.1.2.1 then
 (some ((),(false,())))
 else
 ((Za6 N o33.2.1.2.2.1 o5.2.1.2.2.1).bind fun o34 =>
 (bif !o34.2.1 then
 (some ((),(false,())))
 else
 ((Zaq N o33.2.1.2.2.2.2.1 o5.2.1.2.2.2.2.1).bind fun o35 =>
 (bif !o35.2.1 then
 (some ((),(false,())))
 else
 ((Zay N o33.2.1.2.2.2.2.2.2 o5.2.1.2.2.2.2.2.2).bind fun o36 =>
 (bif !o36.2.1 then
 (some ((),(false,())))
 else
 (Zah N o5.2.1 o33.2.1
 (some ((),(false,())))
 (fun i37 t38 =>
   (some ((),(true,()))))
  N 0))))))))))) else none) else none)
 (both
 (bif room ((List.length ([]:List (Int × Int × Int))) + (List.length o3.2.1.2.2)) then
 (bif room ((List.length (List.append ([]:List (Int × Int × Int)) o3.2.1.2.2)) + (List.length ([(iadd .i64 (1:Int) (irem o7.2.1 (3:Int)),(irem o6.2.1 (ilen o3.2.1.2.1),(0:Int)))]))) then
 ((Za2 N (o3.2.1.1,(o3.2.1.2.1,List.append (List.append ([]:List (Int × Int × Int)) o3.2.1.2.2) ([(iadd .i64 1 (irem o7.2.1 3),(irem o6.2.1 (ilen o3.2.1.2.1),0))])))).bind fun o39 =>
 (bif (ilen o39.2.1.2.2.2.2.2.1) != (ilen o5.2.1.2.2.2.2.2.1) then
 (some ((),(false,())))
 else
 (bif o39.2.1.1 != (iadd .i64 o5.2.1.1 1) then
 (some ((),(false,())))
 else
 (bif o39.2.1.2.1 != o5.2.1.2.1 then
 (some ((),(false,())))
 else
 ((Za6 N o39.2.1.2.2.1 o5.2.1.2.2.1).bind fun o40 =>
 (bif !o40.2.1 then
 (some ((),(false,())))
 else
 ((Zaq N o39.2.1.2.2.2.2.1 o5.2.1.2.2.2.2.1).bind fun o41 =>
 (bif !o41.2.1 then
 (some ((),(false,())))
 else
 ((Zay N o39.2.1.2.2.2.2.2.2 o5.2.1.2.2.2.2.2.2).bind fun o42 =>
 (bif !o42.2.1 then
 (some ((),(false,())))
 else
 (Zah N o5.2.1 o39.2.1
 (some ((),(false,())))
 (fun i43 t44 =>
   (some ((),(true,()))))
  N 0))))))))))) else none) else none)
 (bif room ((List.length ([]:List (Int × Int × Int))) + (List.length o3.2.1.2.2)) then
 (bif room ((List.length (List.append ([]:List (Int × Int × Int)) o3.2.1.2.2)) + (List.length ([(iadd .i64 (1:Int) (irem o7.2.1 (3:Int)),(irem o6.2.1 (ilen o3.2.1.2.1),(0:Int)))]))) then
 ((Za2 N (o3.2.1.1,(o3.2.1.2.1,List.append (List.append ([]:List (Int × Int × Int)) o3.2.1.2.2) ([(iadd .i64 1 (irem o7.2.1 3),(irem o6.2.1 (ilen o3.2.1.2.1),0))])))).bind fun o45 =>
 (bif (ilen o45.2.1.2.2.2.2.2.1) != (ilen o5.2.1.2.2.2.2.2.1) then
 (some ((),(false,())))
 else
 (bif o45.2.1.1 != (iadd .i64 o5.2.1.1 1) then
 (some ((),(false,())))
 else
 (bif o45.2.1.2.1 != o5.2.1.2.1 then
 (some ((),(false,())))
 else
 ((Za6 N o45.2.1.2.2.1 o5.2.1.2.2.1).bind fun o46 =>
 (bif !o46.2.1 then
 (some ((),(false,())))
 else
 ((Zaq N o45.2.1.2.2.2.2.1 o5.2.1.2.2.2.2.1).bind fun o47 =>
 (bif !o47.2.1 then
 (some ((),(false,())))
 else
 ((Zay N o45.2.1.2.2.2.2.2.2 o5.2.1.2.2.2.2.2.2).bind fun o48 =>
 (bif !o48.2.1 then
 (some ((),(false,())))
 else
 (Zah N o5.2.1 o45.2.1
 (some ((),(false,())))
 (fun i49 t50 =>
   (some ((),(true,()))))
  N 0))))))))))) else none) else none)))) else none) else none)) else none)))))))))))
end Go.Sx
