/- What each Go function computes, as a Lean function. -/
import Derived.Test.YtceckfecihemnaaM3
namespace Go.Sx
set_option linter.unusedVariables false
noncomputable def Zd (N : Nat) (x1 : Int) (low2 : Int) (high3 : Int) : Option (Unit × (Bool × Unit)) :=
    (bif decide (x1 ≥ low2) then
 (some ((), (decide (x1 ≤ high3), ())))
 else
 (some ((), (false, ()))))
noncomputable def Zy (N : Nat) (x1 : Int) (lo2 : Int) (hi3 : Int) : Option (Unit × (Bool × Unit)) :=
    (bif decide (x1 ≥ lo2) then
 (some ((), (decide (x1 ≤ hi3), ())))
 else
 (some ((), (false, ()))))
noncomputable def Zcu (N : Nat) (v1 : Int) : Option (Unit × (Bool × Unit)) :=
    ((Zd N v1 0 65535).bind fun o2 =>
 (some ((), (o2.2.1, ()))))
noncomputable def Zbv (N : Nat) (v1 : Int) : Option (Unit × (Bool × Unit)) :=
    ((Zy N v1 0 65535).bind fun o2 =>
 (some ((), (o2.2.1, ()))))
noncomputable def Zi5 (N : Nat) (code1 : List Int) : Option (Unit × (Bool × Unit)) :=
    (some ((), (decide ((ilen code1) > 1048576), ())))
noncomputable def Zaq {R : Type} (N : Nat) (code2 : List Int) (K0 : Int → Int → Bool → Option R) : Nat → Int → Int → Option R
  | 0, _, _ => none
  | n + 1, h3, i4 =>
    (bif decide (i4 < (ilen code2)) then
 (bif decide (i4 < 4000) then
 (bif inb i4 (List.length code2) then
 (Zaq N code2 K0 n (iand .i64 (iadd .i64 (iadd .i64 (imul .i64 h3 131) (IntKind.wrap .i64 (List.getD code2 (Int.toNat i4) 0))) 7) 1073741823) (iadd .i64 i4 1)) else none)
 else
 (K0 h3 i4 (decide (i4 < 4000))))
 else
 (K0 h3 i4 false))
noncomputable def Zbm (N : Nat) (code1 : List Int) : Option (Unit × ((List Int × Int × Int) × Unit)) :=
    (Zaq N code1
 (fun h8 i9 t10 =>
   (some ((), ((code1, (0, h8)), ()))))
  N (iadd .i64 10101 (ilen code1)) 0)
noncomputable def Zm (N : Nat) (c1 : List Int × Int × Int) : Option (((List Int × Int × Int) × Unit) × (Int × Unit)) :=
    (bif inn 33 then
 (bif inn 45 then
 (bif decide (c1.2.1 < (ilen c1.1)) then
 (bif inb c1.2.1 (List.length c1.1) then
 (some (((c1.1, (iadd .i64 c1.2.1 1, iadd .i64 (imul .i64 c1.2.2 6364136223846793005) 1442695040888963407)), ()), (iand .i64 (iadd .i64 (iand .i64 (ixor .i64 (ishr .i64 (iadd .i64 (imul .i64 c1.2.2 6364136223846793005) 1442695040888963407) 33) (ishr .i64 (iadd .i64 (imul .i64 c1.2.2 6364136223846793005) 1442695040888963407) 45)) 255) (IntKind.wrap .i64 (List.getD c1.1 (Int.toNat c1.2.1) 0))) 255, ()))) else none)
 else
 (some (((c1.1, (c1.2.1, iadd .i64 (imul .i64 c1.2.2 6364136223846793005) 1442695040888963407)), ()), (iand .i64 (ixor .i64 (ishr .i64 (iadd .i64 (imul .i64 c1.2.2 6364136223846793005) 1442695040888963407) 33) (ishr .i64 (iadd .i64 (imul .i64 c1.2.2 6364136223846793005) 1442695040888963407) 45)) 255, ())))) else none) else none)
noncomputable def Zc (N : Nat) (c1 : List Int × Int × Int) (n2 : Int) : Option (((List Int × Int × Int) × Unit) × (Int × Unit)) :=
    (bif decide (n2 ≤ 0) then
 (some ((c1, ()), (0, ())))
 else
 (bif decide (n2 ≤ 256) then
 ((Zm N c1).bind fun o3 =>
 (bif inz n2 then
 (some ((o3.1.1, ()), (irem o3.2.1 n2, ()))) else none))
 else
 ((Zm N c1).bind fun o4 =>
 ((Zm N o4.1.1).bind fun o5 =>
 ((Zm N o5.1.1).bind fun o6 =>
 ((Zm N o6.1.1).bind fun o7 =>
 (bif inz n2 then
 (some ((o7.1.1, ()), (irem (iadd .i64 (iadd .i64 (iadd .i64 (imul .i64 o4.2.1 16777216) (imul .i64 o5.2.1 65536)) (imul .i64 o6.2.1 256)) o7.2.1) n2, ()))) else none)))))))
noncomputable def Zp (N : Nat) (c1 : List Int × Int × Int) (n2 : Int) : Option (((List Int × Int × Int) × Unit) × (Bool × Unit)) :=
    ((Zc N c1 n2).bind fun o3 =>
 (some ((o3.1.1, ()), (o3.2.1 == 0, ()))))
noncomputable def Zbw (N : Nat) (c1 : List Int × Int × Int) (list2 : List Int) : Option (((List Int × Int × Int) × Unit) × (Int × Unit)) :=
    ((Zc N c1 (ilen list2)).bind fun o3 =>
 (bif inb o3.2.1 (List.length list2) then
 (some ((o3.1.1, ()), (List.getD list2 (Int.toNat o3.2.1) 0, ()))) else none))
noncomputable def Za5 {R : Type} (N : Nat) (l2 : List Int) (K0 : Option R) (K1 : Int → Bool → Option R) : Nat → Int → Option R
  | 0, _ => none
  | n + 1, i3 =>
    (bif decide (i3 < (ilen l2)) then
 (bif inb i3 (List.length l2) then
 ((Zcu N (List.getD l2 (Int.toNat i3) 0)).bind fun o7 =>
 (bif !o7.2.1 then
 K0
 else
 (Za5 N l2 K0 K1 n (iadd .i64 i3 1)))) else none)
 else
 (K1 i3 (decide (i3 < (ilen l2)))))
noncomputable def Zbe (N : Nat) (l1 : List Int) : Option (Unit × (Bool × Unit)) :=
    (bif (ilen l1) != 8 then
 (some ((), (false, ())))
 else
 (Za5 N l1
 (some ((), (false, ())))
 (fun i8 t9 =>
   (some ((), (true, ()))))
  N 0))
noncomputable def Zaa (N : Nat) (i1 : Int) : Option (Unit × (Bool × Unit)) :=
    ((Zd N i1 0 7).bind fun o2 =>
 (some ((), (o2.2.1, ()))))
noncomputable def Za6 {R : Type} (N : Nat) (l2 : List (Int × Int)) (K0 : Option R) (K1 : Int → Bool → Option R) : Nat → Int → Option R
  | 0, _ => none
  | n + 1, i3 =>
    (bif decide (i3 < (ilen l2)) then
 (bif inb i3 (List.length l2) then
 ((Zaa N (List.getD l2 (Int.toNat i3) (0, 0)).1).bind fun o8 =>
 (bif !o8.2.1 then
 K0
 else
 (bif inb i3 (List.length l2) then
 ((Zcu N (List.getD l2 (Int.toNat i3) (0, 0)).2).bind fun o9 =>
 (bif !o9.2.1 then
 K0
 else
 (Za6 N l2 K0 K1 n (iadd .i64 i3 1)))) else none))) else none)
 else
 (K1 i3 (decide (i3 < (ilen l2)))))
noncomputable def Zam (N : Nat) (l1 : List (Int × Int)) : Option (Unit × (Bool × Unit)) :=
    (bif decide ((ilen l1) > 300) then
 (some ((), (false, ())))
 else
 (Za6 N l1
 (some ((), (false, ())))
 (fun i10 t11 =>
   (some ((), (true, ()))))
  N 0))
noncomputable def Zd3 {R : Type} (N : Nat) (log7 : List (Int × Int)) (n8 : Int) (K0 : Int → Bool → (List Int) → Option R) : Nat → Int → (List Int) → Option R
  | 0, _, _ => none
  | n + 1, i9, l10 =>
    (bif decide (i9 ≥ n8) then
 (bif inb i9 (List.length log7) then
 (bif inb i9 (List.length log7) then
 (bif inb (List.getD log7 (Int.toNat i9) (0, 0)).1 (List.length l10) then
 (Zd3 N log7 n8 K0 n (isub .i64 i9 1) (List.set l10 (Int.toNat (List.getD log7 (Int.toNat i9) (0, 0)).1) (List.getD log7 (Int.toNat i9) (0, 0)).2)) else none) else none) else none)
 else
 (K0 i9 (decide (i9 ≥ n8)) l10))
noncomputable def Zae {R : Type} (N : Nat) (l3 : List Int) (n4 : Int) (K0 : Option R) (K1 : Int → Bool → Option R) : Nat → Int → Option R
  | 0, _ => none
  | n + 1, t7 =>
    (bif decide (t7 < (ilen l3)) then
 (bif inb t7 (List.length l3) then
 ((Zbv N (List.getD l3 (Int.toNat t7) 0)).bind fun o12 =>
 (bif !o12.2.1 then
 K0
 else
 (Zae N l3 n4 K0 K1 n (iadd .i64 t7 1)))) else none)
 else
 (K1 t7 (decide (t7 < (ilen l3)))))
noncomputable def Zaf (N : Nat) (l1 : List Int) (n2 : Int) : Option (Unit × (Bool × Unit)) :=
    (Zae N l1 n2
 (some ((), (false, ())))
 (fun t13 t14 =>
   (some ((), ((ilen l1) == n2, ()))))
  N 0)
noncomputable def Zab (N : Nat) (i1 : Int) : Option (Unit × (Bool × Unit)) :=
    ((Zy N i1 0 7).bind fun o2 =>
 (some ((), (o2.2.1, ()))))
noncomputable def Za7 {R : Type} (N : Nat) (l2 : List (Int × Int)) (K0 : Option R) (K1 : Int → Bool → Option R) : Nat → Int → Option R
  | 0, _ => none
  | n + 1, t5 =>
    (bif decide (t5 < (ilen l2)) then
 (bif inb t5 (List.length l2) then
 ((Zab N (List.getD l2 (Int.toNat t5) (0, 0)).1).bind fun o12 =>
 (bif !o12.2.1 then
 K0
 else
 ((Zbv N (List.getD l2 (Int.toNat t5) (0, 0)).2).bind fun o13 =>
 (bif !o13.2.1 then
 K0
 else
 (Za7 N l2 K0 K1 n (iadd .i64 t5 1)))))) else none)
 else
 (K1 t5 (decide (t5 < (ilen l2)))))
noncomputable def Zay (N : Nat) (l1 : List (Int × Int)) : Option (Unit × (Bool × Unit)) :=
    (Za7 N l1
 (some ((), (false, ())))
 (fun t14 t15 =>
   (some ((), (decide ((ilen l1) ≤ 300), ()))))
  N 0)
noncomputable def Zc1 (N : Nat) (l1 : List Int) : Option (Unit × ((List Int) × Unit)) :=
    (bif room (List.length l1) then
 (some ((), (l1, ()))) else none)
noncomputable def Zd4 {R : Type} (N : Nat) (log7 : List (Int × Int)) (n8 : Int) (K0 : Int → Bool → (List Int) → Option R) : Nat → Int → (List Int) → Option R
  | 0, _, _ => none
  | n + 1, i9, l10 =>
    (bif decide (i9 ≥ n8) then
 (bif inb i9 (List.length log7) then
 (bif inb i9 (List.length log7) then
 (bif inb (List.getD log7 (Int.toNat i9) (0, 0)).1 (List.length l10) then
 (Zd4 N log7 n8 K0 n (isub .i64 i9 1) (List.set l10 (Int.toNat (List.getD log7 (Int.toNat i9) (0, 0)).1) (List.getD log7 (Int.toNat i9) (0, 0)).2)) else none) else none) else none)
 else
 (K0 i9 (decide (i9 ≥ n8)) l10))
noncomputable def Zcn (N : Nat) (c1 : List Int × Int × Int) : Option (((List Int × Int × Int) × Unit) × (Int × Unit)) :=
    ((Zp N c1 6).bind fun o2 =>
 (bif o2.2.1 then
 ((Zbw N o2.1.1 ([0, 65535, 65534, 256])).bind fun o3 =>
 (some ((o3.1.1, ()), (o3.2.1, ()))))
 else
 ((Zc N o2.1.1 9).bind fun o4 =>
 (some ((o4.1.1, ()), (o4.2.1, ()))))))
noncomputable def Za (N : Nat) (i1 : Int) : Option (Unit × (Bool × Unit)) :=
    ((Zd N i1 0 3).bind fun o2 =>
 (some ((), (o2.2.1, ()))))
noncomputable def Zj (N : Nat) (o1 : Int × Int × Int × Int) : Option (Unit × (Bool × Unit)) :=
    (bif o1.1 == 1 then
 ((Za N o1.2.1).bind fun o2 =>
 (bif o2.2.1 then
 ((Zcu N o1.2.2.1).bind fun o3 =>
 (bif o3.2.1 then
 (some ((), (o1.2.2.2 == 0, ())))
 else
 (some ((), (false, ())))))
 else
 (some ((), (false, ())))))
 else
 (bif o1.1 == 2 then
 (bif o1.1 == 2 then
 ((Za N o1.2.1).bind fun o4 =>
 (bif o4.2.1 then
 ((Za N o1.2.2.1).bind fun o5 =>
 (bif o5.2.1 then
 ((Za N o1.2.2.2).bind fun o6 =>
 (some ((), (o6.2.1, ()))))
 else
 (some ((), (false, ())))))
 else
 (some ((), (false, ())))))
 else
 (bif o1.1 == 5 then
 ((Za N o1.2.1).bind fun o7 =>
 (bif o7.2.1 then
 ((Zaa N o1.2.2.1).bind fun o8 =>
 (bif o8.2.1 then
 (some ((), (o1.2.2.2 == 0, ())))
 else
 (some ((), (false, ())))))
 else
 (some ((), (false, ())))))
 else
 (bif o1.1 == 6 then
 ((Zaa N o1.2.1).bind fun o9 =>
 (bif o9.2.1 then
 ((Za N o1.2.2.1).bind fun o10 =>
 (bif o10.2.1 then
 (some ((), (o1.2.2.2 == 0, ())))
 else
 (some ((), (false, ())))))
 else
 (some ((), (false, ())))))
 else
 (bif o1.1 == 7 then
 ((Za N o1.2.1).bind fun o11 =>
 (bif o11.2.1 then
 ((Zd N o1.2.2.1 1 20).bind fun o12 =>
 (bif o12.2.1 then
 (some ((), (o1.2.2.2 == 0, ())))
 else
 (some ((), (false, ())))))
 else
 (some ((), (false, ())))))
 else
 (bif o1.1 == 8 then
 (bif o1.1 == 8 then
 ((Za N o1.2.1).bind fun o13 =>
 (bif o13.2.1 then
 (bif o1.2.2.1 == 0 then
 (some ((), (o1.2.2.2 == 0, ())))
 else
 (some ((), (false, ()))))
 else
 (some ((), (false, ())))))
 else
 (bif o1.1 == 9 then
 (bif o1.1 == 9 then
 (bif o1.2.1 == 0 then
 (bif o1.2.2.1 == 0 then
 (some ((), (o1.2.2.2 == 0, ())))
 else
 (some ((), (false, ()))))
 else
 (some ((), (false, ()))))
 else
 (bif o1.1 == 12 then
 ((Zd N o1.2.1 0 7).bind fun o14 =>
 (bif o14.2.1 then
 ((Za N o1.2.2.1).bind fun o15 =>
 (bif o15.2.1 then
 ((Za N o1.2.2.2).bind fun o16 =>
 (some ((), (o16.2.1, ()))))
 else
 (some ((), (false, ())))))
 else
 (some ((), (false, ())))))
 else
 (bif o1.1 == 13 then
 ((Za N o1.2.1).bind fun o17 =>
 (bif o17.2.1 then
 ((Zd N o1.2.2.1 0 7).bind fun o18 =>
 (bif o18.2.1 then
 (some ((), (o1.2.2.2 == 0, ())))
 else
 (some ((), (false, ())))))
 else
 (some ((), (false, ())))))
 else
 (bif o1.1 == 14 then
 ((Zd N o1.2.1 0 7).bind fun o19 =>
 (bif o19.2.1 then
 ((Za N o1.2.2.1).bind fun o20 =>
 (bif o20.2.1 then
 (some ((), (o1.2.2.2 == 0, ())))
 else
 (some ((), (false, ())))))
 else
 (some ((), (false, ())))))
 else
 (some ((), (false, ())))))))
 else
 (bif o1.1 == 10 then
 (bif o1.1 == 10 then
 (bif o1.2.1 == 0 then
 (bif o1.2.2.1 == 0 then
 (some ((), (o1.2.2.2 == 0, ())))
 else
 (some ((), (false, ()))))
 else
 (some ((), (false, ()))))
 else
 (bif o1.1 == 12 then
 ((Zd N o1.2.1 0 7).bind fun o21 =>
 (bif o21.2.1 then
 ((Za N o1.2.2.1).bind fun o22 =>
 (bif o22.2.1 then
 ((Za N o1.2.2.2).bind fun o23 =>
 (some ((), (o23.2.1, ()))))
 else
 (some ((), (false, ())))))
 else
 (some ((), (false, ())))))
 else
 (bif o1.1 == 13 then
 ((Za N o1.2.1).bind fun o24 =>
 (bif o24.2.1 then
 ((Zd N o1.2.2.1 0 7).bind fun o25 =>
 (bif o25.2.1 then
 (some ((), (o1.2.2.2 == 0, ())))
 else
 (some ((), (false, ())))))
 else
 (some ((), (false, ())))))
 else
 (bif o1.1 == 14 then
 ((Zd N o1.2.1 0 7).bind fun o26 =>
 (bif o26.2.1 then
 ((Za N o1.2.2.1).bind fun o27 =>
 (bif o27.2.1 then
 (some ((), (o1.2.2.2 == 0, ())))
 else
 (some ((), (false, ())))))
 else
 (some ((), (false, ())))))
 else
 (some ((), (false, ())))))))
 else
 (bif o1.1 == 11 then
 (bif o1.2.1 == 0 then
 (bif o1.2.2.1 == 0 then
 (some ((), (o1.2.2.2 == 0, ())))
 else
 (some ((), (false, ()))))
 else
 (some ((), (false, ()))))
 else
 (bif o1.1 == 12 then
 ((Zd N o1.2.1 0 7).bind fun o28 =>
 (bif o28.2.1 then
 ((Za N o1.2.2.1).bind fun o29 =>
 (bif o29.2.1 then
 ((Za N o1.2.2.2).bind fun o30 =>
 (some ((), (o30.2.1, ()))))
 else
 (some ((), (false, ())))))
 else
 (some ((), (false, ())))))
 else
 (bif o1.1 == 13 then
 ((Za N o1.2.1).bind fun o31 =>
 (bif o31.2.1 then
 ((Zd N o1.2.2.1 0 7).bind fun o32 =>
 (bif o32.2.1 then
 (some ((), (o1.2.2.2 == 0, ())))
 else
 (some ((), (false, ())))))
 else
 (some ((), (false, ())))))
 else
 (bif o1.1 == 14 then
 ((Zd N o1.2.1 0 7).bind fun o33 =>
 (bif o33.2.1 then
 ((Za N o1.2.2.1).bind fun o34 =>
 (bif o34.2.1 then
 (some ((), (o1.2.2.2 == 0, ())))
 else
 (some ((), (false, ())))))
 else
 (some ((), (false, ())))))
 else
 (some ((), (false, ()))))))))))
 else
 (bif o1.1 == 15 then
 (bif o1.1 == 15 then
 ((Za N o1.2.1).bind fun o35 =>
 (bif o35.2.1 then
 (bif o1.2.2.1 == 0 then
 (some ((), (o1.2.2.2 == 0, ())))
 else
 (some ((), (false, ()))))
 else
 (some ((), (false, ())))))
 else
 (bif o1.1 == 9 then
 (bif o1.1 == 9 then
 (bif o1.2.1 == 0 then
 (bif o1.2.2.1 == 0 then
 (some ((), (o1.2.2.2 == 0, ())))
 else
 (some ((), (false, ()))))
 else
 (some ((), (false, ()))))
 else
 (bif o1.1 == 12 then
 ((Zd N o1.2.1 0 7).bind fun o36 =>
 (bif o36.2.1 then
 ((Za N o1.2.2.1).bind fun o37 =>
 (bif o37.2.1 then
 ((Za N o1.2.2.2).bind fun o38 =>
 (some ((), (o38.2.1, ()))))
 else
 (some ((), (false, ())))))
 else
 (some ((), (false, ())))))
 else
 (bif o1.1 == 13 then
 ((Za N o1.2.1).bind fun o39 =>
 (bif o39.2.1 then
 ((Zd N o1.2.2.1 0 7).bind fun o40 =>
 (bif o40.2.1 then
 (some ((), (o1.2.2.2 == 0, ())))
 else
 (some ((), (false, ())))))
 else
 (some ((), (false, ())))))
 else
 (bif o1.1 == 14 then
 ((Zd N o1.2.1 0 7).bind fun o41 =>
 (bif o41.2.1 then
 ((Za N o1.2.2.1).bind fun o42 =>
 (bif o42.2.1 then
 (some ((), (o1.2.2.2 == 0, ())))
 else
 (some ((), (false, ())))))
 else
 (some ((), (false, ())))))
 else
 (some ((), (false, ())))))))
 else
 (bif o1.1 == 10 then
 (bif o1.1 == 10 then
 (bif o1.2.1 == 0 then
 (bif o1.2.2.1 == 0 then
 (some ((), (o1.2.2.2 == 0, ())))
 else
 (some ((), (false, ()))))
 else
 (some ((), (false, ()))))
 else
 (bif o1.1 == 12 then
 ((Zd N o1.2.1 0 7).bind fun o43 =>
 (bif o43.2.1 then
 ((Za N o1.2.2.1).bind fun o44 =>
 (bif o44.2.1 then
 ((Za N o1.2.2.2).bind fun o45 =>
 (some ((), (o45.2.1, ()))))
 else
 (some ((), (false, ())))))
 else
 (some ((), (false, ())))))
 else
 (bif o1.1 == 13 then
 ((Za N o1.2.1).bind fun o46 =>
 (bif o46.2.1 then
 ((Zd N o1.2.2.1 0 7).bind fun o47 =>
 (bif o47.2.1 then
 (some ((), (o1.2.2.2 == 0, ())))
 else
 (some ((), (false, ())))))
 else
 (some ((), (false, ())))))
 else
 (bif o1.1 == 14 then
 ((Zd N o1.2.1 0 7).bind fun o48 =>
 (bif o48.2.1 then
 ((Za N o1.2.2.1).bind fun o49 =>
 (bif o49.2.1 then
 (some ((), (o1.2.2.2 == 0, ())))
 else
 (some ((), (false, ())))))
 else
 (some ((), (false, ())))))
 else
 (some ((), (false, ())))))))
 else
 (bif o1.1 == 11 then
 (bif o1.2.1 == 0 then
 (bif o1.2.2.1 == 0 then
 (some ((), (o1.2.2.2 == 0, ())))
 else
 (some ((), (false, ()))))
 else
 (some ((), (false, ()))))
 else
 (bif o1.1 == 12 then
 ((Zd N o1.2.1 0 7).bind fun o50 =>
 (bif o50.2.1 then
 ((Za N o1.2.2.1).bind fun o51 =>
 (bif o51.2.1 then
 ((Za N o1.2.2.2).bind fun o52 =>
 (some ((), (o52.2.1, ()))))
 else
 (some ((), (false, ())))))
 else
 (some ((), (false, ())))))
 else
 (bif o1.1 == 13 then
 ((Za N o1.2.1).bind fun o53 =>
 (bif o53.2.1 then
 ((Zd N o1.2.2.1 0 7).bind fun o54 =>
 (bif o54.2.1 then
 (some ((), (o1.2.2.2 == 0, ())))
 else
 (some ((), (false, ())))))
 else
 (some ((), (false, ())))))
 else
 (bif o1.1 == 14 then
 ((Zd N o1.2.1 0 7).bind fun o55 =>
 (bif o55.2.1 then
 ((Za N o1.2.2.1).bind fun o56 =>
 (bif o56.2.1 then
 (some ((), (o1.2.2.2 == 0, ())))
 else
 (some ((), (false, ())))))
 else
 (some ((), (false, ())))))
 else
 (some ((), (false, ()))))))))))
 else
 (bif o1.1 == 16 then
 ((Za N o1.2.1).bind fun o57 =>
 (bif o57.2.1 then
 (bif o1.2.2.1 == 0 then
 (some ((), (o1.2.2.2 == 0, ())))
 else
 (some ((), (false, ()))))
 else
 (some ((), (false, ())))))
 else
 (bif o1.1 == 9 then
 (bif o1.1 == 9 then
 (bif o1.2.1 == 0 then
 (bif o1.2.2.1 == 0 then
 (some ((), (o1.2.2.2 == 0, ())))
 else
 (some ((), (false, ()))))
 else
 (some ((), (false, ()))))
 else
 (bif o1.1 == 12 then
 ((Zd N o1.2.1 0 7).bind fun o58 =>
 (bif o58.2.1 then
 ((Za N o1.2.2.1).bind fun o59 =>
 (bif o59.2.1 then
 ((Za N o1.2.2.2).bind fun o60 =>
 (some ((), (o60.2.1, ()))))
 else
 (some ((), (false, ())))))
 else
 (some ((), (false, ())))))
 else
 (bif o1.1 == 13 then
 ((Za N o1.2.1).bind fun o61 =>
 (bif o61.2.1 then
 ((Zd N o1.2.2.1 0 7).bind fun o62 =>
 (bif o62.2.1 then
 (some ((), (o1.2.2.2 == 0, ())))
 else
 (some ((), (false, ())))))
 else
 (some ((), (false, ())))))
 else
 (bif o1.1 == 14 then
 ((Zd N o1.2.1 0 7).bind fun o63 =>
 (bif o63.2.1 then
 ((Za N o1.2.2.1).bind fun o64 =>
 (bif o64.2.1 then
 (some ((), (o1.2.2.2 == 0, ())))
 else
 (some ((), (false, ())))))
 else
 (some ((), (false, ())))))
 else
 (some ((), (false, ())))))))
 else
 (bif o1.1 == 10 then
 (bif o1.1 == 10 then
 (bif o1.2.1 == 0 then
 (bif o1.2.2.1 == 0 then
 (some ((), (o1.2.2.2 == 0, ())))
 else
 (some ((), (false, ()))))
 else
 (some ((), (false, ()))))
 else
 (bif o1.1 == 12 then
 ((Zd N o1.2.1 0 7).bind fun o65 =>
 (bif o65.2.1 then
 ((Za N o1.2.2.1).bind fun o66 =>
 (bif o66.2.1 then
 ((Za N o1.2.2.2).bind fun o67 =>
 (some ((), (o67.2.1, ()))))
 else
 (some ((), (false, ())))))
 else
 (some ((), (false, ())))))
 else
 (bif o1.1 == 13 then
 ((Za N o1.2.1).bind fun o68 =>
 (bif o68.2.1 then
 ((Zd N o1.2.2.1 0 7).bind fun o69 =>
 (bif o69.2.1 then
 (some ((), (o1.2.2.2 == 0, ())))
 else
 (some ((), (false, ())))))
 else
 (some ((), (false, ())))))
 else
 (bif o1.1 == 14 then
 ((Zd N o1.2.1 0 7).bind fun o70 =>
 (bif o70.2.1 then
 ((Za N o1.2.2.1).bind fun o71 =>
 (bif o71.2.1 then
 (some ((), (o1.2.2.2 == 0, ())))
 else
 (some ((), (false, ())))))
 else
 (some ((), (false, ())))))
 else
 (some ((), (false, ())))))))
 else
 (bif o1.1 == 11 then
 (bif o1.2.1 == 0 then
 (bif o1.2.2.1 == 0 then
 (some ((), (o1.2.2.2 == 0, ())))
 else
 (some ((), (false, ()))))
 else
 (some ((), (false, ()))))
 else
 (bif o1.1 == 12 then
 ((Zd N o1.2.1 0 7).bind fun o72 =>
 (bif o72.2.1 then
 ((Za N o1.2.2.1).bind fun o73 =>
 (bif o73.2.1 then
 ((Za N o1.2.2.2).bind fun o74 =>
 (some ((), (o74.2.1, ()))))
 else
 (some ((), (false, ())))))
 else
 (some ((), (false, ())))))
 else
 (bif o1.1 == 13 then
 ((Za N o1.2.1).bind fun o75 =>
 (bif o75.2.1 then
 ((Zd N o1.2.2.1 0 7).bind fun o76 =>
 (bif o76.2.1 then
 (some ((), (o1.2.2.2 == 0, ())))
 else
 (some ((), (false, ())))))
 else
 (some ((), (false, ())))))
 else
 (bif o1.1 == 14 then
 ((Zd N o1.2.1 0 7).bind fun o77 =>
 (bif o77.2.1 then
 ((Za N o1.2.2.1).bind fun o78 =>
 (bif o78.2.1 then
 (some ((), (o1.2.2.2 == 0, ())))
 else
 (some ((), (false, ())))))
 else
 (some ((), (false, ())))))
 else
 (some ((), (false, ()))))))))))))))))
 else
 (bif o1.1 == 3 then
 (bif o1.1 == 3 then
 ((Za N o1.2.1).bind fun o79 =>
 (bif o79.2.1 then
 ((Za N o1.2.2.1).bind fun o80 =>
 (bif o80.2.1 then
 ((Za N o1.2.2.2).bind fun o81 =>
 (some ((), (o81.2.1, ()))))
 else
 (some ((), (false, ())))))
 else
 (some ((), (false, ())))))
 else
 (bif o1.1 == 5 then
 ((Za N o1.2.1).bind fun o82 =>
 (bif o82.2.1 then
 ((Zaa N o1.2.2.1).bind fun o83 =>
 (bif o83.2.1 then
 (some ((), (o1.2.2.2 == 0, ())))
 else
 (some ((), (false, ())))))
 else
 (some ((), (false, ())))))
 else
 (bif o1.1 == 6 then
 ((Zaa N o1.2.1).bind fun o84 =>
 (bif o84.2.1 then
 ((Za N o1.2.2.1).bind fun o85 =>
 (bif o85.2.1 then
 (some ((), (o1.2.2.2 == 0, ())))
 else
 (some ((), (false, ())))))
 else
 (some ((), (false, ())))))
 else
 (bif o1.1 == 7 then
 ((Za N o1.2.1).bind fun o86 =>
 (bif o86.2.1 then
 ((Zd N o1.2.2.1 1 20).bind fun o87 =>
 (bif o87.2.1 then
 (some ((), (o1.2.2.2 == 0, ())))
 else
 (some ((), (false, ())))))
 else
 (some ((), (false, ())))))
 else
 (bif o1.1 == 8 then
 (bif o1.1 == 8 then
 ((Za N o1.2.1).bind fun o88 =>
 (bif o88.2.1 then
 (bif o1.2.2.1 == 0 then
 (some ((), (o1.2.2.2 == 0, ())))
 else
 (some ((), (false, ()))))
 else
 (some ((), (false, ())))))
 else
 (bif o1.1 == 9 then
 (bif o1.1 == 9 then
 (bif o1.2.1 == 0 then
 (bif o1.2.2.1 == 0 then
 (some ((), (o1.2.2.2 == 0, ())))
 else
 (some ((), (false, ()))))
 else
 (some ((), (false, ()))))
 else
 (bif o1.1 == 12 then
 ((Zd N o1.2.1 0 7).bind fun o89 =>
 (bif o89.2.1 then
 ((Za N o1.2.2.1).bind fun o90 =>
 (bif o90.2.1 then
 ((Za N o1.2.2.2).bind fun o91 =>
 (some ((), (o91.2.1, ()))))
 else
 (some ((), (false, ())))))
 else
 (some ((), (false, ())))))
 else
 (bif o1.1 == 13 then
 ((Za N o1.2.1).bind fun o92 =>
 (bif o92.2.1 then
 ((Zd N o1.2.2.1 0 7).bind fun o93 =>
 (bif o93.2.1 then
 (some ((), (o1.2.2.2 == 0, ())))
 else
 (some ((), (false, ())))))
 else
 (some ((), (false, ())))))
 else
 (bif o1.1 == 14 then
 ((Zd N o1.2.1 0 7).bind fun o94 =>
 (bif o94.2.1 then
 ((Za N o1.2.2.1).bind fun o95 =>
 (bif o95.2.1 then
 (some ((), (o1.2.2.2 == 0, ())))
 else
 (some ((), (false, ())))))
 else
 (some ((), (false, ())))))
 else
 (some ((), (false, ())))))))
 else
 (bif o1.1 == 10 then
 (bif o1.1 == 10 then
 (bif o1.2.1 == 0 then
 (bif o1.2.2.1 == 0 then
 (some ((), (o1.2.2.2 == 0, ())))
 else
 (some ((), (false, ()))))
 else
 (some ((), (false, ()))))
 else
 (bif o1.1 == 12 then
 ((Zd N o1.2.1 0 7).bind fun o96 =>
 (bif o96.2.1 then
 ((Za N o1.2.2.1).bind fun o97 =>
 (bif o97.2.1 then
 ((Za N o1.2.2.2).bind fun o98 =>
 (some ((), (o98.2.1, ()))))
 else
 (some ((), (false, ())))))
 else
 (some ((), (false, ())))))
 else
 (bif o1.1 == 13 then
 ((Za N o1.2.1).bind fun o99 =>
 (bif o99.2.1 then
 ((Zd N o1.2.2.1 0 7).bind fun o100 =>
 (bif o100.2.1 then
 (some ((), (o1.2.2.2 == 0, ())))
 else
 (some ((), (false, ())))))
 else
 (some ((), (false, ())))))
 else
 (bif o1.1 == 14 then
 ((Zd N o1.2.1 0 7).bind fun o101 =>
 (bif o101.2.1 then
 ((Za N o1.2.2.1).bind fun o102 =>
 (bif o102.2.1 then
 (some ((), (o1.2.2.2 == 0, ())))
 else
 (some ((), (false, ())))))
 else
 (some ((), (false, ())))))
 else
 (some ((), (false, ())))))))
 else
 (bif o1.1 == 11 then
 (bif o1.2.1 == 0 then
 (bif o1.2.2.1 == 0 then
 (some ((), (o1.2.2.2 == 0, ())))
 else
 (some ((), (false, ()))))
 else
 (some ((), (false, ()))))
 else
 (bif o1.1 == 12 then
 ((Zd N o1.2.1 0 7).bind fun o103 =>
 (bif o103.2.1 then
 ((Za N o1.2.2.1).bind fun o104 =>
 (bif o104.2.1 then
 ((Za N o1.2.2.2).bind fun o105 =>
 (some ((), (o105.2.1, ()))))
 else
 (some ((), (false, ())))))
 else
 (some ((), (false, ())))))
 else
 (bif o1.1 == 13 then
 ((Za N o1.2.1).bind fun o106 =>
 (bif o106.2.1 then
 ((Zd N o1.2.2.1 0 7).bind fun o107 =>
 (bif o107.2.1 then
 (some ((), (o1.2.2.2 == 0, ())))
 else
 (some ((), (false, ())))))
 else
 (some ((), (false, ())))))
 else
 (bif o1.1 == 14 then
 ((Zd N o1.2.1 0 7).bind fun o108 =>
 (bif o108.2.1 then
 ((Za N o1.2.2.1).bind fun o109 =>
 (bif o109.2.1 then
 (some ((), (o1.2.2.2 == 0, ())))
 else
 (some ((), (false, ())))))
 else
 (some ((), (false, ())))))
 else
 (some ((), (false, ()))))))))))
 else
 (bif o1.1 == 15 then
 (bif o1.1 == 15 then
 ((Za N o1.2.1).bind fun o110 =>
 (bif o110.2.1 then
 (bif o1.2.2.1 == 0 then
 (some ((), (o1.2.2.2 == 0, ())))
 else
 (some ((), (false, ()))))
 else
 (some ((), (false, ())))))
 else
 (bif o1.1 == 9 then
 (bif o1.1 == 9 then
 (bif o1.2.1 == 0 then
 (bif o1.2.2.1 == 0 then
 (some ((), (o1.2.2.2 == 0, ())))
 else
 (some ((), (false, ()))))
 else
 (some ((), (false, ()))))
 else
 (bif o1.1 == 12 then
 ((Zd N o1.2.1 0 7).bind fun o111 =>
 (bif o111.2.1 then
 ((Za N o1.2.2.1).bind fun o112 =>
 (bif o112.2.1 then
 ((Za N o1.2.2.2).bind fun o113 =>
 (some ((), (o113.2.1, ()))))
 else
 (some ((), (false, ())))))
 else
 (some ((), (false, ())))))
 else
 (bif o1.1 == 13 then
 ((Za N o1.2.1).bind fun o114 =>
 (bif o114.2.1 then
 ((Zd N o1.2.2.1 0 7).bind fun o115 =>
 (bif o115.2.1 then
 (some ((), (o1.2.2.2 == 0, ())))
 else
 (some ((), (false, ())))))
 else
 (some ((), (false, ())))))
 else
 (bif o1.1 == 14 then
 ((Zd N o1.2.1 0 7).bind fun o116 =>
 (bif o116.2.1 then
 ((Za N o1.2.2.1).bind fun o117 =>
 (bif o117.2.1 then
 (some ((), (o1.2.2.2 == 0, ())))
 else
 (some ((), (false, ())))))
 else
 (some ((), (false, ())))))
 else
 (some ((), (false, ())))))))
 else
 (bif o1.1 == 10 then
 (bif o1.1 == 10 then
 (bif o1.2.1 == 0 then
 (bif o1.2.2.1 == 0 then
 (some ((), (o1.2.2.2 == 0, ())))
 else
 (some ((), (false, ()))))
 else
 (some ((), (false, ()))))
 else
 (bif o1.1 == 12 then
 ((Zd N o1.2.1 0 7).bind fun o118 =>
 (bif o118.2.1 then
 ((Za N o1.2.2.1).bind fun o119 =>
 (bif o119.2.1 then
 ((Za N o1.2.2.2).bind fun o120 =>
 (some ((), (o120.2.1, ()))))
 else
 (some ((), (false, ())))))
 else
 (some ((), (false, ())))))
 else
 (bif o1.1 == 13 then
 ((Za N o1.2.1).bind fun o121 =>
 (bif o121.2.1 then
 ((Zd N o1.2.2.1 0 7).bind fun o122 =>
 (bif o122.2.1 then
 (some ((), (o1.2.2.2 == 0, ())))
 else
 (some ((), (false, ())))))
 else
 (some ((), (false, ())))))
 else
 (bif o1.1 == 14 then
 ((Zd N o1.2.1 0 7).bind fun o123 =>
 (bif o123.2.1 then
 ((Za N o1.2.2.1).bind fun o124 =>
 (bif o124.2.1 then
 (some ((), (o1.2.2.2 == 0, ())))
 else
 (some ((), (false, ())))))
 else
 (some ((), (false, ())))))
 else
 (some ((), (false, ())))))))
 else
 (bif o1.1 == 11 then
 (bif o1.2.1 == 0 then
 (bif o1.2.2.1 == 0 then
 (some ((), (o1.2.2.2 == 0, ())))
 else
 (some ((), (false, ()))))
 else
 (some ((), (false, ()))))
 else
 (bif o1.1 == 12 then
 ((Zd N o1.2.1 0 7).bind fun o125 =>
 (bif o125.2.1 then
 ((Za N o1.2.2.1).bind fun o126 =>
 (bif o126.2.1 then
 ((Za N o1.2.2.2).bind fun o127 =>
 (some ((), (o127.2.1, ()))))
 else
 (some ((), (false, ())))))
 else
 (some ((), (false, ())))))
 else
 (bif o1.1 == 13 then
 ((Za N o1.2.1).bind fun o128 =>
 (bif o128.2.1 then
 ((Zd N o1.2.2.1 0 7).bind fun o129 =>
 (bif o129.2.1 then
 (some ((), (o1.2.2.2 == 0, ())))
 else
 (some ((), (false, ())))))
 else
 (some ((), (false, ())))))
 else
 (bif o1.1 == 14 then
 ((Zd N o1.2.1 0 7).bind fun o130 =>
 (bif o130.2.1 then
 ((Za N o1.2.2.1).bind fun o131 =>
 (bif o131.2.1 then
 (some ((), (o1.2.2.2 == 0, ())))
 else
 (some ((), (false, ())))))
 else
 (some ((), (false, ())))))
 else
 (some ((), (false, ()))))))))))
 else
 (bif o1.1 == 16 then
 ((Za N o1.2.1).bind fun o132 =>
 (bif o132.2.1 then
 (bif o1.2.2.1 == 0 then
 (some ((), (o1.2.2.2 == 0, ())))
 else
 (some ((), (false, ()))))
 else
 (some ((), (false, ())))))
 else
 (bif o1.1 == 9 then
 (bif o1.1 == 9 then
 (bif o1.2.1 == 0 then
 (bif o1.2.2.1 == 0 then
 (some ((), (o1.2.2.2 == 0, ())))
 else
 (some ((), (false, ()))))
 else
 (some ((), (false, ()))))
 else
 (bif o1.1 == 12 then
 ((Zd N o1.2.1 0 7).bind fun o133 =>
 (bif o133.2.1 then
 ((Za N o1.2.2.1).bind fun o134 =>
 (bif o134.2.1 then
 ((Za N o1.2.2.2).bind fun o135 =>
 (some ((), (o135.2.1, ()))))
 else
 (some ((), (false, ())))))
 else
 (some ((), (false, ())))))
 else
 (bif o1.1 == 13 then
 ((Za N o1.2.1).bind fun o136 =>
 (bif o136.2.1 then
 ((Zd N o1.2.2.1 0 7).bind fun o137 =>
 (bif o137.2.1 then
 (some ((), (o1.2.2.2 == 0, ())))
 else
 (some ((), (false, ())))))
 else
 (some ((), (false, ())))))
 else
 (bif o1.1 == 14 then
 ((Zd N o1.2.1 0 7).bind fun o138 =>
 (bif o138.2.1 then
 ((Za N o1.2.2.1).bind fun o139 =>
 (bif o139.2.1 then
 (some ((), (o1.2.2.2 == 0, ())))
 else
 (some ((), (false, ())))))
 else
 (some ((), (false, ())))))
 else
 (some ((), (false, ())))))))
 else
 (bif o1.1 == 10 then
 (bif o1.1 == 10 then
 (bif o1.2.1 == 0 then
 (bif o1.2.2.1 == 0 then
 (some ((), (o1.2.2.2 == 0, ())))
 else
 (some ((), (false, ()))))
 else
 (some ((), (false, ()))))
 else
 (bif o1.1 == 12 then
 ((Zd N o1.2.1 0 7).bind fun o140 =>
 (bif o140.2.1 then
 ((Za N o1.2.2.1).bind fun o141 =>
 (bif o141.2.1 then
 ((Za N o1.2.2.2).bind fun o142 =>
 (some ((), (o142.2.1, ()))))
 else
 (some ((), (false, ())))))
 else
 (some ((), (false, ())))))
 else
 (bif o1.1 == 13 then
 ((Za N o1.2.1).bind fun o143 =>
 (bif o143.2.1 then
 ((Zd N o1.2.2.1 0 7).bind fun o144 =>
 (bif o144.2.1 then
 (some ((), (o1.2.2.2 == 0, ())))
 else
 (some ((), (false, ())))))
 else
 (some ((), (false, ())))))
 else
 (bif o1.1 == 14 then
 ((Zd N o1.2.1 0 7).bind fun o145 =>
 (bif o145.2.1 then
 ((Za N o1.2.2.1).bind fun o146 =>
 (bif o146.2.1 then
 (some ((), (o1.2.2.2 == 0, ())))
 else
 (some ((), (false, ())))))
 else
 (some ((), (false, ())))))
 else
 (some ((), (false, ())))))))
 else
 (bif o1.1 == 11 then
 (bif o1.2.1 == 0 then
 (bif o1.2.2.1 == 0 then
 (some ((), (o1.2.2.2 == 0, ())))
 else
 (some ((), (false, ()))))
 else
 (some ((), (false, ()))))
 else
 (bif o1.1 == 12 then
 ((Zd N o1.2.1 0 7).bind fun o147 =>
 (bif o147.2.1 then
 ((Za N o1.2.2.1).bind fun o148 =>
 (bif o148.2.1 then
 ((Za N o1.2.2.2).bind fun o149 =>
 (some ((), (o149.2.1, ()))))
 else
 (some ((), (false, ())))))
 else
 (some ((), (false, ())))))
 else
 (bif o1.1 == 13 then
 ((Za N o1.2.1).bind fun o150 =>
 (bif o150.2.1 then
 ((Zd N o1.2.2.1 0 7).bind fun o151 =>
 (bif o151.2.1 then
 (some ((), (o1.2.2.2 == 0, ())))
 else
 (some ((), (false, ())))))
 else
 (some ((), (false, ())))))
 else
 (bif o1.1 == 14 then
 ((Zd N o1.2.1 0 7).bind fun o152 =>
 (bif o152.2.1 then
 ((Za N o1.2.2.1).bind fun o153 =>
 (bif o153.2.1 then
 (some ((), (o1.2.2.2 == 0, ())))
 else
 (some ((), (false, ())))))
 else
 (some ((), (false, ())))))
 else
 (some ((), (false, ()))))))))))))))))
 else
 (bif o1.1 == 4 then
 ((Za N o1.2.1).bind fun o154 =>
 (bif o154.2.1 then
 ((Za N o1.2.2.1).bind fun o155 =>
 (bif o155.2.1 then
 ((Za N o1.2.2.2).bind fun o156 =>
 (some ((), (o156.2.1, ()))))
 else
 (some ((), (false, ())))))
 else
 (some ((), (false, ())))))
 else
 (bif o1.1 == 5 then
 ((Za N o1.2.1).bind fun o157 =>
 (bif o157.2.1 then
 ((Zaa N o1.2.2.1).bind fun o158 =>
 (bif o158.2.1 then
 (some ((), (o1.2.2.2 == 0, ())))
 else
 (some ((), (false, ())))))
 else
 (some ((), (false, ())))))
 else
 (bif o1.1 == 6 then
 ((Zaa N o1.2.1).bind fun o159 =>
 (bif o159.2.1 then
 ((Za N o1.2.2.1).bind fun o160 =>
 (bif o160.2.1 then
 (some ((), (o1.2.2.2 == 0, ())))
 else
 (some ((), (false, ())))))
 else
 (some ((), (false, ())))))
 else
 (bif o1.1 == 7 then
 ((Za N o1.2.1).bind fun o161 =>
 (bif o161.2.1 then
 ((Zd N o1.2.2.1 1 20).bind fun o162 =>
 (bif o162.2.1 then
 (some ((), (o1.2.2.2 == 0, ())))
 else
 (some ((), (false, ())))))
 else
 (some ((), (false, ())))))
 else
 (bif o1.1 == 8 then
 (bif o1.1 == 8 then
 ((Za N o1.2.1).bind fun o163 =>
 (bif o163.2.1 then
 (bif o1.2.2.1 == 0 then
 (some ((), (o1.2.2.2 == 0, ())))
 else
 (some ((), (false, ()))))
 else
 (some ((), (false, ())))))
 else
 (bif o1.1 == 9 then
 (bif o1.1 == 9 then
 (bif o1.2.1 == 0 then
 (bif o1.2.2.1 == 0 then
 (some ((), (o1.2.2.2 == 0, ())))
 else
 (some ((), (false, ()))))
 else
 (some ((), (false, ()))))
 else
 (bif o1.1 == 12 then
 ((Zd N o1.2.1 0 7).bind fun o164 =>
 (bif o164.2.1 then
 ((Za N o1.2.2.1).bind fun o165 =>
 (bif o165.2.1 then
 ((Za N o1.2.2.2).bind fun o166 =>
 (some ((), (o166.2.1, ()))))
 else
 (some ((), (false, ())))))
 else
 (some ((), (false, ())))))
 else
 (bif o1.1 == 13 then
 ((Za N o1.2.1).bind fun o167 =>
 (bif o167.2.1 then
 ((Zd N o1.2.2.1 0 7).bind fun o168 =>
 (bif o168.2.1 then
 (some ((), (o1.2.2.2 == 0, ())))
 else
 (some ((), (false, ())))))
 else
 (some ((), (false, ())))))
 else
 (bif o1.1 == 14 then
 ((Zd N o1.2.1 0 7).bind fun o169 =>
 (bif o169.2.1 then
 ((Za N o1.2.2.1).bind fun o170 =>
 (bif o170.2.1 then
 (some ((), (o1.2.2.2 == 0, ())))
 else
 (some ((), (false, ())))))
 else
 (some ((), (false, ())))))
 else
 (some ((), (false, ())))))))
 else
 (bif o1.1 == 10 then
 (bif o1.1 == 10 then
 (bif o1.2.1 == 0 then
 (bif o1.2.2.1 == 0 then
 (some ((), (o1.2.2.2 == 0, ())))
 else
 (some ((), (false, ()))))
 else
 (some ((), (false, ()))))
 else
 (bif o1.1 == 12 then
 ((Zd N o1.2.1 0 7).bind fun o171 =>
 (bif o171.2.1 then
 ((Za N o1.2.2.1).bind fun o172 =>
 (bif o172.2.1 then
 ((Za N o1.2.2.2).bind fun o173 =>
 (some ((), (o173.2.1, ()))))
 else
 (some ((), (false, ())))))
 else
 (some ((), (false, ())))))
 else
 (bif o1.1 == 13 then
 ((Za N o1.2.1).bind fun o174 =>
 (bif o174.2.1 then
 ((Zd N o1.2.2.1 0 7).bind fun o175 =>
 (bif o175.2.1 then
 (some ((), (o1.2.2.2 == 0, ())))
 else
 (some ((), (false, ())))))
 else
 (some ((), (false, ())))))
 else
 (bif o1.1 == 14 then
 ((Zd N o1.2.1 0 7).bind fun o176 =>
 (bif o176.2.1 then
 ((Za N o1.2.2.1).bind fun o177 =>
 (bif o177.2.1 then
 (some ((), (o1.2.2.2 == 0, ())))
 else
 (some ((), (false, ())))))
 else
 (some ((), (false, ())))))
 else
 (some ((), (false, ())))))))
 else
 (bif o1.1 == 11 then
 (bif o1.2.1 == 0 then
 (bif o1.2.2.1 == 0 then
 (some ((), (o1.2.2.2 == 0, ())))
 else
 (some ((), (false, ()))))
 else
 (some ((), (false, ()))))
 else
 (bif o1.1 == 12 then
 ((Zd N o1.2.1 0 7).bind fun o178 =>
 (bif o178.2.1 then
 ((Za N o1.2.2.1).bind fun o179 =>
 (bif o179.2.1 then
 ((Za N o1.2.2.2).bind fun o180 =>
 (some ((), (o180.2.1, ()))))
 else
 (some ((), (false, ())))))
 else
 (some ((), (false, ())))))
 else
 (bif o1.1 == 13 then
 ((Za N o1.2.1).bind fun o181 =>
 (bif o181.2.1 then
 ((Zd N o1.2.2.1 0 7).bind fun o182 =>
 (bif o182.2.1 then
 (some ((), (o1.2.2.2 == 0, ())))
 else
 (some ((), (false, ())))))
 else
 (some ((), (false, ())))))
 else
 (bif o1.1 == 14 then
 ((Zd N o1.2.1 0 7).bind fun o183 =>
 (bif o183.2.1 then
 ((Za N o1.2.2.1).bind fun o184 =>
 (bif o184.2.1 then
 (some ((), (o1.2.2.2 == 0, ())))
 else
 (some ((), (false, ())))))
 else
 (some ((), (false, ())))))
 else
 (some ((), (false, ()))))))))))
 else
 (bif o1.1 == 15 then
 (bif o1.1 == 15 then
 ((Za N o1.2.1).bind fun o185 =>
 (bif o185.2.1 then
 (bif o1.2.2.1 == 0 then
 (some ((), (o1.2.2.2 == 0, ())))
 else
 (some ((), (false, ()))))
 else
 (some ((), (false, ())))))
 else
 (bif o1.1 == 9 then
 (bif o1.1 == 9 then
 (bif o1.2.1 == 0 then
 (bif o1.2.2.1 == 0 then
 (some ((), (o1.2.2.2 == 0, ())))
 else
 (some ((), (false, ()))))
 else
 (some ((), (false, ()))))
 else
 (bif o1.1 == 12 then
 ((Zd N o1.2.1 0 7).bind fun o186 =>
 (bif o186.2.1 then
 ((Za N o1.2.2.1).bind fun o187 =>
 (bif o187.2.1 then
 ((Za N o1.2.2.2).bind fun o188 =>
 (some ((), (o188.2.1, ()))))
 else
 (some ((), (false, ())))))
 else
 (some ((), (false, ())))))
 else
 (bif o1.1 == 13 then
 ((Za N o1.2.1).bind fun o189 =>
 (bif o189.2.1 then
 ((Zd N o1.2.2.1 0 7).bind fun o190 =>
 (bif o190.2.1 then
 (some ((), (o1.2.2.2 == 0, ())))
 else
 (some ((), (false, ())))))
 else
 (some ((), (false, ())))))
 else
 (bif o1.1 == 14 then
 ((Zd N o1.2.1 0 7).bind fun o191 =>
 (bif o191.2.1 then
 ((Za N o1.2.2.1).bind fun o192 =>
 (bif o192.2.1 then
 (some ((), (o1.2.2.2 == 0, ())))
 else
 (some ((), (false, ())))))
 else
 (some ((), (false, ())))))
 else
 (some ((), (false, ())))))))
 else
 (bif o1.1 == 10 then
 (bif o1.1 == 10 then
 (bif o1.2.1 == 0 then
 (bif o1.2.2.1 == 0 then
 (some ((), (o1.2.2.2 == 0, ())))
 else
 (some ((), (false, ()))))
 else
 (some ((), (false, ()))))
 else
 (bif o1.1 == 12 then
 ((Zd N o1.2.1 0 7).bind fun o193 =>
 (bif o193.2.1 then
 ((Za N o1.2.2.1).bind fun o194 =>
 (bif o194.2.1 then
 ((Za N o1.2.2.2).bind fun o195 =>
 (some ((), (o195.2.1, ()))))
 else
 (some ((), (false, ())))))
 else
 (some ((), (false, ())))))
 else
 (bif o1.1 == 13 then
 ((Za N o1.2.1).bind fun o196 =>
 (bif o196.2.1 then
 ((Zd N o1.2.2.1 0 7).bind fun o197 =>
 (bif o197.2.1 then
 (some ((), (o1.2.2.2 == 0, ())))
 else
 (some ((), (false, ())))))
 else
 (some ((), (false, ())))))
 else
 (bif o1.1 == 14 then
 ((Zd N o1.2.1 0 7).bind fun o198 =>
 (bif o198.2.1 then
 ((Za N o1.2.2.1).bind fun o199 =>
 (bif o199.2.1 then
 (some ((), (o1.2.2.2 == 0, ())))
 else
 (some ((), (false, ())))))
 else
 (some ((), (false, ())))))
 else
 (some ((), (false, ())))))))
 else
 (bif o1.1 == 11 then
 (bif o1.2.1 == 0 then
 (bif o1.2.2.1 == 0 then
 (some ((), (o1.2.2.2 == 0, ())))
 else
 (some ((), (false, ()))))
 else
 (some ((), (false, ()))))
 else
 (bif o1.1 == 12 then
 ((Zd N o1.2.1 0 7).bind fun o200 =>
 (bif o200.2.1 then
 ((Za N o1.2.2.1).bind fun o201 =>
 (bif o201.2.1 then
 ((Za N o1.2.2.2).bind fun o202 =>
 (some ((), (o202.2.1, ()))))
 else
 (some ((), (false, ())))))
 else
 (some ((), (false, ())))))
 else
 (bif o1.1 == 13 then
 ((Za N o1.2.1).bind fun o203 =>
 (bif o203.2.1 then
 ((Zd N o1.2.2.1 0 7).bind fun o204 =>
 (bif o204.2.1 then
 (some ((), (o1.2.2.2 == 0, ())))
 else
 (some ((), (false, ())))))
 else
 (some ((), (false, ())))))
 else
 (bif o1.1 == 14 then
 ((Zd N o1.2.1 0 7).bind fun o205 =>
 (bif o205.2.1 then
 ((Za N o1.2.2.1).bind fun o206 =>
 (bif o206.2.1 then
 (some ((), (o1.2.2.2 == 0, ())))
 else
 (some ((), (false, ())))))
 else
 (some ((), (false, ())))))
 else
 (some ((), (false, ()))))))))))
 else
 (bif o1.1 == 16 then
 ((Za N o1.2.1).bind fun o207 =>
 (bif o207.2.1 then
 (bif o1.2.2.1 == 0 then
 (some ((), (o1.2.2.2 == 0, ())))
 else
 (some ((), (false, ()))))
 else
 (some ((), (false, ())))))
 else
 (bif o1.1 == 9 then
 (bif o1.1 == 9 then
 (bif o1.2.1 == 0 then
 (bif o1.2.2.1 == 0 then
 (some ((), (o1.2.2.2 == 0, ())))
 else
 (some ((), (false, ()))))
 else
 (some ((), (false, ()))))
 else
 (bif o1.1 == 12 then
 ((Zd N o1.2.1 0 7).bind fun o208 =>
 (bif o208.2.1 then
 ((Za N o1.2.2.1).bind fun o209 =>
 (bif o209.2.1 then
 ((Za N o1.2.2.2).bind fun o210 =>
 (some ((), (o210.2.1, ()))))
 else
 (some ((), (false, ())))))
 else
 (some ((), (false, ())))))
 else
 (bif o1.1 == 13 then
 ((Za N o1.2.1).bind fun o211 =>
 (bif o211.2.1 then
 ((Zd N o1.2.2.1 0 7).bind fun o212 =>
 (bif o212.2.1 then
 (some ((), (o1.2.2.2 == 0, ())))
 else
 (some ((), (false, ())))))
 else
 (some ((), (false, ())))))
 else
 (bif o1.1 == 14 then
 ((Zd N o1.2.1 0 7).bind fun o213 =>
 (bif o213.2.1 then
 ((Za N o1.2.2.1).bind fun o214 =>
 (bif o214.2.1 then
 (some ((), (o1.2.2.2 == 0, ())))
 else
 (some ((), (false, ())))))
 else
 (some ((), (false, ())))))
 else
 (some ((), (false, ())))))))
 else
 (bif o1.1 == 10 then
 (bif o1.1 == 10 then
 (bif o1.2.1 == 0 then
 (bif o1.2.2.1 == 0 then
 (some ((), (o1.2.2.2 == 0, ())))
 else
 (some ((), (false, ()))))
 else
 (some ((), (false, ()))))
 else
 (bif o1.1 == 12 then
 ((Zd N o1.2.1 0 7).bind fun o215 =>
 (bif o215.2.1 then
 ((Za N o1.2.2.1).bind fun o216 =>
 (bif o216.2.1 then
 ((Za N o1.2.2.2).bind fun o217 =>
 (some ((), (o217.2.1, ()))))
 else
 (some ((), (false, ())))))
 else
 (some ((), (false, ())))))
 else
 (bif o1.1 == 13 then
 ((Za N o1.2.1).bind fun o218 =>
 (bif o218.2.1 then
 ((Zd N o1.2.2.1 0 7).bind fun o219 =>
 (bif o219.2.1 then
 (some ((), (o1.2.2.2 == 0, ())))
 else
 (some ((), (false, ())))))
 else
 (some ((), (false, ())))))
 else
 (bif o1.1 == 14 then
 ((Zd N o1.2.1 0 7).bind fun o220 =>
 (bif o220.2.1 then
 ((Za N o1.2.2.1).bind fun o221 =>
 (bif o221.2.1 then
 (some ((), (o1.2.2.2 == 0, ())))
 else
 (some ((), (false, ())))))
 else
 (some ((), (false, ())))))
 else
 (some ((), (false, ())))))))
 else
 (bif o1.1 == 11 then
 (bif o1.2.1 == 0 then
 (bif o1.2.2.1 == 0 then
 (some ((), (o1.2.2.2 == 0, ())))
 else
 (some ((), (false, ()))))
 else
 (some ((), (false, ()))))
 else
 (bif o1.1 == 12 then
 ((Zd N o1.2.1 0 7).bind fun o222 =>
 (bif o222.2.1 then
 ((Za N o1.2.2.1).bind fun o223 =>
 (bif o223.2.1 then
 ((Za N o1.2.2.2).bind fun o224 =>
 (some ((), (o224.2.1, ()))))
 else
 (some ((), (false, ())))))
 else
 (some ((), (false, ())))))
 else
 (bif o1.1 == 13 then
 ((Za N o1.2.1).bind fun o225 =>
 (bif o225.2.1 then
 ((Zd N o1.2.2.1 0 7).bind fun o226 =>
 (bif o226.2.1 then
 (some ((), (o1.2.2.2 == 0, ())))
 else
 (some ((), (false, ())))))
 else
 (some ((), (false, ())))))
 else
 (bif o1.1 == 14 then
 ((Zd N o1.2.1 0 7).bind fun o227 =>
 (bif o227.2.1 then
 ((Za N o1.2.2.1).bind fun o228 =>
 (bif o228.2.1 then
 (some ((), (o1.2.2.2 == 0, ())))
 else
 (some ((), (false, ())))))
 else
 (some ((), (false, ())))))
 else
 (some ((), (false, ())))))))))))))))))))
noncomputable def Zb (N : Nat) (r1 : Int) : Option (Unit × (Bool × Unit)) :=
    ((Zy N r1 0 3).bind fun o2 =>
 (some ((), (o2.2.1, ()))))
noncomputable def Zf (N : Nat) (k1 : Int) : Option (Unit × (Bool × Unit)) :=
    ((Zy N k1 0 7).bind fun o2 =>
 (some ((), (o2.2.1, ()))))
noncomputable def Zk (N : Nat) (o1 : Int × Int × Int × Int) : Option (Unit × (Bool × Unit)) :=
    (bif o1.1 == 1 then
 ((Zb N o1.2.1).bind fun o2 =>
 (bif o2.2.1 then
 ((Zbv N o1.2.2.1).bind fun o3 =>
 (bif o3.2.1 then
 (some ((), (o1.2.2.2 == 0, ())))
 else
 (some ((), (false, ())))))
 else
 (some ((), (false, ())))))
 else
 (bif o1.1 == 2 then
 (bif o1.1 == 2 then
 ((Zb N o1.2.1).bind fun o4 =>
 (bif o4.2.1 then
 ((Zb N o1.2.2.1).bind fun o5 =>
 (bif o5.2.1 then
 ((Zb N o1.2.2.2).bind fun o6 =>
 (some ((), (o6.2.1, ()))))
 else
 (some ((), (false, ())))))
 else
 (some ((), (false, ())))))
 else
 (bif o1.1 == 5 then
 ((Zb N o1.2.1).bind fun o7 =>
 (bif o7.2.1 then
 ((Zab N o1.2.2.1).bind fun o8 =>
 (bif o8.2.1 then
 (some ((), (o1.2.2.2 == 0, ())))
 else
 (some ((), (false, ())))))
 else
 (some ((), (false, ())))))
 else
 (bif o1.1 == 6 then
 ((Zab N o1.2.1).bind fun o9 =>
 (bif o9.2.1 then
 ((Zb N o1.2.2.1).bind fun o10 =>
 (bif o10.2.1 then
 (some ((), (o1.2.2.2 == 0, ())))
 else
 (some ((), (false, ())))))
 else
 (some ((), (false, ())))))
 else
 (bif o1.1 == 7 then
 ((Zb N o1.2.1).bind fun o11 =>
 (bif o11.2.1 then
 ((Zy N o1.2.2.1 1 20).bind fun o12 =>
 (bif o12.2.1 then
 (some ((), (o1.2.2.2 == 0, ())))
 else
 (some ((), (false, ())))))
 else
 (some ((), (false, ())))))
 else
 (bif o1.1 == 8 then
 (bif o1.1 == 8 then
 ((Zb N o1.2.1).bind fun o13 =>
 (bif o13.2.1 then
 (bif o1.2.2.1 == 0 then
 (some ((), (o1.2.2.2 == 0, ())))
 else
 (some ((), (false, ()))))
 else
 (some ((), (false, ())))))
 else
 (bif o1.1 == 9 then
 (bif o1.1 == 9 then
 (bif o1.2.1 == 0 then
 (bif o1.2.2.1 == 0 then
 (some ((), (o1.2.2.2 == 0, ())))
 else
 (some ((), (false, ()))))
 else
 (some ((), (false, ()))))
 else
 (bif o1.1 == 12 then
 ((Zf N o1.2.1).bind fun o14 =>
 (bif o14.2.1 then
 ((Zb N o1.2.2.1).bind fun o15 =>
 (bif o15.2.1 then
 ((Zb N o1.2.2.2).bind fun o16 =>
 (some ((), (o16.2.1, ()))))
 else
 (some ((), (false, ())))))
 else
 (some ((), (false, ())))))
 else
 (bif o1.1 == 13 then
 ((Zb N o1.2.1).bind fun o17 =>
 (bif o17.2.1 then
 ((Zf N o1.2.2.1).bind fun o18 =>
 (bif o18.2.1 then
 (some ((), (o1.2.2.2 == 0, ())))
 else
 (some ((), (false, ())))))
 else
 (some ((), (false, ())))))
 else
 (bif o1.1 == 14 then
 ((Zf N o1.2.1).bind fun o19 =>
 (bif o19.2.1 then
 ((Zb N o1.2.2.1).bind fun o20 =>
 (bif o20.2.1 then
 (some ((), (o1.2.2.2 == 0, ())))
 else
 (some ((), (false, ())))))
 else
 (some ((), (false, ())))))
 else
 (some ((), (false, ())))))))
 else
 (bif o1.1 == 10 then
 (bif o1.1 == 10 then
 (bif o1.2.1 == 0 then
 (bif o1.2.2.1 == 0 then
 (some ((), (o1.2.2.2 == 0, ())))
 else
 (some ((), (false, ()))))
 else
 (some ((), (false, ()))))
 else
 (bif o1.1 == 12 then
 ((Zf N o1.2.1).bind fun o21 =>
 (bif o21.2.1 then
 ((Zb N o1.2.2.1).bind fun o22 =>
 (bif o22.2.1 then
 ((Zb N o1.2.2.2).bind fun o23 =>
 (some ((), (o23.2.1, ()))))
 else
 (some ((), (false, ())))))
 else
 (some ((), (false, ())))))
 else
 (bif o1.1 == 13 then
 ((Zb N o1.2.1).bind fun o24 =>
 (bif o24.2.1 then
 ((Zf N o1.2.2.1).bind fun o25 =>
 (bif o25.2.1 then
 (some ((), (o1.2.2.2 == 0, ())))
 else
 (some ((), (false, ())))))
 else
 (some ((), (false, ())))))
 else
 (bif o1.1 == 14 then
 ((Zf N o1.2.1).bind fun o26 =>
 (bif o26.2.1 then
 ((Zb N o1.2.2.1).bind fun o27 =>
 (bif o27.2.1 then
 (some ((), (o1.2.2.2 == 0, ())))
 else
 (some ((), (false, ())))))
 else
 (some ((), (false, ())))))
 else
 (some ((), (false, ())))))))
 else
 (bif o1.1 == 11 then
 (bif o1.2.1 == 0 then
 (bif o1.2.2.1 == 0 then
 (some ((), (o1.2.2.2 == 0, ())))
 else
 (some ((), (false, ()))))
 else
 (some ((), (false, ()))))
 else
 (bif o1.1 == 12 then
 ((Zf N o1.2.1).bind fun o28 =>
 (bif o28.2.1 then
 ((Zb N o1.2.2.1).bind fun o29 =>
 (bif o29.2.1 then
 ((Zb N o1.2.2.2).bind fun o30 =>
 (some ((), (o30.2.1, ()))))
 else
 (some ((), (false, ())))))
 else
 (some ((), (false, ())))))
 else
 (bif o1.1 == 13 then
 ((Zb N o1.2.1).bind fun o31 =>
 (bif o31.2.1 then
 ((Zf N o1.2.2.1).bind fun o32 =>
 (bif o32.2.1 then
 (some ((), (o1.2.2.2 == 0, ())))
 else
 (some ((), (false, ())))))
 else
 (some ((), (false, ())))))
 else
 (bif o1.1 == 14 then
 ((Zf N o1.2.1).bind fun o33 =>
 (bif o33.2.1 then
 ((Zb N o1.2.2.1).bind fun o34 =>
 (bif o34.2.1 then
 (some ((), (o1.2.2.2 == 0, ())))
 else
 (some ((), (false, ())))))
 else
 (some ((), (false, ())))))
 else
 (some ((), (false, ()))))))))))
 else
 (bif o1.1 == 15 then
 (bif o1.1 == 15 then
 ((Zb N o1.2.1).bind fun o35 =>
 (bif o35.2.1 then
 (bif o1.2.2.1 == 0 then
 (some ((), (o1.2.2.2 == 0, ())))
 else
 (some ((), (false, ()))))
 else
 (some ((), (false, ())))))
 else
 (bif o1.1 == 9 then
 (bif o1.1 == 9 then
 (bif o1.2.1 == 0 then
 (bif o1.2.2.1 == 0 then
 (some ((), (o1.2.2.2 == 0, ())))
 else
 (some ((), (false, ()))))
 else
 (some ((), (false, ()))))
 else
 (bif o1.1 == 12 then
 ((Zf N o1.2.1).bind fun o36 =>
 (bif o36.2.1 then
 ((Zb N o1.2.2.1).bind fun o37 =>
 (bif o37.2.1 then
 ((Zb N o1.2.2.2).bind fun o38 =>
 (some ((), (o38.2.1, ()))))
 else
 (some ((), (false, ())))))
 else
 (some ((), (false, ())))))
 else
 (bif o1.1 == 13 then
 ((Zb N o1.2.1).bind fun o39 =>
 (bif o39.2.1 then
 ((Zf N o1.2.2.1).bind fun o40 =>
 (bif o40.2.1 then
 (some ((), (o1.2.2.2 == 0, ())))
 else
 (some ((), (false, ())))))
 else
 (some ((), (false, ())))))
 else
 (bif o1.1 == 14 then
 ((Zf N o1.2.1).bind fun o41 =>
 (bif o41.2.1 then
 ((Zb N o1.2.2.1).bind fun o42 =>
 (bif o42.2.1 then
 (some ((), (o1.2.2.2 == 0, ())))
 else
 (some ((), (false, ())))))
 else
 (some ((), (false, ())))))
 else
 (some ((), (false, ())))))))
 else
 (bif o1.1 == 10 then
 (bif o1.1 == 10 then
 (bif o1.2.1 == 0 then
 (bif o1.2.2.1 == 0 then
 (some ((), (o1.2.2.2 == 0, ())))
 else
 (some ((), (false, ()))))
 else
 (some ((), (false, ()))))
 else
 (bif o1.1 == 12 then
 ((Zf N o1.2.1).bind fun o43 =>
 (bif o43.2.1 then
 ((Zb N o1.2.2.1).bind fun o44 =>
 (bif o44.2.1 then
 ((Zb N o1.2.2.2).bind fun o45 =>
 (some ((), (o45.2.1, ()))))
 else
 (some ((), (false, ())))))
 else
 (some ((), (false, ())))))
 else
 (bif o1.1 == 13 then
 ((Zb N o1.2.1).bind fun o46 =>
 (bif o46.2.1 then
 ((Zf N o1.2.2.1).bind fun o47 =>
 (bif o47.2.1 then
 (some ((), (o1.2.2.2 == 0, ())))
 else
 (some ((), (false, ())))))
 else
 (some ((), (false, ())))))
 else
 (bif o1.1 == 14 then
 ((Zf N o1.2.1).bind fun o48 =>
 (bif o48.2.1 then
 ((Zb N o1.2.2.1).bind fun o49 =>
 (bif o49.2.1 then
 (some ((), (o1.2.2.2 == 0, ())))
 else
 (some ((), (false, ())))))
 else
 (some ((), (false, ())))))
 else
 (some ((), (false, ())))))))
 else
 (bif o1.1 == 11 then
 (bif o1.2.1 == 0 then
 (bif o1.2.2.1 == 0 then
 (some ((), (o1.2.2.2 == 0, ())))
 else
 (some ((), (false, ()))))
 else
 (some ((), (false, ()))))
 else
 (bif o1.1 == 12 then
 ((Zf N o1.2.1).bind fun o50 =>
 (bif o50.2.1 then
 ((Zb N o1.2.2.1).bind fun o51 =>
 (bif o51.2.1 then
 ((Zb N o1.2.2.2).bind fun o52 =>
 (some ((), (o52.2.1, ()))))
 else
 (some ((), (false, ())))))
 else
 (some ((), (false, ())))))
 else
 (bif o1.1 == 13 then
 ((Zb N o1.2.1).bind fun o53 =>
 (bif o53.2.1 then
 ((Zf N o1.2.2.1).bind fun o54 =>
 (bif o54.2.1 then
 (some ((), (o1.2.2.2 == 0, ())))
 else
 (some ((), (false, ())))))
 else
 (some ((), (false, ())))))
 else
 (bif o1.1 == 14 then
 ((Zf N o1.2.1).bind fun o55 =>
 (bif o55.2.1 then
 ((Zb N o1.2.2.1).bind fun o56 =>
 (bif o56.2.1 then
 (some ((), (o1.2.2.2 == 0, ())))
 else
 (some ((), (false, ())))))
 else
 (some ((), (false, ())))))
 else
 (some ((), (false, ()))))))))))
 else
 (bif o1.1 == 16 then
 ((Zb N o1.2.1).bind fun o57 =>
 (bif o57.2.1 then
 (bif o1.2.2.1 == 0 then
 (some ((), (o1.2.2.2 == 0, ())))
 else
 (some ((), (false, ()))))
 else
 (some ((), (false, ())))))
 else
 (bif o1.1 == 9 then
 (bif o1.1 == 9 then
 (bif o1.2.1 == 0 then
 (bif o1.2.2.1 == 0 then
 (some ((), (o1.2.2.2 == 0, ())))
 else
 (some ((), (false, ()))))
 else
 (some ((), (false, ()))))
 else
 (bif o1.1 == 12 then
 ((Zf N o1.2.1).bind fun o58 =>
 (bif o58.2.1 then
 ((Zb N o1.2.2.1).bind fun o59 =>
 (bif o59.2.1 then
 ((Zb N o1.2.2.2).bind fun o60 =>
 (some ((), (o60.2.1, ()))))
 else
 (some ((), (false, ())))))
 else
 (some ((), (false, ())))))
 else
 (bif o1.1 == 13 then
 ((Zb N o1.2.1).bind fun o61 =>
 (bif o61.2.1 then
 ((Zf N o1.2.2.1).bind fun o62 =>
 (bif o62.2.1 then
 (some ((), (o1.2.2.2 == 0, ())))
 else
 (some ((), (false, ())))))
 else
 (some ((), (false, ())))))
 else
 (bif o1.1 == 14 then
 ((Zf N o1.2.1).bind fun o63 =>
 (bif o63.2.1 then
 ((Zb N o1.2.2.1).bind fun o64 =>
 (bif o64.2.1 then
 (some ((), (o1.2.2.2 == 0, ())))
 else
 (some ((), (false, ())))))
 else
 (some ((), (false, ())))))
 else
 (some ((), (false, ())))))))
 else
 (bif o1.1 == 10 then
 (bif o1.1 == 10 then
 (bif o1.2.1 == 0 then
 (bif o1.2.2.1 == 0 then
 (some ((), (o1.2.2.2 == 0, ())))
 else
 (some ((), (false, ()))))
 else
 (some ((), (false, ()))))
 else
 (bif o1.1 == 12 then
 ((Zf N o1.2.1).bind fun o65 =>
 (bif o65.2.1 then
 ((Zb N o1.2.2.1).bind fun o66 =>
 (bif o66.2.1 then
 ((Zb N o1.2.2.2).bind fun o67 =>
 (some ((), (o67.2.1, ()))))
 else
 (some ((), (false, ())))))
 else
 (some ((), (false, ())))))
 else
 (bif o1.1 == 13 then
 ((Zb N o1.2.1).bind fun o68 =>
 (bif o68.2.1 then
 ((Zf N o1.2.2.1).bind fun o69 =>
 (bif o69.2.1 then
 (some ((), (o1.2.2.2 == 0, ())))
 else
 (some ((), (false, ())))))
 else
 (some ((), (false, ())))))
 else
 (bif o1.1 == 14 then
 ((Zf N o1.2.1).bind fun o70 =>
 (bif o70.2.1 then
 ((Zb N o1.2.2.1).bind fun o71 =>
 (bif o71.2.1 then
 (some ((), (o1.2.2.2 == 0, ())))
 else
 (some ((), (false, ())))))
 else
 (some ((), (false, ())))))
 else
 (some ((), (false, ())))))))
 else
 (bif o1.1 == 11 then
 (bif o1.2.1 == 0 then
 (bif o1.2.2.1 == 0 then
 (some ((), (o1.2.2.2 == 0, ())))
 else
 (some ((), (false, ()))))
 else
 (some ((), (false, ()))))
 else
 (bif o1.1 == 12 then
 ((Zf N o1.2.1).bind fun o72 =>
 (bif o72.2.1 then
 ((Zb N o1.2.2.1).bind fun o73 =>
 (bif o73.2.1 then
 ((Zb N o1.2.2.2).bind fun o74 =>
 (some ((), (o74.2.1, ()))))
 else
 (some ((), (false, ())))))
 else
 (some ((), (false, ())))))
 else
 (bif o1.1 == 13 then
 ((Zb N o1.2.1).bind fun o75 =>
 (bif o75.2.1 then
 ((Zf N o1.2.2.1).bind fun o76 =>
 (bif o76.2.1 then
 (some ((), (o1.2.2.2 == 0, ())))
 else
 (some ((), (false, ())))))
 else
 (some ((), (false, ())))))
 else
 (bif o1.1 == 14 then
 ((Zf N o1.2.1).bind fun o77 =>
 (bif o77.2.1 then
 ((Zb N o1.2.2.1).bind fun o78 =>
 (bif o78.2.1 then
 (some ((), (o1.2.2.2 == 0, ())))
 else
 (some ((), (false, ())))))
 else
 (some ((), (false, ())))))
 else
 (some ((), (false, ()))))))))))))))))
 else
 (bif o1.1 == 3 then
 (bif o1.1 == 3 then
 ((Zb N o1.2.1).bind fun o79 =>
 (bif o79.2.1 then
 ((Zb N o1.2.2.1).bind fun o80 =>
 (bif o80.2.1 then
 ((Zb N o1.2.2.2).bind fun o81 =>
 (some ((), (o81.2.1, ()))))
 else
 (some ((), (false, ())))))
 else
 (some ((), (false, ())))))
 else
 (bif o1.1 == 5 then
 ((Zb N o1.2.1).bind fun o82 =>
 (bif o82.2.1 then
 ((Zab N o1.2.2.1).bind fun o83 =>
 (bif o83.2.1 then
 (some ((), (o1.2.2.2 == 0, ())))
 else
 (some ((), (false, ())))))
 else
 (some ((), (false, ())))))
 else
 (bif o1.1 == 6 then
 ((Zab N o1.2.1).bind fun o84 =>
 (bif o84.2.1 then
 ((Zb N o1.2.2.1).bind fun o85 =>
 (bif o85.2.1 then
 (some ((), (o1.2.2.2 == 0, ())))
 else
 (some ((), (false, ())))))
 else
 (some ((), (false, ())))))
 else
 (bif o1.1 == 7 then
 ((Zb N o1.2.1).bind fun o86 =>
 (bif o86.2.1 then
 ((Zy N o1.2.2.1 1 20).bind fun o87 =>
 (bif o87.2.1 then
 (some ((), (o1.2.2.2 == 0, ())))
 else
 (some ((), (false, ())))))
 else
 (some ((), (false, ())))))
 else
 (bif o1.1 == 8 then
 (bif o1.1 == 8 then
 ((Zb N o1.2.1).bind fun o88 =>
 (bif o88.2.1 then
 (bif o1.2.2.1 == 0 then
 (some ((), (o1.2.2.2 == 0, ())))
 else
 (some ((), (false, ()))))
 else
 (some ((), (false, ())))))
 else
 (bif o1.1 == 9 then
 (bif o1.1 == 9 then
 (bif o1.2.1 == 0 then
 (bif o1.2.2.1 == 0 then
 (some ((), (o1.2.2.2 == 0, ())))
 else
 (some ((), (false, ()))))
 else
 (some ((), (false, ()))))
 else
 (bif o1.1 == 12 then
 ((Zf N o1.2.1).bind fun o89 =>
 (bif o89.2.1 then
 ((Zb N o1.2.2.1).bind fun o90 =>
 (bif o90.2.1 then
 ((Zb N o1.2.2.2).bind fun o91 =>
 (some ((), (o91.2.1, ()))))
 else
 (some ((), (false, ())))))
 else
 (some ((), (false, ())))))
 else
 (bif o1.1 == 13 then
 ((Zb N o1.2.1).bind fun o92 =>
 (bif o92.2.1 then
 ((Zf N o1.2.2.1).bind fun o93 =>
 (bif o93.2.1 then
 (some ((), (o1.2.2.2 == 0, ())))
 else
 (some ((), (false, ())))))
 else
 (some ((), (false, ())))))
 else
 (bif o1.1 == 14 then
 ((Zf N o1.2.1).bind fun o94 =>
 (bif o94.2.1 then
 ((Zb N o1.2.2.1).bind fun o95 =>
 (bif o95.2.1 then
 (some ((), (o1.2.2.2 == 0, ())))
 else
 (some ((), (false, ())))))
 else
 (some ((), (false, ())))))
 else
 (some ((), (false, ())))))))
 else
 (bif o1.1 == 10 then
 (bif o1.1 == 10 then
 (bif o1.2.1 == 0 then
 (bif o1.2.2.1 == 0 then
 (some ((), (o1.2.2.2 == 0, ())))
 else
 (some ((), (false, ()))))
 else
 (some ((), (false, ()))))
 else
 (bif o1.1 == 12 then
 ((Zf N o1.2.1).bind fun o96 =>
 (bif o96.2.1 then
 ((Zb N o1.2.2.1).bind fun o97 =>
 (bif o97.2.1 then
 ((Zb N o1.2.2.2).bind fun o98 =>
 (some ((), (o98.2.1, ()))))
 else
 (some ((), (false, ())))))
 else
 (some ((), (false, ())))))
 else
 (bif o1.1 == 13 then
 ((Zb N o1.2.1).bind fun o99 =>
 (bif o99.2.1 then
 ((Zf N o1.2.2.1).bind fun o100 =>
 (bif o100.2.1 then
 (some ((), (o1.2.2.2 == 0, ())))
 else
 (some ((), (false, ())))))
 else
 (some ((), (false, ())))))
 else
 (bif o1.1 == 14 then
 ((Zf N o1.2.1).bind fun o101 =>
 (bif o101.2.1 then
 ((Zb N o1.2.2.1).bind fun o102 =>
 (bif o102.2.1 then
 (some ((), (o1.2.2.2 == 0, ())))
 else
 (some ((), (false, ())))))
 else
 (some ((), (false, ())))))
 else
 (some ((), (false, ())))))))
 else
 (bif o1.1 == 11 then
 (bif o1.2.1 == 0 then
 (bif o1.2.2.1 == 0 then
 (some ((), (o1.2.2.2 == 0, ())))
 else
 (some ((), (false, ()))))
 else
 (some ((), (false, ()))))
 else
 (bif o1.1 == 12 then
 ((Zf N o1.2.1).bind fun o103 =>
 (bif o103.2.1 then
 ((Zb N o1.2.2.1).bind fun o104 =>
 (bif o104.2.1 then
 ((Zb N o1.2.2.2).bind fun o105 =>
 (some ((), (o105.2.1, ()))))
 else
 (some ((), (false, ())))))
 else
 (some ((), (false, ())))))
 else
 (bif o1.1 == 13 then
 ((Zb N o1.2.1).bind fun o106 =>
 (bif o106.2.1 then
 ((Zf N o1.2.2.1).bind fun o107 =>
 (bif o107.2.1 then
 (some ((), (o1.2.2.2 == 0, ())))
 else
 (some ((), (false, ())))))
 else
 (some ((), (false, ())))))
 else
 (bif o1.1 == 14 then
 ((Zf N o1.2.1).bind fun o108 =>
 (bif o108.2.1 then
 ((Zb N o1.2.2.1).bind fun o109 =>
 (bif o109.2.1 then
 (some ((), (o1.2.2.2 == 0, ())))
 else
 (some ((), (false, ())))))
 else
 (some ((), (false, ())))))
 else
 (some ((), (false, ()))))))))))
 else
 (bif o1.1 == 15 then
 (bif o1.1 == 15 then
 ((Zb N o1.2.1).bind fun o110 =>
 (bif o110.2.1 then
 (bif o1.2.2.1 == 0 then
 (some ((), (o1.2.2.2 == 0, ())))
 else
 (some ((), (false, ()))))
 else
 (some ((), (false, ())))))
 else
 (bif o1.1 == 9 then
 (bif o1.1 == 9 then
 (bif o1.2.1 == 0 then
 (bif o1.2.2.1 == 0 then
 (some ((), (o1.2.2.2 == 0, ())))
 else
 (some ((), (false, ()))))
 else
 (some ((), (false, ()))))
 else
 (bif o1.1 == 12 then
 ((Zf N o1.2.1).bind fun o111 =>
 (bif o111.2.1 then
 ((Zb N o1.2.2.1).bind fun o112 =>
 (bif o112.2.1 then
 ((Zb N o1.2.2.2).bind fun o113 =>
 (some ((), (o113.2.1, ()))))
 else
 (some ((), (false, ())))))
 else
 (some ((), (false, ())))))
 else
 (bif o1.1 == 13 then
 ((Zb N o1.2.1).bind fun o114 =>
 (bif o114.2.1 then
 ((Zf N o1.2.2.1).bind fun o115 =>
 (bif o115.2.1 then
 (some ((), (o1.2.2.2 == 0, ())))
 else
 (some ((), (false, ())))))
 else
 (some ((), (false, ())))))
 else
 (bif o1.1 == 14 then
 ((Zf N o1.2.1).bind fun o116 =>
 (bif o116.2.1 then
 ((Zb N o1.2.2.1).bind fun o117 =>
 (bif o117.2.1 then
 (some ((), (o1.2.2.2 == 0, ())))
 else
 (some ((), (false, ())))))
 else
 (some ((), (false, ())))))
 else
 (some ((), (false, ())))))))
 else
 (bif o1.1 == 10 then
 (bif o1.1 == 10 then
 (bif o1.2.1 == 0 then
 (bif o1.2.2.1 == 0 then
 (some ((), (o1.2.2.2 == 0, ())))
 else
 (some ((), (false, ()))))
 else
 (some ((), (false, ()))))
 else
 (bif o1.1 == 12 then
 ((Zf N o1.2.1).bind fun o118 =>
 (bif o118.2.1 then
 ((Zb N o1.2.2.1).bind fun o119 =>
 (bif o119.2.1 then
 ((Zb N o1.2.2.2).bind fun o120 =>
 (some ((), (o120.2.1, ()))))
 else
 (some ((), (false, ())))))
 else
 (some ((), (false, ())))))
 else
 (bif o1.1 == 13 then
 ((Zb N o1.2.1).bind fun o121 =>
 (bif o121.2.1 then
 ((Zf N o1.2.2.1).bind fun o122 =>
 (bif o122.2.1 then
 (some ((), (o1.2.2.2 == 0, ())))
 else
 (some ((), (false, ())))))
 else
 (some ((), (false, ())))))
 else
 (bif o1.1 == 14 then
 ((Zf N o1.2.1).bind fun o123 =>
 (bif o123.2.1 then
 ((Zb N o1.2.2.1).bind fun o124 =>
 (bif o124.2.1 then
 (some ((), (o1.2.2.2 == 0, ())))
 else
 (some ((), (false, ())))))
 else
 (some ((), (false, ())))))
 else
 (some ((), (false, ())))))))
 else
 (bif o1.1 == 11 then
 (bif o1.2.1 == 0 then
 (bif o1.2.2.1 == 0 then
 (some ((), (o1.2.2.2 == 0, ())))
 else
 (some ((), (false, ()))))
 else
 (some ((), (false, ()))))
 else
 (bif o1.1 == 12 then
 ((Zf N o1.2.1).bind fun o125 =>
 (bif o125.2.1 then
 ((Zb N o1.2.2.1).bind fun o126 =>
 (bif o126.2.1 then
 ((Zb N o1.2.2.2).bind fun o127 =>
 (some ((), (o127.2.1, ()))))
 else
 (some ((), (false, ())))))
 else
 (some ((), (false, ())))))
 else
 (bif o1.1 == 13 then
 ((Zb N o1.2.1).bind fun o128 =>
 (bif o128.2.1 then
 ((Zf N o1.2.2.1).bind fun o129 =>
 (bif o129.2.1 then
 (some ((), (o1.2.2.2 == 0, ())))
 else
 (some ((), (false, ())))))
 else
 (some ((), (false, ())))))
 else
 (bif o1.1 == 14 then
 ((Zf N o1.2.1).bind fun o130 =>
 (bif o130.2.1 then
 ((Zb N o1.2.2.1).bind fun o131 =>
 (bif o131.2.1 then
 (some ((), (o1.2.2.2 == 0, ())))
 else
 (some ((), (false, ())))))
 else
 (some ((), (false, ())))))
 else
 (some ((), (false, ()))))))))))
 else
 (bif o1.1 == 16 then
 ((Zb N o1.2.1).bind fun o132 =>
 (bif o132.2.1 then
 (bif o1.2.2.1 == 0 then
 (some ((), (o1.2.2.2 == 0, ())))
 else
 (some ((), (false, ()))))
 else
 (some ((), (false, ())))))
 else
 (bif o1.1 == 9 then
 (bif o1.1 == 9 then
 (bif o1.2.1 == 0 then
 (bif o1.2.2.1 == 0 then
 (some ((), (o1.2.2.2 == 0, ())))
 else
 (some ((), (false, ()))))
 else
 (some ((), (false, ()))))
 else
 (bif o1.1 == 12 then
 ((Zf N o1.2.1).bind fun o133 =>
 (bif o133.2.1 then
 ((Zb N o1.2.2.1).bind fun o134 =>
 (bif o134.2.1 then
 ((Zb N o1.2.2.2).bind fun o135 =>
 (some ((), (o135.2.1, ()))))
 else
 (some ((), (false, ())))))
 else
 (some ((), (false, ())))))
 else
 (bif o1.1 == 13 then
 ((Zb N o1.2.1).bind fun o136 =>
 (bif o136.2.1 then
 ((Zf N o1.2.2.1).bind fun o137 =>
 (bif o137.2.1 then
 (some ((), (o1.2.2.2 == 0, ())))
 else
 (some ((), (false, ())))))
 else
 (some ((), (false, ())))))
 else
 (bif o1.1 == 14 then
 ((Zf N o1.2.1).bind fun o138 =>
 (bif o138.2.1 then
 ((Zb N o1.2.2.1).bind fun o139 =>
 (bif o139.2.1 then
 (some ((), (o1.2.2.2 == 0, ())))
 else
 (some ((), (false, ())))))
 else
 (some ((), (false, ())))))
 else
 (some ((), (false, ())))))))
 else
 (bif o1.1 == 10 then
 (bif o1.1 == 10 then
 (bif o1.2.1 == 0 then
 (bif o1.2.2.1 == 0 then
 (some ((), (o1.2.2.2 == 0, ())))
 else
 (some ((), (false, ()))))
 else
 (some ((), (false, ()))))
 else
 (bif o1.1 == 12 then
 ((Zf N o1.2.1).bind fun o140 =>
 (bif o140.2.1 then
 ((Zb N o1.2.2.1).bind fun o141 =>
 (bif o141.2.1 then
 ((Zb N o1.2.2.2).bind fun o142 =>
 (some ((), (o142.2.1, ()))))
 else
 (some ((), (false, ())))))
 else
 (some ((), (false, ())))))
 else
 (bif o1.1 == 13 then
 ((Zb N o1.2.1).bind fun o143 =>
 (bif o143.2.1 then
 ((Zf N o1.2.2.1).bind fun o144 =>
 (bif o144.2.1 then
 (some ((), (o1.2.2.2 == 0, ())))
 else
 (some ((), (false, ())))))
 else
 (some ((), (false, ())))))
 else
 (bif o1.1 == 14 then
 ((Zf N o1.2.1).bind fun o145 =>
 (bif o145.2.1 then
 ((Zb N o1.2.2.1).bind fun o146 =>
 (bif o146.2.1 then
 (some ((), (o1.2.2.2 == 0, ())))
 else
 (some ((), (false, ())))))
 else
 (some ((), (false, ())))))
 else
 (some ((), (false, ())))))))
 else
 (bif o1.1 == 11 then
 (bif o1.2.1 == 0 then
 (bif o1.2.2.1 == 0 then
 (some ((), (o1.2.2.2 == 0, ())))
 else
 (some ((), (false, ()))))
 else
 (some ((), (false, ()))))
 else
 (bif o1.1 == 12 then
 ((Zf N o1.2.1).bind fun o147 =>
 (bif o147.2.1 then
 ((Zb N o1.2.2.1).bind fun o148 =>
 (bif o148.2.1 then
 ((Zb N o1.2.2.2).bind fun o149 =>
 (some ((), (o149.2.1, ()))))
 else
 (some ((), (false, ())))))
 else
 (some ((), (false, ())))))
 else
 (bif o1.1 == 13 then
 ((Zb N o1.2.1).bind fun o150 =>
 (bif o150.2.1 then
 ((Zf N o1.2.2.1).bind fun o151 =>
 (bif o151.2.1 then
 (some ((), (o1.2.2.2 == 0, ())))
 else
 (some ((), (false, ())))))
 else
 (some ((), (false, ())))))
 else
 (bif o1.1 == 14 then
 ((Zf N o1.2.1).bind fun o152 =>
 (bif o152.2.1 then
 ((Zb N o1.2.2.1).bind fun o153 =>
 (bif o153.2.1 then
 (some ((), (o1.2.2.2 == 0, ())))
 else
 (some ((), (false, ())))))
 else
 (some ((), (false, ())))))
 else
 (some ((), (false, ()))))))))))))))))
 else
 (bif o1.1 == 4 then
 ((Zb N o1.2.1).bind fun o154 =>
 (bif o154.2.1 then
 ((Zb N o1.2.2.1).bind fun o155 =>
 (bif o155.2.1 then
 ((Zb N o1.2.2.2).bind fun o156 =>
 (some ((), (o156.2.1, ()))))
 else
 (some ((), (false, ())))))
 else
 (some ((), (false, ())))))
 else
 (bif o1.1 == 5 then
 ((Zb N o1.2.1).bind fun o157 =>
 (bif o157.2.1 then
 ((Zab N o1.2.2.1).bind fun o158 =>
 (bif o158.2.1 then
 (some ((), (o1.2.2.2 == 0, ())))
 else
 (some ((), (false, ())))))
 else
 (some ((), (false, ())))))
 else
 (bif o1.1 == 6 then
 ((Zab N o1.2.1).bind fun o159 =>
 (bif o159.2.1 then
 ((Zb N o1.2.2.1).bind fun o160 =>
 (bif o160.2.1 then
 (some ((), (o1.2.2.2 == 0, ())))
 else
 (some ((), (false, ())))))
 else
 (some ((), (false, ())))))
 else
 (bif o1.1 == 7 then
 ((Zb N o1.2.1).bind fun o161 =>
 (bif o161.2.1 then
 ((Zy N o1.2.2.1 1 20).bind fun o162 =>
 (bif o162.2.1 then
 (some ((), (o1.2.2.2 == 0, ())))
 else
 (some ((), (false, ())))))
 else
 (some ((), (false, ())))))
 else
 (bif o1.1 == 8 then
 (bif o1.1 == 8 then
 ((Zb N o1.2.1).bind fun o163 =>
 (bif o163.2.1 then
 (bif o1.2.2.1 == 0 then
 (some ((), (o1.2.2.2 == 0, ())))
 else
 (some ((), (false, ()))))
 else
 (some ((), (false, ())))))
 else
 (bif o1.1 == 9 then
 (bif o1.1 == 9 then
 (bif o1.2.1 == 0 then
 (bif o1.2.2.1 == 0 then
 (some ((), (o1.2.2.2 == 0, ())))
 else
 (some ((), (false, ()))))
 else
 (some ((), (false, ()))))
 else
 (bif o1.1 == 12 then
 ((Zf N o1.2.1).bind fun o164 =>
 (bif o164.2.1 then
 ((Zb N o1.2.2.1).bind fun o165 =>
 (bif o165.2.1 then
 ((Zb N o1.2.2.2).bind fun o166 =>
 (some ((), (o166.2.1, ()))))
 else
 (some ((), (false, ())))))
 else
 (some ((), (false, ())))))
 else
 (bif o1.1 == 13 then
 ((Zb N o1.2.1).bind fun o167 =>
 (bif o167.2.1 then
 ((Zf N o1.2.2.1).bind fun o168 =>
 (bif o168.2.1 then
 (some ((), (o1.2.2.2 == 0, ())))
 else
 (some ((), (false, ())))))
 else
 (some ((), (false, ())))))
 else
 (bif o1.1 == 14 then
 ((Zf N o1.2.1).bind fun o169 =>
 (bif o169.2.1 then
 ((Zb N o1.2.2.1).bind fun o170 =>
 (bif o170.2.1 then
 (some ((), (o1.2.2.2 == 0, ())))
 else
 (some ((), (false, ())))))
 else
 (some ((), (false, ())))))
 else
 (some ((), (false, ())))))))
 else
 (bif o1.1 == 10 then
 (bif o1.1 == 10 then
 (bif o1.2.1 == 0 then
 (bif o1.2.2.1 == 0 then
 (some ((), (o1.2.2.2 == 0, ())))
 else
 (some ((), (false, ()))))
 else
 (some ((), (false, ()))))
 else
 (bif o1.1 == 12 then
 ((Zf N o1.2.1).bind fun o171 =>
 (bif o171.2.1 then
 ((Zb N o1.2.2.1).bind fun o172 =>
 (bif o172.2.1 then
 ((Zb N o1.2.2.2).bind fun o173 =>
 (some ((), (o173.2.1, ()))))
 else
 (some ((), (false, ())))))
 else
 (some ((), (false, ())))))
 else
 (bif o1.1 == 13 then
 ((Zb N o1.2.1).bind fun o174 =>
 (bif o174.2.1 then
 ((Zf N o1.2.2.1).bind fun o175 =>
 (bif o175.2.1 then
 (some ((), (o1.2.2.2 == 0, ())))
 else
 (some ((), (false, ())))))
 else
 (some ((), (false, ())))))
 else
 (bif o1.1 == 14 then
 ((Zf N o1.2.1).bind fun o176 =>
 (bif o176.2.1 then
 ((Zb N o1.2.2.1).bind fun o177 =>
 (bif o177.2.1 then
 (some ((), (o1.2.2.2 == 0, ())))
 else
 (some ((), (false, ())))))
 else
 (some ((), (false, ())))))
 else
 (some ((), (false, ())))))))
 else
 (bif o1.1 == 11 then
 (bif o1.2.1 == 0 then
 (bif o1.2.2.1 == 0 then
 (some ((), (o1.2.2.2 == 0, ())))
 else
 (some ((), (false, ()))))
 else
 (some ((), (false, ()))))
 else
 (bif o1.1 == 12 then
 ((Zf N o1.2.1).bind fun o178 =>
 (bif o178.2.1 then
 ((Zb N o1.2.2.1).bind fun o179 =>
 (bif o179.2.1 then
 ((Zb N o1.2.2.2).bind fun o180 =>
 (some ((), (o180.2.1, ()))))
 else
 (some ((), (false, ())))))
 else
 (some ((), (false, ())))))
 else
 (bif o1.1 == 13 then
 ((Zb N o1.2.1).bind fun o181 =>
 (bif o181.2.1 then
 ((Zf N o1.2.2.1).bind fun o182 =>
 (bif o182.2.1 then
 (some ((), (o1.2.2.2 == 0, ())))
 else
 (some ((), (false, ())))))
 else
 (some ((), (false, ())))))
 else
 (bif o1.1 == 14 then
 ((Zf N o1.2.1).bind fun o183 =>
 (bif o183.2.1 then
 ((Zb N o1.2.2.1).bind fun o184 =>
 (bif o184.2.1 then
 (some ((), (o1.2.2.2 == 0, ())))
 else
 (some ((), (false, ())))))
 else
 (some ((), (false, ())))))
 else
 (some ((), (false, ()))))))))))
 else
 (bif o1.1 == 15 then
 (bif o1.1 == 15 then
 ((Zb N o1.2.1).bind fun o185 =>
 (bif o185.2.1 then
 (bif o1.2.2.1 == 0 then
 (some ((), (o1.2.2.2 == 0, ())))
 else
 (some ((), (false, ()))))
 else
 (some ((), (false, ())))))
 else
 (bif o1.1 == 9 then
 (bif o1.1 == 9 then
 (bif o1.2.1 == 0 then
 (bif o1.2.2.1 == 0 then
 (some ((), (o1.2.2.2 == 0, ())))
 else
 (some ((), (false, ()))))
 else
 (some ((), (false, ()))))
 else
 (bif o1.1 == 12 then
 ((Zf N o1.2.1).bind fun o186 =>
 (bif o186.2.1 then
 ((Zb N o1.2.2.1).bind fun o187 =>
 (bif o187.2.1 then
 ((Zb N o1.2.2.2).bind fun o188 =>
 (some ((), (o188.2.1, ()))))
 else
 (some ((), (false, ())))))
 else
 (some ((), (false, ())))))
 else
 (bif o1.1 == 13 then
 ((Zb N o1.2.1).bind fun o189 =>
 (bif o189.2.1 then
 ((Zf N o1.2.2.1).bind fun o190 =>
 (bif o190.2.1 then
 (some ((), (o1.2.2.2 == 0, ())))
 else
 (some ((), (false, ())))))
 else
 (some ((), (false, ())))))
 else
 (bif o1.1 == 14 then
 ((Zf N o1.2.1).bind fun o191 =>
 (bif o191.2.1 then
 ((Zb N o1.2.2.1).bind fun o192 =>
 (bif o192.2.1 then
 (some ((), (o1.2.2.2 == 0, ())))
 else
 (some ((), (false, ())))))
 else
 (some ((), (false, ())))))
 else
 (some ((), (false, ())))))))
 else
 (bif o1.1 == 10 then
 (bif o1.1 == 10 then
 (bif o1.2.1 == 0 then
 (bif o1.2.2.1 == 0 then
 (some ((), (o1.2.2.2 == 0, ())))
 else
 (some ((), (false, ()))))
 else
 (some ((), (false, ()))))
 else
 (bif o1.1 == 12 then
 ((Zf N o1.2.1).bind fun o193 =>
 (bif o193.2.1 then
 ((Zb N o1.2.2.1).bind fun o194 =>
 (bif o194.2.1 then
 ((Zb N o1.2.2.2).bind fun o195 =>
 (some ((), (o195.2.1, ()))))
 else
 (some ((), (false, ())))))
 else
 (some ((), (false, ())))))
 else
 (bif o1.1 == 13 then
 ((Zb N o1.2.1).bind fun o196 =>
 (bif o196.2.1 then
 ((Zf N o1.2.2.1).bind fun o197 =>
 (bif o197.2.1 then
 (some ((), (o1.2.2.2 == 0, ())))
 else
 (some ((), (false, ())))))
 else
 (some ((), (false, ())))))
 else
 (bif o1.1 == 14 then
 ((Zf N o1.2.1).bind fun o198 =>
 (bif o198.2.1 then
 ((Zb N o1.2.2.1).bind fun o199 =>
 (bif o199.2.1 then
 (some ((), (o1.2.2.2 == 0, ())))
 else
 (some ((), (false, ())))))
 else
 (some ((), (false, ())))))
 else
 (some ((), (false, ())))))))
 else
 (bif o1.1 == 11 then
 (bif o1.2.1 == 0 then
 (bif o1.2.2.1 == 0 then
 (some ((), (o1.2.2.2 == 0, ())))
 else
 (some ((), (false, ()))))
 else
 (some ((), (false, ()))))
 else
 (bif o1.1 == 12 then
 ((Zf N o1.2.1).bind fun o200 =>
 (bif o200.2.1 then
 ((Zb N o1.2.2.1).bind fun o201 =>
 (bif o201.2.1 then
 ((Zb N o1.2.2.2).bind fun o202 =>
 (some ((), (o202.2.1, ()))))
 else
 (some ((), (false, ())))))
 else
 (some ((), (false, ())))))
 else
 (bif o1.1 == 13 then
 ((Zb N o1.2.1).bind fun o203 =>
 (bif o203.2.1 then
 ((Zf N o1.2.2.1).bind fun o204 =>
 (bif o204.2.1 then
 (some ((), (o1.2.2.2 == 0, ())))
 else
 (some ((), (false, ())))))
 else
 (some ((), (false, ())))))
 else
 (bif o1.1 == 14 then
 ((Zf N o1.2.1).bind fun o205 =>
 (bif o205.2.1 then
 ((Zb N o1.2.2.1).bind fun o206 =>
 (bif o206.2.1 then
 (some ((), (o1.2.2.2 == 0, ())))
 else
 (some ((), (false, ())))))
 else
 (some ((), (false, ())))))
 else
 (some ((), (false, ()))))))))))
 else
 (bif o1.1 == 16 then
 ((Zb N o1.2.1).bind fun o207 =>
 (bif o207.2.1 then
 (bif o1.2.2.1 == 0 then
 (some ((), (o1.2.2.2 == 0, ())))
 else
 (some ((), (false, ()))))
 else
 (some ((), (false, ())))))
 else
 (bif o1.1 == 9 then
 (bif o1.1 == 9 then
 (bif o1.2.1 == 0 then
 (bif o1.2.2.1 == 0 then
 (some ((), (o1.2.2.2 == 0, ())))
 else
 (some ((), (false, ()))))
 else
 (some ((), (false, ()))))
 else
 (bif o1.1 == 12 then
 ((Zf N o1.2.1).bind fun o208 =>
 (bif o208.2.1 then
 ((Zb N o1.2.2.1).bind fun o209 =>
 (bif o209.2.1 then
 ((Zb N o1.2.2.2).bind fun o210 =>
 (some ((), (o210.2.1, ()))))
 else
 (some ((), (false, ())))))
 else
 (some ((), (false, ())))))
 else
 (bif o1.1 == 13 then
 ((Zb N o1.2.1).bind fun o211 =>
 (bif o211.2.1 then
 ((Zf N o1.2.2.1).bind fun o212 =>
 (bif o212.2.1 then
 (some ((), (o1.2.2.2 == 0, ())))
 else
 (some ((), (false, ())))))
 else
 (some ((), (false, ())))))
 else
 (bif o1.1 == 14 then
 ((Zf N o1.2.1).bind fun o213 =>
 (bif o213.2.1 then
 ((Zb N o1.2.2.1).bind fun o214 =>
 (bif o214.2.1 then
 (some ((), (o1.2.2.2 == 0, ())))
 else
 (some ((), (false, ())))))
 else
 (some ((), (false, ())))))
 else
 (some ((), (false, ())))))))
 else
 (bif o1.1 == 10 then
 (bif o1.1 == 10 then
 (bif o1.2.1 == 0 then
 (bif o1.2.2.1 == 0 then
 (some ((), (o1.2.2.2 == 0, ())))
 else
 (some ((), (false, ()))))
 else
 (some ((), (false, ()))))
 else
 (bif o1.1 == 12 then
 ((Zf N o1.2.1).bind fun o215 =>
 (bif o215.2.1 then
 ((Zb N o1.2.2.1).bind fun o216 =>
 (bif o216.2.1 then
 ((Zb N o1.2.2.2).bind fun o217 =>
 (some ((), (o217.2.1, ()))))
 else
 (some ((), (false, ())))))
 else
 (some ((), (false, ())))))
 else
 (bif o1.1 == 13 then
 ((Zb N o1.2.1).bind fun o218 =>
 (bif o218.2.1 then
 ((Zf N o1.2.2.1).bind fun o219 =>
 (bif o219.2.1 then
 (some ((), (o1.2.2.2 == 0, ())))
 else
 (some ((), (false, ())))))
 else
 (some ((), (false, ())))))
 else
 (bif o1.1 == 14 then
 ((Zf N o1.2.1).bind fun o220 =>
 (bif o220.2.1 then
 ((Zb N o1.2.2.1).bind fun o221 =>
 (bif o221.2.1 then
 (some ((), (o1.2.2.2 == 0, ())))
 else
 (some ((), (false, ())))))
 else
 (some ((), (false, ())))))
 else
 (some ((), (false, ())))))))
 else
 (bif o1.1 == 11 then
 (bif o1.2.1 == 0 then
 (bif o1.2.2.1 == 0 then
 (some ((), (o1.2.2.2 == 0, ())))
 else
 (some ((), (false, ()))))
 else
 (some ((), (false, ()))))
 else
 (bif o1.1 == 12 then
 ((Zf N o1.2.1).bind fun o222 =>
 (bif o222.2.1 then
 ((Zb N o1.2.2.1).bind fun o223 =>
 (bif o223.2.1 then
 ((Zb N o1.2.2.2).bind fun o224 =>
 (some ((), (o224.2.1, ()))))
 else
 (some ((), (false, ())))))
 else
 (some ((), (false, ())))))
 else
 (bif o1.1 == 13 then
 ((Zb N o1.2.1).bind fun o225 =>
 (bif o225.2.1 then
 ((Zf N o1.2.2.1).bind fun o226 =>
 (bif o226.2.1 then
 (some ((), (o1.2.2.2 == 0, ())))
 else
 (some ((), (false, ())))))
 else
 (some ((), (false, ())))))
 else
 (bif o1.1 == 14 then
 ((Zf N o1.2.1).bind fun o227 =>
 (bif o227.2.1 then
 ((Zb N o1.2.2.1).bind fun o228 =>
 (bif o228.2.1 then
 (some ((), (o1.2.2.2 == 0, ())))
 else
 (some ((), (false, ())))))
 else
 (some ((), (false, ())))))
 else
 (some ((), (false, ())))))))))))))))))))
noncomputable def Z0 (N : Nat) (c1 : List Int × Int × Int) : Option (((List Int × Int × Int) × Unit) × (Int × Unit)) :=
    ((Zp N c1 8).bind fun o2 =>
 (bif o2.2.1 then
 ((Zc N o2.1.1 8).bind fun o3 =>
 (some ((o3.1.1, ()), (o3.2.1, ()))))
 else
 ((Zc N o2.1.1 3).bind fun o4 =>
 (some ((o4.1.1, ()), (o4.2.1, ()))))))
noncomputable def Zbo {R : Type} (N : Nat) (K0 : Int → Bool → (List Int × Int × Int) → (List (Int × Int)) → Option R) : Nat → Int → (List Int × Int × Int) → (List (Int × Int)) → Option R
  | 0, _, _, _ => none
  | n + 1, n4, b5, l6 =>
    (bif decide (n4 > 0) then
 ((Z0 N b5).bind fun o13 =>
 ((Zcn N o13.1.1).bind fun o14 =>
 (bif room ((List.length l6) + (List.length ([(o13.2.1, o14.2.1)]))) then
 (Zbo N K0 n (isub .i64 n4 1) o14.1.1 (List.append l6 ([(o13.2.1, o14.2.1)]))) else none)))
 else
 (K0 n4 (decide (n4 > 0)) b5 l6))
noncomputable def Zbf (N : Nat) (c1 : List Int × Int × Int) (most2 : Int) : Option (((List Int × Int × Int) × Unit) × ((List (Int × Int)) × Unit)) :=
    ((Zc N c1 (iadd .i64 most2 1)).bind fun o3 =>
 (Zbo N
 (fun n15 t16 b17 l18 =>
   (some ((b17, ()), (l18, ()))))
  N o3.2.1 o3.1.1 ([] : List (Int × Int))))
noncomputable def Zcf {R : Type} (N : Nat) (l4 : List (Int × Int)) (cell5 : Int) (K0 : Int → Option R) (K1 : Int → Bool → Option R) : Nat → Int → Option R
  | 0, _ => none
  | n + 1, i6 =>
    (bif decide (i6 ≥ 0) then
 (bif inb i6 (List.length l4) then
 (bif (List.getD l4 (Int.toNat i6) (0, 0)).1 == cell5 then
 (bif inb i6 (List.length l4) then
 (K0 (List.getD l4 (Int.toNat i6) (0, 0)).2) else none)
 else
 (Zcf N l4 cell5 K0 K1 n (isub .i64 i6 1))) else none)
 else
 (K1 i6 (decide (i6 ≥ 0))))
noncomputable def Zct (N : Nat) (l1 : List (Int × Int)) (cell2 : Int) : Option (Unit × (Int × (Bool × Unit))) :=
    ((Zam N l1).bind fun o3 =>
 (bif !o3.2.1 then
 (some ((), (0, (false, ()))))
 else
 (Zcf N l1 cell2
 (fun t10 =>
   (some ((), (t10, (true, ())))))
 (fun i11 t12 =>
   (some ((), (0, (false, ())))))
  N (isub .i64 (ilen l1) 1))))
noncomputable def Zbx {R : Type} (N : Nat) (l2 : List (Int × Int)) (K0 : Int → Bool → (List (Int × Int)) → Option R) : Nat → Int → (List (Int × Int)) → Option R
  | 0, _, _ => none
  | n + 1, i3, l4 =>
    (bif decide (i3 < 8) then
 ((Zct N l2 i3).bind fun o9 =>
 (bif o9.2.2.1 then
 (bif room ((List.length l4) + (List.length ([(i3, o9.2.1)]))) then
 (Zbx N l2 K0 n (iadd .i64 i3 1) (List.append l4 ([(i3, o9.2.1)]))) else none)
 else
 (Zbx N l2 K0 n (iadd .i64 i3 1) l4)))
 else
 (K0 i3 (decide (i3 < 8)) l4))
noncomputable def Zc2 (N : Nat) (l1 : List (Int × Int)) : Option (Unit × ((List (Int × Int)) × Unit)) :=
    (Zbx N l1
 (fun i10 t11 l12 =>
   (some ((), (l12, ()))))
  N 0 ([] : List (Int × Int)))
noncomputable def Zc3 (N : Nat) (c1 : List Int × Int × Int) (stamp2 : Int) : Option (((List Int × Int × Int) × Unit) × ((Int × Int × List (Int × Int)) × Unit)) :=
    ((Zc N c1 4).bind fun o3 =>
 ((Zbf N o3.1.1 4).bind fun o4 =>
 ((Zc2 N o4.2.1).bind fun o5 =>
 (some ((o4.1.1, ()), ((stamp2, (iadd .i64 1 o3.2.1, o5.2.1)), ()))))))
noncomputable def Zbh {R : Type} (N : Nat) (K0 : Int → Bool → (List Int) → Option R) : Nat → Int → (List Int) → Option R
  | 0, _, _ => none
  | n + 1, n3, l4 =>
    (bif decide (n3 ≥ 128) then
 (bif inz 128 then
 (bif room ((List.length l4) + (List.length ([(IntKind.wrap .u8 (iadd .i64 (128 : Int) (irem n3 (128 : Int))))]))) then
 (bif inz 128 then
 (Zbh N K0 n (iquo .i64 n3 128) (List.append l4 ([(IntKind.wrap .u8 (iadd .i64 128 (irem n3 128)))]))) else none) else none) else none)
 else
 (K0 n3 (decide (n3 ≥ 128)) l4))
noncomputable def Zw (N : Nat) (n1 : Int) : Option (Unit × ((List UInt8) × Unit)) :=
    ((Zd N n1 0 562949953421311).bind fun o2 =>
 (bif !o2.2.1 then
 (some ((), (([] : List UInt8), ())))
 else
 (Zbh N
 (fun n8 t9 l10 =>
   (bif room ((List.length l10) + (List.length ([(IntKind.wrap .u8 n8)]))) then
 (some ((), (toStr (List.append l10 ([(IntKind.wrap .u8 n8)])), ()))) else none))
  N n1 ([] : List Int))))
noncomputable def Za0 {R : Type} (N : Nat) (s5 : List UInt8) (i7 : Int) (K0 : Int → Int → Bool → Option R) : Nat → Int → Int → Option R
  | 0, _, _ => none
  | n + 1, c6, k8 =>
    (bif decide (k8 < 8) then
 (bif inz 2 then
 (bif inz 2 then
 (bif (irem c6 2) == 1 then
 (Za0 N s5 i7 K0 n (ixor .i64 (iquo .i64 c6 2) 2197175160) (iadd .i64 k8 1))
 else
 (Za0 N s5 i7 K0 n (iquo .i64 c6 2) (iadd .i64 k8 1))) else none) else none)
 else
 (K0 c6 k8 (decide (k8 < 8))))
noncomputable def Zby {R : Type} (N : Nat) (s2 : List UInt8) (K0 : Int → Int → Bool → Option R) : Nat → Int → Int → Option R
  | 0, _, _ => none
  | n + 1, c3, i4 =>
    (bif decide (i4 < (ilen s2)) then
 (bif inb i4 (List.length s2) then
 (Za0 N s2 i4
 (fun c18 k19 t20 =>
   (Zby N s2 K0 n c18 (iadd .i64 i4 1)))
  N (ixor .i64 c3 (IntKind.wrap .i64 (((UInt8.toNat (List.getD s2 (Int.toNat i4) (0 : UInt8)) : Nat) : Int)))) 0) else none)
 else
 (K0 c3 i4 (decide (i4 < (ilen s2)))))
noncomputable def Zc4 (N : Nat) (s1 : List UInt8) : Option (Unit × (Int × Unit)) :=
    (Zby N s1
 (fun c21 i22 t23 =>
   (some ((), (isub .i64 4294967295 c21, ()))))
  N 4294967295 0)
noncomputable def Zcv {R : Type} (N : Nat) (width5 : Int) (K0 : Int → (List UInt8) → Int → Bool → Option R) : Nat → Int → (List UInt8) → Int → Option R
  | 0, _, _, _ => none
  | n + 1, n4, out6, i7 =>
    (bif decide (i7 < width5) then
 (bif inz 256 then
 (bif sfit (toStr ([(IntKind.wrap .u8 (irem n4 256))])) out6 then
 (bif inz 256 then
 (Zcv N width5 K0 n (iquo .i64 n4 256) ((toStr ([(IntKind.wrap .u8 (irem n4 256))])) ++ out6) (iadd .i64 i7 1)) else none) else none) else none)
 else
 (K0 n4 out6 i7 (decide (i7 < width5))))
noncomputable def Zb8 (N : Nat) (n1 : Int) (width2 : Int) : Option (Unit × ((List UInt8) × Unit)) :=
    ((Zd N width2 1 7).bind fun o3 =>
 (bif !o3.2.1 then
 (some ((), (([] : List UInt8), ())))
 else
 (bif decide (n1 < 0) then
 (some ((), (([] : List UInt8), ())))
 else
 (Zcv N width2
 (fun n12 out13 i14 t15 =>
   (bif decide (n12 > 0) then
 (some ((), (([] : List UInt8), ())))
 else
 (some ((), (out13, ())))))
  N n1 ([] : List UInt8) 0))))
noncomputable def Zbc (N : Nat) (s1 : List UInt8) : Option (Unit × ((List UInt8) × Unit)) :=
    (bif decide ((ilen s1) > 120) then
 (some ((), (([] : List UInt8), ())))
 else
 ((Zw N (ilen s1)).bind fun o2 =>
 (bif sfit o2.2.1 s1 then
 ((Zc4 N (o2.2.1 ++ s1)).bind fun o3 =>
 ((Zb8 N o3.2.1 4).bind fun o4 =>
 (bif sfit o4.2.1 (o2.2.1 ++ s1) then
 (some ((), (o4.2.1 ++ (o2.2.1 ++ s1), ()))) else none))) else none)))
noncomputable def Zr {R : Type} (N : Nat) (s2 : List UInt8) (K0 : (List UInt8) → Int → Option R) (K1 : Int → Bool → Option R) : Nat → Int → Option R
  | 0, _ => none
  | n + 1, n3 =>
    (bif decide (n3 ≤ 120) then
 ((Zw N n3).bind fun o15 =>
 (both
 (bif decide ((ilen s2) ≥ (iadd .i64 (iadd .i64 4 (ilen o15.2.1)) n3)) then
 (bif (((decide ((0 : Int) ≤ (iadd .i64 4 (ilen o15.2.1)))) && (decide ((iadd .i64 4 (ilen o15.2.1)) ≤ ((List.length s2) : Int)))) && (decide ((0 : Int) ≤ 4))) && (decide ((4 : Int) ≤ (iadd .i64 4 (ilen o15.2.1)))) then
 ((Zw N n3).bind fun o16 =>
 (bif seq (List.drop (Int.toNat 4) (List.take (Int.toNat (iadd .i64 4 (ilen o15.2.1))) s2)) o16.2.1 then
 (bif (((decide ((0 : Int) ≤ (iadd .i64 (iadd .i64 4 (ilen o15.2.1)) n3))) && (decide ((iadd .i64 (iadd .i64 4 (ilen o15.2.1)) n3) ≤ ((List.length s2) : Int)))) && (decide ((0 : Int) ≤ (iadd .i64 4 (ilen o15.2.1))))) && (decide ((iadd .i64 4 (ilen o15.2.1)) ≤ (iadd .i64 (iadd .i64 4 (ilen o15.2.1)) n3))) then
 (both
 (bif (decide ((0 : Int) ≤ (iadd .i64 (iadd .i64 4 (ilen o15.2.1)) n3))) && (decide ((iadd .i64 (iadd .i64 4 (ilen o15.2.1)) n3) ≤ ((List.length s2) : Int))) then
 ((Zbc N (List.drop (Int.toNat (iadd .i64 4 (ilen o15.2.1))) (List.take (Int.toNat (iadd .i64 (iadd .i64 4 (ilen o15.2.1)) n3)) s2))).bind fun o17 =>
 (bif seq (List.take (Int.toNat (iadd .i64 (iadd .i64 4 (ilen o15.2.1)) n3)) s2) o17.2.1 then
 (K0 (List.drop (Int.toNat (iadd .i64 4 (ilen o15.2.1))) (List.take (Int.toNat (iadd .i64 (iadd .i64 4 (ilen o15.2.1)) n3)) s2)) (iadd .i64 (iadd .i64 4 (ilen o15.2.1)) n3))
 else
 (Zr N s2 K0 K1 n (iadd .i64 n3 1)))) else none)
 ((Zbc N (List.drop (Int.toNat (iadd .i64 4 (ilen o15.2.1))) (List.take (Int.toNat (iadd .i64 (iadd .i64 4 (ilen o15.2.1)) n3)) s2))).bind fun o18 =>
 (bif (decide ((0 : Int) ≤ (iadd .i64 (iadd .i64 4 (ilen o15.2.1)) n3))) && (decide ((iadd .i64 (iadd .i64 4 (ilen o15.2.1)) n3) ≤ ((List.length s2) : Int))) then
 (bif seq (List.take (Int.toNat (iadd .i64 (iadd .i64 4 (ilen o15.2.1)) n3)) s2) o18.2.1 then
 (K0 (List.drop (Int.toNat (iadd .i64 4 (ilen o15.2.1))) (List.take (Int.toNat (iadd .i64 (iadd .i64 4 (ilen o15.2.1)) n3)) s2)) (iadd .i64 (iadd .i64 4 (ilen o15.2.1)) n3))
 else
 (Zr N s2 K0 K1 n (iadd .i64 n3 1))) else none))) else none)
 else
 (Zr N s2 K0 K1 n (iadd .i64 n3 1)))) else none)
 else
 (Zr N s2 K0 K1 n (iadd .i64 n3 1)))
 (bif decide ((ilen s2) ≥ (iadd .i64 (iadd .i64 4 (ilen o15.2.1)) n3)) then
 ((Zw N n3).bind fun o19 =>
 (bif (((decide ((0 : Int) ≤ (iadd .i64 4 (ilen o15.2.1)))) && (decide ((iadd .i64 4 (ilen o15.2.1)) ≤ ((List.length s2) : Int)))) && (decide ((0 : Int) ≤ 4))) && (decide ((4 : Int) ≤ (iadd .i64 4 (ilen o15.2.1)))) then
 (bif seq (List.drop (Int.toNat 4) (List.take (Int.toNat (iadd .i64 4 (ilen o15.2.1))) s2)) o19.2.1 then
 (bif (((decide ((0 : Int) ≤ (iadd .i64 (iadd .i64 4 (ilen o15.2.1)) n3))) && (decide ((iadd .i64 (iadd .i64 4 (ilen o15.2.1)) n3) ≤ ((List.length s2) : Int)))) && (decide ((0 : Int) ≤ (iadd .i64 4 (ilen o15.2.1))))) && (decide ((iadd .i64 4 (ilen o15.2.1)) ≤ (iadd .i64 (iadd .i64 4 (ilen o15.2.1)) n3))) then
 (both
 (bif (decide ((0 : Int) ≤ (iadd .i64 (iadd .i64 4 (ilen o15.2.1)) n3))) && (decide ((iadd .i64 (iadd .i64 4 (ilen o15.2.1)) n3) ≤ ((List.length s2) : Int))) then
 ((Zbc N (List.drop (Int.toNat (iadd .i64 4 (ilen o15.2.1))) (List.take (Int.toNat (iadd .i64 (iadd .i64 4 (ilen o15.2.1)) n3)) s2))).bind fun o20 =>
 (bif seq (List.take (Int.toNat (iadd .i64 (iadd .i64 4 (ilen o15.2.1)) n3)) s2) o20.2.1 then
 (K0 (List.drop (Int.toNat (iadd .i64 4 (ilen o15.2.1))) (List.take (Int.toNat (iadd .i64 (iadd .i64 4 (ilen o15.2.1)) n3)) s2)) (iadd .i64 (iadd .i64 4 (ilen o15.2.1)) n3))
 else
 (Zr N s2 K0 K1 n (iadd .i64 n3 1)))) else none)
 ((Zbc N (List.drop (Int.toNat (iadd .i64 4 (ilen o15.2.1))) (List.take (Int.toNat (iadd .i64 (iadd .i64 4 (ilen o15.2.1)) n3)) s2))).bind fun o21 =>
 (bif (decide ((0 : Int) ≤ (iadd .i64 (iadd .i64 4 (ilen o15.2.1)) n3))) && (decide ((iadd .i64 (iadd .i64 4 (ilen o15.2.1)) n3) ≤ ((List.length s2) : Int))) then
 (bif seq (List.take (Int.toNat (iadd .i64 (iadd .i64 4 (ilen o15.2.1)) n3)) s2) o21.2.1 then
 (K0 (List.drop (Int.toNat (iadd .i64 4 (ilen o15.2.1))) (List.take (Int.toNat (iadd .i64 (iadd .i64 4 (ilen o15.2.1)) n3)) s2)) (iadd .i64 (iadd .i64 4 (ilen o15.2.1)) n3))
 else
 (Zr N s2 K0 K1 n (iadd .i64 n3 1))) else none))) else none)
 else
 (Zr N s2 K0 K1 n (iadd .i64 n3 1))) else none))
 else
 (Zr N s2 K0 K1 n (iadd .i64 n3 1)))))
 else
 (K1 n3 (decide (n3 ≤ 120))))
noncomputable def Zbz (N : Nat) (s1 : List UInt8) : Option (Unit × ((List UInt8) × (Int × Unit))) :=
    (Zr N s1
 (fun t22 t23 =>
   (some ((), (t22, (t23, ())))))
 (fun n24 t25 =>
   (some ((), (([] : List UInt8), (0, ())))))
  N 0)
noncomputable def Zbi {R : Type} (N : Nat) (s4 : List UInt8) (k5 : Int) (K0 : Int → Int → Bool → Option R) : Nat → Int → Int → Option R
  | 0, _, _ => none
  | n + 1, n6, i7 =>
    (bif decide (i7 ≥ 0) then
 (bif inb i7 (List.length s4) then
 (bif inz 128 then
 (Zbi N s4 k5 K0 n (iadd .i64 (imul .i64 n6 128) (irem (IntKind.wrap .i64 (((UInt8.toNat (List.getD s4 (Int.toNat i7) (0 : UInt8)) : Nat) : Int))) 128)) (isub .i64 i7 1)) else none) else none)
 else
 (K0 n6 i7 (decide (i7 ≥ 0))))
noncomputable def Z7 {R : Type} (N : Nat) (s2 : List UInt8) (K0 : Int → Int → Option R) (K1 : Int → Bool → Option R) : Nat → Int → Option R
  | 0, _ => none
  | n + 1, k3 =>
    (bif decide (k3 ≤ 7) then
 (bif decide (k3 ≤ (ilen s2)) then
 (Zbi N s2 k3
 (fun n20 i21 t22 =>
   (both
 ((Zw N n20).bind fun o23 =>
 (bif (decide ((0 : Int) ≤ k3)) && (decide (k3 ≤ ((List.length s2) : Int))) then
 (bif seq o23.2.1 (List.take (Int.toNat k3) s2) then
 (K0 n20 k3)
 else
 (Z7 N s2 K0 K1 n (iadd .i64 k3 1))) else none))
 (bif (decide ((0 : Int) ≤ k3)) && (decide (k3 ≤ ((List.length s2) : Int))) then
 ((Zw N n20).bind fun o24 =>
 (bif seq o24.2.1 (List.take (Int.toNat k3) s2) then
 (K0 n20 k3)
 else
 (Z7 N s2 K0 K1 n (iadd .i64 k3 1)))) else none)))
  N 0 (isub .i64 k3 1))
 else
 (K1 k3 (decide (k3 ≤ (ilen s2)))))
 else
 (K1 k3 false))
noncomputable def Zb0 (N : Nat) (s1 : List UInt8) : Option (Unit × (Int × (Int × Unit))) :=
    (Z7 N s1
 (fun t25 t26 =>
   (some ((), (t25, (t26, ())))))
 (fun k27 t28 =>
   (some ((), (0, (0, ())))))
  N 1)
noncomputable def Zar {R : Type} (N : Nat) (s4 : List UInt8) (n6 : Int) (K0 : Option R) (K1 : Int → Int → Bool → (List Int) → Option R) : Nat → Int → Int → (List Int) → Option R
  | 0, _, _, _ => none
  | n + 1, at5, i7, l8 =>
    (bif decide (i7 < n6) then
 (bif (decide ((0 : Int) ≤ at5)) && (decide (at5 ≤ ((List.length s4) : Int))) then
 ((Zb0 N (List.drop (Int.toNat at5) s4)).bind fun o14 =>
 (bif o14.2.2.1 == 0 then
 (bif ((decide ((0 : Int) ≤ n6)) && (decide (n6 ≤ n6))) && (room (Int.toNat n6)) then
 K0 else none)
 else
 (bif room ((List.length l8) + (List.length ([o14.2.1]))) then
 (Zar N s4 n6 K0 K1 n (iadd .i64 at5 o14.2.2.1) (iadd .i64 i7 1) (List.append l8 ([o14.2.1]))) else none))) else none)
 else
 (K1 at5 i7 (decide (i7 < n6)) l8))
noncomputable def Za1 (N : Nat) (s1 : List UInt8) (at2 : Int) (n3 : Int) : Option (Unit × ((List Int) × (Int × Unit))) :=
    (Zar N s1 n3
 (some ((), (List.replicate (Int.toNat n3) 0, ((-1 : Int), ()))))
 (fun at15 i16 t17 l18 =>
   (some ((), (l18, (at15, ())))))
  N at2 0 ([] : List Int))
noncomputable def Zb1 {R : Type} (N : Nat) (b6 : Int × Int × List (Int × Int)) (K0 : Option R) (K1 : Int → Bool → Option R) : Nat → Int → Option R
  | 0, _ => none
  | n + 1, i5 =>
    (bif decide (i5 < (ilen b6.2.2)) then
 (bif inb i5 (List.length b6.2.2) then
 (bif inb (isub .i64 i5 1) (List.length b6.2.2) then
 (bif decide ((List.getD b6.2.2 (Int.toNat i5) (0, 0)).1 ≤ (List.getD b6.2.2 (Int.toNat (isub .i64 i5 1)) (0, 0)).1) then
 K0
 else
 (Zb1 N b6 K0 K1 n (iadd .i64 i5 1))) else none) else none)
 else
 (K1 i5 (decide (i5 < (ilen b6.2.2)))))
noncomputable def Zb9 (N : Nat) (w1 : Int × Int × List (Int × Int)) : Option (Unit × (Bool × Unit)) :=
    ((Zd N w1.1 1 1000000).bind fun o2 =>
 (bif !o2.2.1 then
 (some ((), (false, ())))
 else
 ((Zd N w1.2.1 1 99).bind fun o3 =>
 (bif !o3.2.1 then
 (some ((), (false, ())))
 else
 ((Zam N w1.2.2).bind fun o4 =>
 (bif !o4.2.1 then
 (some ((), (false, ())))
 else
 (Zb1 N w1
 (some ((), (false, ())))
 (fun i9 t10 =>
   (some ((), (true, ()))))
  N 1)))))))
noncomputable def Zag {R : Type} (N : Nat) (b8 : Int × Int × List (Int × Int)) (K0 : (List UInt8) → Int → Bool → Option R) : Nat → (List UInt8) → Int → Option R
  | 0, _, _ => none
  | n + 1, s6, i7 =>
    (bif decide (i7 < (ilen b8.2.2)) then
 (bif inb i7 (List.length b8.2.2) then
 ((Zw N (List.getD b8.2.2 (Int.toNat i7) (0, 0)).1).bind fun o14 =>
 (bif sfit s6 o14.2.1 then
 (bif inb i7 (List.length b8.2.2) then
 ((Zw N (List.getD b8.2.2 (Int.toNat i7) (0, 0)).2).bind fun o15 =>
 (bif sfit (s6 ++ o14.2.1) o15.2.1 then
 (Zag N b8 K0 n ((s6 ++ o14.2.1) ++ o15.2.1) (iadd .i64 i7 1)) else none)) else none) else none)) else none)
 else
 (K0 s6 i7 (decide (i7 < (ilen b8.2.2)))))
noncomputable def Zz (N : Nat) (w1 : Int × Int × List (Int × Int)) : Option (Unit × ((List UInt8) × Unit)) :=
    ((Zb9 N w1).bind fun o2 =>
 (bif !o2.2.1 then
 (some ((), (([] : List UInt8), ())))
 else
 ((Zw N w1.1).bind fun o3 =>
 ((Zw N w1.2.1).bind fun o4 =>
 (bif sfit o3.2.1 o4.2.1 then
 ((Zw N (ilen w1.2.2)).bind fun o5 =>
 (bif sfit (o3.2.1 ++ o4.2.1) o5.2.1 then
 (Zag N w1
 (fun s16 i17 t18 =>
   (some ((), (s16, ()))))
  N ((o3.2.1 ++ o4.2.1) ++ o5.2.1) 0) else none)) else none)))))
noncomputable def Zah {R : Type} (N : Nat) (s3 : List UInt8) (l8 : List Int) (b9 : Int) (b10 : Int) (K0 : Option R) (K1 : Int → Int → Bool → (List (Int × Int)) → Option R) : Nat → Int → Int → (List (Int × Int)) → Option R
  | 0, _, _, _ => none
  | n + 1, at4, i5, l11 =>
    (bif inb 2 (List.length l8) then
 (bif decide (i5 < (List.getD l8 (Int.toNat 2) 0)) then
 ((Za1 N s3 at4 2).bind fun o18 =>
 (bif decide (o18.2.2.1 < 0) then
 K0
 else
 (bif inb 0 (List.length o18.2.1) then
 (bif inb 1 (List.length o18.2.1) then
 (bif room ((List.length l11) + (List.length ([(List.getD o18.2.1 (Int.toNat (0 : Int)) (0 : Int), List.getD o18.2.1 (Int.toNat (1 : Int)) (0 : Int))]))) then
 (Zah N s3 l8 b9 b10 K0 K1 n o18.2.2.1 (iadd .i64 i5 1) (List.append l11 ([(List.getD o18.2.1 (Int.toNat 0) 0, List.getD o18.2.1 (Int.toNat 1) 0)]))) else none) else none) else none)))
 else
 (K1 at4 i5 (decide (i5 < (List.getD l8 (Int.toNat 2) 0))) l11)) else none)
noncomputable def Zas (N : Nat) (s1 : List UInt8) : Option (Unit × ((Int × Int × List (Int × Int)) × (Bool × Unit))) :=
    ((Za1 N s1 0 3).bind fun o2 =>
 (bif decide (o2.2.2.1 < 0) then
 (some ((), ((0, (0, ([] : List (Int × Int)))), (false, ()))))
 else
 (bif inb 2 (List.length o2.2.1) then
 (bif decide ((List.getD o2.2.1 (Int.toNat 2) 0) > 8) then
 (some ((), ((0, (0, ([] : List (Int × Int)))), (false, ()))))
 else
 (bif inb 0 (List.length o2.2.1) then
 (bif inb 1 (List.length o2.2.1) then
 (Zah N s1 o2.2.1 (List.getD o2.2.1 (Int.toNat 0) 0) (List.getD o2.2.1 (Int.toNat 1) 0)
 (some ((), ((0, (0, ([] : List (Int × Int)))), (false, ()))))
 (fun at19 i20 t21 l22 =>
   ((Zz N (List.getD o2.2.1 (Int.toNat 0) 0, (List.getD o2.2.1 (Int.toNat 1) 0, l22))).bind fun o23 =>
 (bif !(seq o23.2.1 s1) then
 (some ((), ((0, (0, ([] : List (Int × Int)))), (false, ()))))
 else
 (some ((), ((List.getD o2.2.1 (Int.toNat 0) 0, (List.getD o2.2.1 (Int.toNat 1) 0, l22)), (true, ())))))))
  N o2.2.2.1 0 ([] : List (Int × Int))) else none) else none)) else none)))
noncomputable def Zv {R : Type} (N : Nat) (log2 : List UInt8) (K0 : Int → Int → Bool → (List (Int × Int × List (Int × Int))) → Int → Int → (List (Int × Int)) → Option R) (K1 : Int → Bool → (List (Int × Int × List (Int × Int))) → Option R) : Nat → Int → (List (Int × Int × List (Int × Int))) → Option R
  | 0, _, _ => none
  | n + 1, at3, l4 =>
    (bif decide ((ilen l4) < 200) then
 (bif (decide ((0 : Int) ≤ at3)) && (decide (at3 ≤ ((List.length log2) : Int))) then
 ((Zbz N (List.drop (Int.toNat at3) log2)).bind fun o17 =>
 ((Zas N o17.2.1).bind fun o18 =>
 (bif o17.2.2.1 == 0 then
 (K0 at3 o17.2.2.1 true l4 o18.2.1.1 o18.2.1.2.1 o18.2.1.2.2)
 else
 (bif !o18.2.2.1 then
 (K0 at3 o17.2.2.1 true l4 o18.2.1.1 o18.2.1.2.1 o18.2.1.2.2)
 else
 (bif decide ((ilen l4) > 0) then
 (bif inb (isub .i64 (ilen l4) 1) (List.length l4) then
 (bif decide (o18.2.1.1 ≤ (List.getD l4 (Int.toNat (isub .i64 (ilen l4) 1)) (0, (0, ([] : List (Int × Int))))).1) then
 (K0 at3 o17.2.2.1 (decide (o18.2.1.1 ≤ (List.getD l4 (Int.toNat (isub .i64 (ilen l4) 1)) (0, (0, ([] : List (Int × Int))))).1)) l4 o18.2.1.1 o18.2.1.2.1 o18.2.1.2.2)
 else
 (bif room ((List.length l4) + (List.length ([o18.2.1]))) then
 (Zv N log2 K0 K1 n (iadd .i64 at3 o17.2.2.1) (List.append l4 ([o18.2.1]))) else none)) else none)
 else
 (bif room ((List.length l4) + (List.length ([o18.2.1]))) then
 (Zv N log2 K0 K1 n (iadd .i64 at3 o17.2.2.1) (List.append l4 ([o18.2.1]))) else none)))))) else none)
 else
 (K1 at3 (decide ((ilen l4) < 200)) l4))
noncomputable def Zac (N : Nat) (log1 : List UInt8) : Option (Unit × ((List (Int × Int × List (Int × Int))) × (Int × Unit))) :=
    (Zv N log1
 (fun at19 n20 t21 l22 b23 b24 l25 =>
   (some ((), (l22, (at19, ())))))
 (fun at26 t27 l28 =>
   (some ((), (l28, (at26, ())))))
  N 0 ([] : List (Int × Int × List (Int × Int))))
noncomputable def Zdf (N : Nat) (log1 : List UInt8) (w2 : Int × Int × List (Int × Int)) : Option (Unit × ((List UInt8) × (Bool × Unit))) :=
    ((Zac N log1).bind fun o3 =>
 ((Zz N w2).bind fun o4 =>
 ((Zbc N o4.2.1).bind fun o5 =>
 ((Zz N w2).bind fun o6 =>
 (bif seq o6.2.1 ([] : List UInt8) then
 (some ((), (log1, (false, ()))))
 else
 (bif decide ((ilen o3.2.1) ≥ 200) then
 (some ((), (log1, (false, ()))))
 else
 (bif decide ((ilen o3.2.1) > 0) then
 (bif inb (isub .i64 (ilen o3.2.1) 1) (List.length o3.2.1) then
 (bif decide (w2.1 ≤ (List.getD o3.2.1 (Int.toNat (isub .i64 (ilen o3.2.1) 1)) (0, (0, ([] : List (Int × Int))))).1) then
 (some ((), (log1, (false, ()))))
 else
 (bif (decide ((0 : Int) ≤ o3.2.2.1)) && (decide (o3.2.2.1 ≤ ((List.length log1) : Int))) then
 (bif sfit (List.take (Int.toNat o3.2.2.1) log1) o5.2.1 then
 (some ((), ((List.take (Int.toNat o3.2.2.1) log1) ++ o5.2.1, (true, ())))) else none) else none)) else none)
 else
 (bif (decide ((0 : Int) ≤ o3.2.2.1)) && (decide (o3.2.2.1 ≤ ((List.length log1) : Int))) then
 (bif sfit (List.take (Int.toNat o3.2.2.1) log1) o5.2.1 then
 (some ((), ((List.take (Int.toNat o3.2.2.1) log1) ++ o5.2.1, (true, ())))) else none) else none))))))))
noncomputable def Zbp {R : Type} (N : Nat) (K0 : (List UInt8) → Int → Int → Bool → (List Int × Int × Int) → Option R) : Nat → (List UInt8) → Int → Int → (List Int × Int × Int) → Option R
  | 0, _, _, _, _ => none
  | n + 1, log3, at4, n5, b6 =>
    (bif decide (n5 > 0) then
 ((Zc N b6 3).bind fun o15 =>
 ((Zc3 N o15.1.1 (iadd .i64 (iadd .i64 at4 1) o15.2.1)).bind fun o16 =>
 ((Zdf N log3 o16.2.1).bind fun o17 =>
 (Zbp N K0 n o17.2.1 (iadd .i64 (iadd .i64 at4 1) o15.2.1) (isub .i64 n5 1) o16.1.1))))
 else
 (K0 log3 at4 n5 (decide (n5 > 0)) b6))
noncomputable def Zbs (N : Nat) (c1 : List Int × Int × Int) : Option (((List Int × Int × Int) × Unit) × ((List UInt8) × Unit)) :=
    ((Zc N c1 6).bind fun o2 =>
 (Zbp N
 (fun log18 at19 n20 t21 b22 =>
   (some ((b22, ()), (log18, ()))))
  N ([] : List UInt8) 0 o2.2.1 o2.1.1))
noncomputable def Z4 {R : Type} (N : Nat) (style5 : Int) (K0 : Int → Bool → (List Int × Int × Int) → (List Int) → Option R) : Nat → Int → (List Int × Int × Int) → (List Int) → Option R
  | 0, _, _, _ => none
  | n + 1, n6, b7, l8 =>
    (bif decide (n6 > 0) then
 ((Zm N b7).bind fun o14 =>
 (bif style5 == 1 then
 (bif inz 2 then
 (bif style5 == 2 then
 (bif inz 4 then
 (bif room ((List.length l8) + (List.length ([(IntKind.wrap .u8 (iadd .i64 (97 : Int) (irem (irem o14.2.1 (2 : Int)) (4 : Int))))]))) then
 (Z4 N style5 K0 n (isub .i64 n6 1) o14.1.1 (List.append l8 ([(IntKind.wrap .u8 (iadd .i64 97 (irem (irem o14.2.1 2) 4)))]))) else none) else none)
 else
 (bif room ((List.length l8) + (List.length ([(IntKind.wrap .u8 (irem o14.2.1 (2 : Int)))]))) then
 (Z4 N style5 K0 n (isub .i64 n6 1) o14.1.1 (List.append l8 ([(IntKind.wrap .u8 (irem o14.2.1 2))]))) else none)) else none)
 else
 (bif style5 == 2 then
 (bif inz 4 then
 (bif room ((List.length l8) + (List.length ([(IntKind.wrap .u8 (iadd .i64 (97 : Int) (irem o14.2.1 (4 : Int))))]))) then
 (Z4 N style5 K0 n (isub .i64 n6 1) o14.1.1 (List.append l8 ([(IntKind.wrap .u8 (iadd .i64 97 (irem o14.2.1 4)))]))) else none) else none)
 else
 (bif room ((List.length l8) + (List.length ([(IntKind.wrap .u8 o14.2.1)]))) then
 (Z4 N style5 K0 n (isub .i64 n6 1) o14.1.1 (List.append l8 ([(IntKind.wrap .u8 o14.2.1)]))) else none))))
 else
 (K0 n6 (decide (n6 > 0)) b7 l8))
noncomputable def Zbg (N : Nat) (c1 : List Int × Int × Int) (most2 : Int) : Option (((List Int × Int × Int) × Unit) × ((List UInt8) × Unit)) :=
    ((Zc N c1 4).bind fun o3 =>
 ((Zc N o3.1.1 (iadd .i64 most2 1)).bind fun o4 =>
 (Z4 N o3.2.1
 (fun n15 t16 b17 l18 =>
   (some ((b17, ()), (toStr l18, ()))))
  N o4.2.1 o4.1.1 ([] : List Int))))
noncomputable def Zew (N : Nat) (c1 : List Int × Int × Int) (s2 : List UInt8) : Option (((List Int × Int × Int) × Unit) × ((List UInt8) × Unit)) :=
    (bif (ilen s2) == 0 then
 ((Zbg N c1 3).bind fun o3 =>
 (some ((o3.1.1, ()), (o3.2.1, ()))))
 else
 ((Zc N c1 (ilen s2)).bind fun o4 =>
 ((Zc N o4.1.1 4).bind fun o5 =>
 (bif o5.2.1 == 0 then
 (both
 (bif (decide ((0 : Int) ≤ o4.2.1)) && (decide (o4.2.1 ≤ ((List.length s2) : Int))) then
 (bif (decide ((0 : Int) ≤ (iadd .i64 o4.2.1 1))) && (decide ((iadd .i64 o4.2.1 1) ≤ ((List.length s2) : Int))) then
 (bif sfit (List.take (Int.toNat o4.2.1) s2) (List.drop (Int.toNat (iadd .i64 o4.2.1 1)) s2) then
 (some ((o5.1.1, ()), ((List.take (Int.toNat o4.2.1) s2) ++ (List.drop (Int.toNat (iadd .i64 o4.2.1 1)) s2), ()))) else none) else none) else none)
 (bif (decide ((0 : Int) ≤ (iadd .i64 o4.2.1 1))) && (decide ((iadd .i64 o4.2.1 1) ≤ ((List.length s2) : Int))) then
 (bif (decide ((0 : Int) ≤ o4.2.1)) && (decide (o4.2.1 ≤ ((List.length s2) : Int))) then
 (bif sfit (List.take (Int.toNat o4.2.1) s2) (List.drop (Int.toNat (iadd .i64 o4.2.1 1)) s2) then
 (some ((o5.1.1, ()), ((List.take (Int.toNat o4.2.1) s2) ++ (List.drop (Int.toNat (iadd .i64 o4.2.1 1)) s2), ()))) else none) else none) else none))
 else
 (bif o5.2.1 == 1 then
 (both
 (bif (decide ((0 : Int) ≤ o4.2.1)) && (decide (o4.2.1 ≤ ((List.length s2) : Int))) then
 ((Zm N o5.1.1).bind fun o6 =>
 (bif sfit (List.take (Int.toNat o4.2.1) s2) (toStr ([(IntKind.wrap .u8 o6.2.1)])) then
 (bif (decide ((0 : Int) ≤ o4.2.1)) && (decide (o4.2.1 ≤ ((List.length s2) : Int))) then
 (bif sfit ((List.take (Int.toNat o4.2.1) s2) ++ (toStr ([(IntKind.wrap .u8 o6.2.1)]))) (List.drop (Int.toNat o4.2.1) s2) then
 (some ((o6.1.1, ()), (((List.take (Int.toNat o4.2.1) s2) ++ (toStr ([(IntKind.wrap .u8 o6.2.1)]))) ++ (List.drop (Int.toNat o4.2.1) s2), ()))) else none) else none) else none)) else none)
 (both
 (bif (decide ((0 : Int) ≤ o4.2.1)) && (decide (o4.2.1 ≤ ((List.length s2) : Int))) then
 ((Zm N o5.1.1).bind fun o7 =>
 (bif (decide ((0 : Int) ≤ o4.2.1)) && (decide (o4.2.1 ≤ ((List.length s2) : Int))) then
 (bif sfit (List.take (Int.toNat o4.2.1) s2) (toStr ([(IntKind.wrap .u8 o7.2.1)])) then
 (bif sfit ((List.take (Int.toNat o4.2.1) s2) ++ (toStr ([(IntKind.wrap .u8 o7.2.1)]))) (List.drop (Int.toNat o4.2.1) s2) then
 (some ((o7.1.1, ()), (((List.take (Int.toNat o4.2.1) s2) ++ (toStr ([(IntKind.wrap .u8 o7.2.1)]))) ++ (List.drop (Int.toNat o4.2.1) s2), ()))) else none) else none) else none)) else none)
 (both
 (bif (decide ((0 : Int) ≤ o4.2.1)) && (decide (o4.2.1 ≤ ((List.length s2) : Int))) then
 (bif (decide ((0 : Int) ≤ o4.2.1)) && (decide (o4.2.1 ≤ ((List.length s2) : Int))) then
 ((Zm N o5.1.1).bind fun o8 =>
 (bif sfit (List.take (Int.toNat o4.2.1) s2) (toStr ([(IntKind.wrap .u8 o8.2.1)])) then
 (bif sfit ((List.take (Int.toNat o4.2.1) s2) ++ (toStr ([(IntKind.wrap .u8 o8.2.1)]))) (List.drop (Int.toNat o4.2.1) s2) then
 (some ((o8.1.1, ()), (((List.take (Int.toNat o4.2.1) s2) ++ (toStr ([(IntKind.wrap .u8 o8.2.1)]))) ++ (List.drop (Int.toNat o4.2.1) s2), ()))) else none) else none)) else none) else none)
 (both
 ((Zm N o5.1.1).bind fun o9 =>
 (bif (decide ((0 : Int) ≤ o4.2.1)) && (decide (o4.2.1 ≤ ((List.length s2) : Int))) then
 (bif sfit (List.take (Int.toNat o4.2.1) s2) (toStr ([(IntKind.wrap .u8 o9.2.1)])) then
 (bif (decide ((0 : Int) ≤ o4.2.1)) && (decide (o4.2.1 ≤ ((List.length s2) : Int))) then
 (bif sfit ((List.take (Int.toNat o4.2.1) s2) ++ (toStr ([(IntKind.wrap .u8 o9.2.1)]))) (List.drop (Int.toNat o4.2.1) s2) then
 (some ((o9.1.1, ()), (((List.take (Int.toNat o4.2.1) s2) ++ (toStr ([(IntKind.wrap .u8 o9.2.1)]))) ++ (List.drop (Int.toNat o4.2.1) s2), ()))) else none) else none) else none) else none))
 (both
 ((Zm N o5.1.1).bind fun o10 =>
 (bif (decide ((0 : Int) ≤ o4.2.1)) && (decide (o4.2.1 ≤ ((List.length s2) : Int))) then
 (bif (decide ((0 : Int) ≤ o4.2.1)) && (decide (o4.2.1 ≤ ((List.length s2) : Int))) then
 (bif sfit (List.take (Int.toNat o4.2.1) s2) (toStr ([(IntKind.wrap .u8 o10.2.1)])) then
 (bif sfit ((List.take (Int.toNat o4.2.1) s2) ++ (toStr ([(IntKind.wrap .u8 o10.2.1)]))) (List.drop (Int.toNat o4.2.1) s2) then
 (some ((o10.1.1, ()), (((List.take (Int.toNat o4.2.1) s2) ++ (toStr ([(IntKind.wrap .u8 o10.2.1)]))) ++ (List.drop (Int.toNat o4.2.1) s2), ()))) else none) else none) else none) else none))
 (both
 ((Zm N o5.1.1).bind fun o11 =>
 (bif (decide ((0 : Int) ≤ o4.2.1)) && (decide (o4.2.1 ≤ ((List.length s2) : Int))) then
 (bif sfit (List.take (Int.toNat o4.2.1) s2) (toStr ([(IntKind.wrap .u8 o11.2.1)])) then
 (bif (decide ((0 : Int) ≤ o4.2.1)) && (decide (o4.2.1 ≤ ((List.length s2) : Int))) then
 (bif sfit ((List.take (Int.toNat o4.2.1) s2) ++ (toStr ([(IntKind.wrap .u8 o11.2.1)]))) (List.drop (Int.toNat o4.2.1) s2) then
 (some ((o11.1.1, ()), (((List.take (Int.toNat o4.2.1) s2) ++ (toStr ([(IntKind.wrap .u8 o11.2.1)]))) ++ (List.drop (Int.toNat o4.2.1) s2), ()))) else none) else none) else none) else none))
 (both
 ((Zm N o5.1.1).bind fun o12 =>
 (bif (decide ((0 : Int) ≤ o4.2.1)) && (decide (o4.2.1 ≤ ((List.length s2) : Int))) then
 (bif (decide ((0 : Int) ≤ o4.2.1)) && (decide (o4.2.1 ≤ ((List.length s2) : Int))) then
 (bif sfit (List.take (Int.toNat o4.2.1) s2) (toStr ([(IntKind.wrap .u8 o12.2.1)])) then
 (bif sfit ((List.take (Int.toNat o4.2.1) s2) ++ (toStr ([(IntKind.wrap .u8 o12.2.1)]))) (List.drop (Int.toNat o4.2.1) s2) then
 (some ((o12.1.1, ()), (((List.take (Int.toNat o4.2.1) s2) ++ (toStr ([(IntKind.wrap .u8 o12.2.1)]))) ++ (List.drop (Int.toNat o4.2.1) s2), ()))) else none) else none) else none) else none))
 (both
 ((Zm N o5.1.1).bind fun o13 =>
 (bif (decide ((0 : Int) ≤ o4.2.1)) && (decide (o4.2.1 ≤ ((List.length s2) : Int))) then
 (bif (decide ((0 : Int) ≤ o4.2.1)) && (decide (o4.2.1 ≤ ((List.length s2) : Int))) then
 (bif sfit (List.take (Int.toNat o4.2.1) s2) (toStr ([(IntKind.wrap .u8 o13.2.1)])) then
 (bif sfit ((List.take (Int.toNat o4.2.1) s2) ++ (toStr ([(IntKind.wrap .u8 o13.2.1)]))) (List.drop (Int.toNat o4.2.1) s2) then
 (some ((o13.1.1, ()), (((List.take (Int.toNat o4.2.1) s2) ++ (toStr ([(IntKind.wrap .u8 o13.2.1)]))) ++ (List.drop (Int.toNat o4.2.1) s2), ()))) else none) else none) else none) else none))
 (both
 ((Zm N o5.1.1).bind fun o14 =>
 (bif (decide ((0 : Int) ≤ o4.2.1)) && (decide (o4.2.1 ≤ ((List.length s2) : Int))) then
 (bif (decide ((0 : Int) ≤ o4.2.1)) && (decide (o4.2.1 ≤ ((List.length s2) : Int))) then
 (bif sfit (List.take (Int.toNat o4.2.1) s2) (toStr ([(IntKind.wrap .u8 o14.2.1)])) then
 (bif sfit ((List.take (Int.toNat o4.2.1) s2) ++ (toStr ([(IntKind.wrap .u8 o14.2.1)]))) (List.drop (Int.toNat o4.2.1) s2) then
 (some ((o14.1.1, ()), (((List.take (Int.toNat o4.2.1) s2) ++ (toStr ([(IntKind.wrap .u8 o14.2.1)]))) ++ (List.drop (Int.toNat o4.2.1) s2), ()))) else none) else none) else none) else none))
 (both
 (bif (decide ((0 : Int) ≤ o4.2.1)) && (decide (o4.2.1 ≤ ((List.length s2) : Int))) then
 (bif (decide ((0 : Int) ≤ o4.2.1)) && (decide (o4.2.1 ≤ ((List.length s2) : Int))) then
 ((Zm N o5.1.1).bind fun o15 =>
 (bif sfit (List.take (Int.toNat o4.2.1) s2) (toStr ([(IntKind.wrap .u8 o15.2.1)])) then
 (bif sfit ((List.take (Int.toNat o4.2.1) s2) ++ (toStr ([(IntKind.wrap .u8 o15.2.1)]))) (List.drop (Int.toNat o4.2.1) s2) then
 (some ((o15.1.1, ()), (((List.take (Int.toNat o4.2.1) s2) ++ (toStr ([(IntKind.wrap .u8 o15.2.1)]))) ++ (List.drop (Int.toNat o4.2.1) s2), ()))) else none) else none)) else none) else none)
 (both
 (bif (decide ((0 : Int) ≤ o4.2.1)) && (decide (o4.2.1 ≤ ((List.length s2) : Int))) then
 ((Zm N o5.1.1).bind fun o16 =>
 (bif (decide ((0 : Int) ≤ o4.2.1)) && (decide (o4.2.1 ≤ ((List.length s2) : Int))) then
 (bif sfit (List.take (Int.toNat o4.2.1) s2) (toStr ([(IntKind.wrap .u8 o16.2.1)])) then
 (bif sfit ((List.take (Int.toNat o4.2.1) s2) ++ (toStr ([(IntKind.wrap .u8 o16.2.1)]))) (List.drop (Int.toNat o4.2.1) s2) then
 (some ((o16.1.1, ()), (((List.take (Int.toNat o4.2.1) s2) ++ (toStr ([(IntKind.wrap .u8 o16.2.1)]))) ++ (List.drop (Int.toNat o4.2.1) s2), ()))) else none) else none) else none)) else none)
 (bif (decide ((0 : Int) ≤ o4.2.1)) && (decide (o4.2.1 ≤ ((List.length s2) : Int))) then
 ((Zm N o5.1.1).bind fun o17 =>
 (bif (decide ((0 : Int) ≤ o4.2.1)) && (decide (o4.2.1 ≤ ((List.length s2) : Int))) then
 (bif sfit (List.take (Int.toNat o4.2.1) s2) (toStr ([(IntKind.wrap .u8 o17.2.1)])) then
 (bif sfit ((List.take (Int.toNat o4.2.1) s2) ++ (toStr ([(IntKind.wrap .u8 o17.2.1)]))) (List.drop (Int.toNat o4.2.1) s2) then
 (some ((o17.1.1, ()), (((List.take (Int.toNat o4.2.1) s2) ++ (toStr ([(IntKind.wrap .u8 o17.2.1)]))) ++ (List.drop (Int.toNat o4.2.1) s2), ()))) else none) else none) else none)) else none))))))))))))
 else
 (bif o5.2.1 == 2 then
 (bif (decide ((0 : Int) ≤ o4.2.1)) && (decide (o4.2.1 ≤ ((List.length s2) : Int))) then
 (some ((o5.1.1, ()), (List.take (Int.toNat o4.2.1) s2, ()))) else none)
 else
 (both
 (bif (decide ((0 : Int) ≤ o4.2.1)) && (decide (o4.2.1 ≤ ((List.length s2) : Int))) then
 (bif inb o4.2.1 (List.length s2) then
 ((Zc N o5.1.1 255).bind fun o18 =>
 (bif sfit (List.take (Int.toNat o4.2.1) s2) (toStr ([(IntKind.wrap .u8 (ixor .i64 (IntKind.wrap .i64 (((UInt8.toNat (List.getD s2 (Int.toNat o4.2.1) (0 : UInt8)) : Nat) : Int))) (iadd .i64 1 o18.2.1)))])) then
 (bif (decide ((0 : Int) ≤ (iadd .i64 o4.2.1 1))) && (decide ((iadd .i64 o4.2.1 1) ≤ ((List.length s2) : Int))) then
 (bif sfit ((List.take (Int.toNat o4.2.1) s2) ++ (toStr ([(IntKind.wrap .u8 (ixor .i64 (IntKind.wrap .i64 (((UInt8.toNat (List.getD s2 (Int.toNat o4.2.1) (0 : UInt8)) : Nat) : Int))) (iadd .i64 1 o18.2.1)))]))) (List.drop (Int.toNat (iadd .i64 o4.2.1 1)) s2) then
 (some ((o18.1.1, ()), (((List.take (Int.toNat o4.2.1) s2) ++ (toStr ([(IntKind.wrap .u8 (ixor .i64 (IntKind.wrap .i64 (((UInt8.toNat (List.getD s2 (Int.toNat o4.2.1) (0 : UInt8)) : Nat) : Int))) (iadd .i64 1 o18.2.1)))]))) ++ (List.drop (Int.toNat (iadd .i64 o4.2.1 1)) s2), ()))) else none) else none) else none)) else none) else none)
 (both
 (bif (decide ((0 : Int) ≤ o4.2.1)) && (decide (o4.2.1 ≤ ((List.length s2) : Int))) then
 (bif inb o4.2.1 (List.length s2) then
 ((Zc N o5.1.1 255).bind fun o19 =>
 (bif (decide ((0 : Int) ≤ (iadd .i64 o4.2.1 1))) && (decide ((iadd .i64 o4.2.1 1) ≤ ((List.length s2) : Int))) then
 (bif sfit (List.take (Int.toNat o4.2.1) s2) (toStr ([(IntKind.wrap .u8 (ixor .i64 (IntKind.wrap .i64 (((UInt8.toNat (List.getD s2 (Int.toNat o4.2.1) (0 : UInt8)) : Nat) : Int))) (iadd .i64 1 o19.2.1)))])) then
 (bif sfit ((List.take (Int.toNat o4.2.1) s2) ++ (toStr ([(IntKind.wrap .u8 (ixor .i64 (IntKind.wrap .i64 (((UInt8.toNat (List.getD s2 (Int.toNat o4.2.1) (0 : UInt8)) : Nat) : Int))) (iadd .i64 1 o19.2.1)))]))) (List.drop (Int.toNat (iadd .i64 o4.2.1 1)) s2) then
 (some ((o19.1.1, ()), (((List.take (Int.toNat o4.2.1) s2) ++ (toStr ([(IntKind.wrap .u8 (ixor .i64 (IntKind.wrap .i64 (((UInt8.toNat (List.getD s2 (Int.toNat o4.2.1) (0 : UInt8)) : Nat) : Int))) (iadd .i64 1 o19.2.1)))]))) ++ (List.drop (Int.toNat (iadd .i64 o4.2.1 1)) s2), ()))) else none) else none) else none)) else none) else none)
 (both
 (bif (decide ((0 : Int) ≤ o4.2.1)) && (decide (o4.2.1 ≤ ((List.length s2) : Int))) then
 (bif inb o4.2.1 (List.length s2) then
 (bif (decide ((0 : Int) ≤ (iadd .i64 o4.2.1 1))) && (decide ((iadd .i64 o4.2.1 1) ≤ ((List.length s2) : Int))) then
 ((Zc N o5.1.1 255).bind fun o20 =>
 (bif sfit (List.take (Int.toNat o4.2.1) s2) (toStr ([(IntKind.wrap .u8 (ixor .i64 (IntKind.wrap .i64 (((UInt8.toNat (List.getD s2 (Int.toNat o4.2.1) (0 : UInt8)) : Nat) : Int))) (iadd .i64 1 o20.2.1)))])) then
 (bif sfit ((List.take (Int.toNat o4.2.1) s2) ++ (toStr ([(IntKind.wrap .u8 (ixor .i64 (IntKind.wrap .i64 (((UInt8.toNat (List.getD s2 (Int.toNat o4.2.1) (0 : UInt8)) : Nat) : Int))) (iadd .i64 1 o20.2.1)))]))) (List.drop (Int.toNat (iadd .i64 o4.2.1 1)) s2) then
 (some ((o20.1.1, ()), (((List.take (Int.toNat o4.2.1) s2) ++ (toStr ([(IntKind.wrap .u8 (ixor .i64 (IntKind.wrap .i64 (((UInt8.toNat (List.getD s2 (Int.toNat o4.2.1) (0 : UInt8)) : Nat) : Int))) (iadd .i64 1 o20.2.1)))]))) ++ (List.drop (Int.toNat (iadd .i64 o4.2.1 1)) s2), ()))) else none) else none)) else none) else none) else none)
 (both
 (bif inb o4.2.1 (List.length s2) then
 ((Zc N o5.1.1 255).bind fun o21 =>
 (bif (decide ((0 : Int) ≤ o4.2.1)) && (decide (o4.2.1 ≤ ((List.length s2) : Int))) then
 (bif sfit (List.take (Int.toNat o4.2.1) s2) (toStr ([(IntKind.wrap .u8 (ixor .i64 (IntKind.wrap .i64 (((UInt8.toNat (List.getD s2 (Int.toNat o4.2.1) (0 : UInt8)) : Nat) : Int))) (iadd .i64 1 o21.2.1)))])) then
 (bif (decide ((0 : Int) ≤ (iadd .i64 o4.2.1 1))) && (decide ((iadd .i64 o4.2.1 1) ≤ ((List.length s2) : Int))) then
 (bif sfit ((List.take (Int.toNat o4.2.1) s2) ++ (toStr ([(IntKind.wrap .u8 (ixor .i64 (IntKind.wrap .i64 (((UInt8.toNat (List.getD s2 (Int.toNat o4.2.1) (0 : UInt8)) : Nat) : Int))) (iadd .i64 1 o21.2.1)))]))) (List.drop (Int.toNat (iadd .i64 o4.2.1 1)) s2) then
 (some ((o21.1.1, ()), (((List.take (Int.toNat o4.2.1) s2) ++ (toStr ([(IntKind.wrap .u8 (ixor .i64 (IntKind.wrap .i64 (((UInt8.toNat (List.getD s2 (Int.toNat o4.2.1) (0 : UInt8)) : Nat) : Int))) (iadd .i64 1 o21.2.1)))]))) ++ (List.drop (Int.toNat (iadd .i64 o4.2.1 1)) s2), ()))) else none) else none) else none) else none)) else none)
 (both
 (bif inb o4.2.1 (List.length s2) then
 ((Zc N o5.1.1 255).bind fun o22 =>
 (bif (decide ((0 : Int) ≤ o4.2.1)) && (decide (o4.2.1 ≤ ((List.length s2) : Int))) then
 (bif (decide ((0 : Int) ≤ (iadd .i64 o4.2.1 1))) && (decide ((iadd .i64 o4.2.1 1) ≤ ((List.length s2) : Int))) then
 (bif sfit (List.take (Int.toNat o4.2.1) s2) (toStr ([(IntKind.wrap .u8 (ixor .i64 (IntKind.wrap .i64 (((UInt8.toNat (List.getD s2 (Int.toNat o4.2.1) (0 : UInt8)) : Nat) : Int))) (iadd .i64 1 o22.2.1)))])) then
 (bif sfit ((List.take (Int.toNat o4.2.1) s2) ++ (toStr ([(IntKind.wrap .u8 (ixor .i64 (IntKind.wrap .i64 (((UInt8.toNat (List.getD s2 (Int.toNat o4.2.1) (0 : UInt8)) : Nat) : Int))) (iadd .i64 1 o22.2.1)))]))) (List.drop (Int.toNat (iadd .i64 o4.2.1 1)) s2) then
 (some ((o22.1.1, ()), (((List.take (Int.toNat o4.2.1) s2) ++ (toStr ([(IntKind.wrap .u8 (ixor .i64 (IntKind.wrap .i64 (((UInt8.toNat (List.getD s2 (Int.toNat o4.2.1) (0 : UInt8)) : Nat) : Int))) (iadd .i64 1 o22.2.1)))]))) ++ (List.drop (Int.toNat (iadd .i64 o4.2.1 1)) s2), ()))) else none) else none) else none) else none)) else none)
 (both
 (bif inb o4.2.1 (List.length s2) then
 ((Zc N o5.1.1 255).bind fun o23 =>
 (bif (decide ((0 : Int) ≤ o4.2.1)) && (decide (o4.2.1 ≤ ((List.length s2) : Int))) then
 (bif sfit (List.take (Int.toNat o4.2.1) s2) (toStr ([(IntKind.wrap .u8 (ixor .i64 (IntKind.wrap .i64 (((UInt8.toNat (List.getD s2 (Int.toNat o4.2.1) (0 : UInt8)) : Nat) : Int))) (iadd .i64 1 o23.2.1)))])) then
 (bif (decide ((0 : Int) ≤ (iadd .i64 o4.2.1 1))) && (decide ((iadd .i64 o4.2.1 1) ≤ ((List.length s2) : Int))) then
 (bif sfit ((List.take (Int.toNat o4.2.1) s2) ++ (toStr ([(IntKind.wrap .u8 (ixor .i64 (IntKind.wrap .i64 (((UInt8.toNat (List.getD s2 (Int.toNat o4.2.1) (0 : UInt8)) : Nat) : Int))) (iadd .i64 1 o23.2.1)))]))) (List.drop (Int.toNat (iadd .i64 o4.2.1 1)) s2) then
 (some ((o23.1.1, ()), (((List.take (Int.toNat o4.2.1) s2) ++ (toStr ([(IntKind.wrap .u8 (ixor .i64 (IntKind.wrap .i64 (((UInt8.toNat (List.getD s2 (Int.toNat o4.2.1) (0 : UInt8)) : Nat) : Int))) (iadd .i64 1 o23.2.1)))]))) ++ (List.drop (Int.toNat (iadd .i64 o4.2.1 1)) s2), ()))) else none) else none) else none) else none)) else none)
 (both
 (bif inb o4.2.1 (List.length s2) then
 ((Zc N o5.1.1 255).bind fun o24 =>
 (bif (decide ((0 : Int) ≤ (iadd .i64 o4.2.1 1))) && (decide ((iadd .i64 o4.2.1 1) ≤ ((List.length s2) : Int))) then
 (bif (decide ((0 : Int) ≤ o4.2.1)) && (decide (o4.2.1 ≤ ((List.length s2) : Int))) then
 (bif sfit (List.take (Int.toNat o4.2.1) s2) (toStr ([(IntKind.wrap .u8 (ixor .i64 (IntKind.wrap .i64 (((UInt8.toNat (List.getD s2 (Int.toNat o4.2.1) (0 : UInt8)) : Nat) : Int))) (iadd .i64 1 o24.2.1)))])) then
 (bif sfit ((List.take (Int.toNat o4.2.1) s2) ++ (toStr ([(IntKind.wrap .u8 (ixor .i64 (IntKind.wrap .i64 (((UInt8.toNat (List.getD s2 (Int.toNat o4.2.1) (0 : UInt8)) : Nat) : Int))) (iadd .i64 1 o24.2.1)))]))) (List.drop (Int.toNat (iadd .i64 o4.2.1 1)) s2) then
 (some ((o24.1.1, ()), (((List.take (Int.toNat o4.2.1) s2) ++ (toStr ([(IntKind.wrap .u8 (ixor .i64 (IntKind.wrap .i64 (((UInt8.toNat (List.getD s2 (Int.toNat o4.2.1) (0 : UInt8)) : Nat) : Int))) (iadd .i64 1 o24.2.1)))]))) ++ (List.drop (Int.toNat (iadd .i64 o4.2.1 1)) s2), ()))) else none) else none) else none) else none)) else none)
 (both
 (bif inb o4.2.1 (List.length s2) then
 ((Zc N o5.1.1 255).bind fun o25 =>
 (bif (decide ((0 : Int) ≤ (iadd .i64 o4.2.1 1))) && (decide ((iadd .i64 o4.2.1 1) ≤ ((List.length s2) : Int))) then
 (bif (decide ((0 : Int) ≤ o4.2.1)) && (decide (o4.2.1 ≤ ((List.length s2) : Int))) then
 (bif sfit (List.take (Int.toNat o4.2.1) s2) (toStr ([(IntKind.wrap .u8 (ixor .i64 (IntKind.wrap .i64 (((UInt8.toNat (List.getD s2 (Int.toNat o4.2.1) (0 : UInt8)) : Nat) : Int))) (iadd .i64 1 o25.2.1)))])) then
 (bif sfit ((List.take (Int.toNat o4.2.1) s2) ++ (toStr ([(IntKind.wrap .u8 (ixor .i64 (IntKind.wrap .i64 (((UInt8.toNat (List.getD s2 (Int.toNat o4.2.1) (0 : UInt8)) : Nat) : Int))) (iadd .i64 1 o25.2.1)))]))) (List.drop (Int.toNat (iadd .i64 o4.2.1 1)) s2) then
 (some ((o25.1.1, ()), (((List.take (Int.toNat o4.2.1) s2) ++ (toStr ([(IntKind.wrap .u8 (ixor .i64 (IntKind.wrap .i64 (((UInt8.toNat (List.getD s2 (Int.toNat o4.2.1) (0 : UInt8)) : Nat) : Int))) (iadd .i64 1 o25.2.1)))]))) ++ (List.drop (Int.toNat (iadd .i64 o4.2.1 1)) s2), ()))) else none) else none) else none) else none)) else none)
 (both
 (bif inb o4.2.1 (List.length s2) then
 ((Zc N o5.1.1 255).bind fun o26 =>
 (bif (decide ((0 : Int) ≤ (iadd .i64 o4.2.1 1))) && (decide ((iadd .i64 o4.2.1 1) ≤ ((List.length s2) : Int))) then
 (bif (decide ((0 : Int) ≤ o4.2.1)) && (decide (o4.2.1 ≤ ((List.length s2) : Int))) then
 (bif sfit (List.take (Int.toNat o4.2.1) s2) (toStr ([(IntKind.wrap .u8 (ixor .i64 (IntKind.wrap .i64 (((UInt8.toNat (List.getD s2 (Int.toNat o4.2.1) (0 : UInt8)) : Nat) : Int))) (iadd .i64 1 o26.2.1)))])) then
 (bif sfit ((List.take (Int.toNat o4.2.1) s2) ++ (toStr ([(IntKind.wrap .u8 (ixor .i64 (IntKind.wrap .i64 (((UInt8.toNat (List.getD s2 (Int.toNat o4.2.1) (0 : UInt8)) : Nat) : Int))) (iadd .i64 1 o26.2.1)))]))) (List.drop (Int.toNat (iadd .i64 o4.2.1 1)) s2) then
 (some ((o26.1.1, ()), (((List.take (Int.toNat o4.2.1) s2) ++ (toStr ([(IntKind.wrap .u8 (ixor .i64 (IntKind.wrap .i64 (((UInt8.toNat (List.getD s2 (Int.toNat o4.2.1) (0 : UInt8)) : Nat) : Int))) (iadd .i64 1 o26.2.1)))]))) ++ (List.drop (Int.toNat (iadd .i64 o4.2.1 1)) s2), ()))) else none) else none) else none) else none)) else none)
 (both
 (bif inb o4.2.1 (List.length s2) then
 (bif (decide ((0 : Int) ≤ (iadd .i64 o4.2.1 1))) && (decide ((iadd .i64 o4.2.1 1) ≤ ((List.length s2) : Int))) then
 (bif (decide ((0 : Int) ≤ o4.2.1)) && (decide (o4.2.1 ≤ ((List.length s2) : Int))) then
 ((Zc N o5.1.1 255).bind fun o27 =>
 (bif sfit (List.take (Int.toNat o4.2.1) s2) (toStr ([(IntKind.wrap .u8 (ixor .i64 (IntKind.wrap .i64 (((UInt8.toNat (List.getD s2 (Int.toNat o4.2.1) (0 : UInt8)) : Nat) : Int))) (iadd .i64 1 o27.2.1)))])) then
 (bif sfit ((List.take (Int.toNat o4.2.1) s2) ++ (toStr ([(IntKind.wrap .u8 (ixor .i64 (IntKind.wrap .i64 (((UInt8.toNat (List.getD s2 (Int.toNat o4.2.1) (0 : UInt8)) : Nat) : Int))) (iadd .i64 1 o27.2.1)))]))) (List.drop (Int.toNat (iadd .i64 o4.2.1 1)) s2) then
 (some ((o27.1.1, ()), (((List.take (Int.toNat o4.2.1) s2) ++ (toStr ([(IntKind.wrap .u8 (ixor .i64 (IntKind.wrap .i64 (((UInt8.toNat (List.getD s2 (Int.toNat o4.2.1) (0 : UInt8)) : Nat) : Int))) (iadd .i64 1 o27.2.1)))]))) ++ (List.drop (Int.toNat (iadd .i64 o4.2.1 1)) s2), ()))) else none) else none)) else none) else none) else none)
 (both
 (bif inb o4.2.1 (List.length s2) then
 (bif (decide ((0 : Int) ≤ (iadd .i64 o4.2.1 1))) && (decide ((iadd .i64 o4.2.1 1) ≤ ((List.length s2) : Int))) then
 ((Zc N o5.1.1 255).bind fun o28 =>
 (bif (decide ((0 : Int) ≤ o4.2.1)) && (decide (o4.2.1 ≤ ((List.length s2) : Int))) then
 (bif sfit (List.take (Int.toNat o4.2.1) s2) (toStr ([(IntKind.wrap .u8 (ixor .i64 (IntKind.wrap .i64 (((UInt8.toNat (List.getD s2 (Int.toNat o4.2.1) (0 : UInt8)) : Nat) : Int))) (iadd .i64 1 o28.2.1)))])) then
 (bif sfit ((List.take (Int.toNat o4.2.1) s2) ++ (toStr ([(IntKind.wrap .u8 (ixor .i64 (IntKind.wrap .i64 (((UInt8.toNat (List.getD s2 (Int.toNat o4.2.1) (0 : UInt8)) : Nat) : Int))) (iadd .i64 1 o28.2.1)))]))) (List.drop (Int.toNat (iadd .i64 o4.2.1 1)) s2) then
 (some ((o28.1.1, ()), (((List.take (Int.toNat o4.2.1) s2) ++ (toStr ([(IntKind.wrap .u8 (ixor .i64 (IntKind.wrap .i64 (((UInt8.toNat (List.getD s2 (Int.toNat o4.2.1) (0 : UInt8)) : Nat) : Int))) (iadd .i64 1 o28.2.1)))]))) ++ (List.drop (Int.toNat (iadd .i64 o4.2.1 1)) s2), ()))) else none) else none) else none)) else none) else none)
 (bif inb o4.2.1 (List.length s2) then
 (bif (decide ((0 : Int) ≤ (iadd .i64 o4.2.1 1))) && (decide ((iadd .i64 o4.2.1 1) ≤ ((List.length s2) : Int))) then
 ((Zc N o5.1.1 255).bind fun o29 =>
 (bif (decide ((0 : Int) ≤ o4.2.1)) && (decide (o4.2.1 ≤ ((List.length s2) : Int))) then
 (bif sfit (List.take (Int.toNat o4.2.1) s2) (toStr ([(IntKind.wrap .u8 (ixor .i64 (IntKind.wrap .i64 (((UInt8.toNat (List.getD s2 (Int.toNat o4.2.1) (0 : UInt8)) : Nat) : Int))) (iadd .i64 1 o29.2.1)))])) then
 (bif sfit ((List.take (Int.toNat o4.2.1) s2) ++ (toStr ([(IntKind.wrap .u8 (ixor .i64 (IntKind.wrap .i64 (((UInt8.toNat (List.getD s2 (Int.toNat o4.2.1) (0 : UInt8)) : Nat) : Int))) (iadd .i64 1 o29.2.1)))]))) (List.drop (Int.toNat (iadd .i64 o4.2.1 1)) s2) then
 (some ((o29.1.1, ()), (((List.take (Int.toNat o4.2.1) s2) ++ (toStr ([(IntKind.wrap .u8 (ixor .i64 (IntKind.wrap .i64 (((UInt8.toNat (List.getD s2 (Int.toNat o4.2.1) (0 : UInt8)) : Nat) : Int))) (iadd .i64 1 o29.2.1)))]))) ++ (List.drop (Int.toNat (iadd .i64 o4.2.1 1)) s2), ()))) else none) else none) else none)) else none) else none))))))))))))))))))
noncomputable def Zdq (N : Nat) (c1 : List Int × Int × Int) : Option (((List Int × Int × Int) × Unit) × ((List UInt8) × Unit)) :=
    ((Zbs N c1).bind fun o2 =>
 ((Zc N o2.1.1 8).bind fun o3 =>
 (bif o3.2.1 == 0 then
 ((Zew N o3.1.1 o2.2.1).bind fun o4 =>
 (some ((o4.1.1, ()), (o4.2.1, ()))))
 else
 (bif o3.2.1 == 1 then
 ((Zc N o3.1.1 (iadd .i64 (ilen o2.2.1) 1)).bind fun o5 =>
 (bif (decide ((0 : Int) ≤ o5.2.1)) && (decide (o5.2.1 ≤ ((List.length o2.2.1) : Int))) then
 (some ((o5.1.1, ()), (List.take (Int.toNat o5.2.1) o2.2.1, ()))) else none))
 else
 (bif o3.2.1 == 2 then
 ((Zbg N o3.1.1 8).bind fun o6 =>
 (bif sfit o2.2.1 o6.2.1 then
 (some ((o6.1.1, ()), (o2.2.1 ++ o6.2.1, ()))) else none))
 else
 (bif o3.2.1 == 3 then
 ((Zc3 N o3.1.1 1).bind fun o7 =>
 ((Zz N o7.2.1).bind fun o8 =>
 ((Zbc N o8.2.1).bind fun o9 =>
 (bif sfit o2.2.1 o9.2.1 then
 (some ((o7.1.1, ()), (o2.2.1 ++ o9.2.1, ()))) else none))))
 else
 (some ((o3.1.1, ()), (o2.2.1, ())))))))))
noncomputable def Zb7 (N : Nat) (code1 : List Int) : Option (Unit × ((List UInt8) × Unit)) :=
    ((Zbm N code1).bind fun o2 =>
 ((Zdq N o2.2.1).bind fun o3 =>
 (some ((), (o3.2.1, ())))))
noncomputable def Zbj {R : Type} (N : Nat) (K0 : Int → Bool → (List Int) → Option R) : Nat → Int → (List Int) → Option R
  | 0, _, _ => none
  | n + 1, n3, l4 =>
    (bif decide (n3 > 127) then
 (bif room ((List.length l4) + (List.length ([(IntKind.wrap .u8 (ior .i64 (iand .i64 n3 (127 : Int)) (128 : Int)))]))) then
 (bif inn 7 then
 (Zbj N K0 n (ishr .i64 n3 7) (List.append l4 ([(IntKind.wrap .u8 (ior .i64 (iand .i64 n3 127) 128))]))) else none) else none)
 else
 (K0 n3 (decide (n3 > 127)) l4))
noncomputable def Zai (N : Nat) (n1 : Int) : Option (Unit × ((List UInt8) × Unit)) :=
    ((Zy N n1 0 562949953421311).bind fun o2 =>
 (bif !o2.2.1 then
 (some ((), (([] : List UInt8), ())))
 else
 (Zbj N
 (fun n8 t9 l10 =>
   (bif room ((List.length l10) + (List.length ([(IntKind.wrap .u8 n8)]))) then
 (some ((), (toStr (List.append l10 ([(IntKind.wrap .u8 n8)])), ()))) else none))
  N n1 ([] : List Int))))
noncomputable def Zat {R : Type} (N : Nat) (s2 : List UInt8) (K0 : Int → Int → Option R) (K1 : Int → Int → Bool → Option R) : Nat → Int → Int → Option R
  | 0, _, _ => none
  | n + 1, n3, i4 =>
    (bif decide (i4 < (ilen s2)) then
 (bif decide (i4 < 7) then
 (bif inb i4 (List.length s2) then
 (bif inn (imul .i64 7 i4) then
 (bif inb i4 (List.length s2) then
 (bif decide ((((UInt8.toNat (List.getD s2 (Int.toNat i4) (0 : UInt8)) : Nat) : Int)) < 128) then
 (both
 ((Zai N (ior .i64 n3 (ishl .i64 (IntKind.wrap .i64 (iand .u8 (((UInt8.toNat (List.getD s2 (Int.toNat i4) (0 : UInt8)) : Nat) : Int)) 127)) (imul .i64 7 i4)))).bind fun o12 =>
 (bif (decide ((0 : Int) ≤ (iadd .i64 i4 1))) && (decide ((iadd .i64 i4 1) ≤ ((List.length s2) : Int))) then
 (bif !(seq o12.2.1 (List.take (Int.toNat (iadd .i64 i4 1)) s2)) then
 (K0 0 0)
 else
 (K0 (ior .i64 n3 (ishl .i64 (IntKind.wrap .i64 (iand .u8 (((UInt8.toNat (List.getD s2 (Int.toNat i4) (0 : UInt8)) : Nat) : Int)) 127)) (imul .i64 7 i4))) (iadd .i64 i4 1))) else none))
 (bif (decide ((0 : Int) ≤ (iadd .i64 i4 1))) && (decide ((iadd .i64 i4 1) ≤ ((List.length s2) : Int))) then
 ((Zai N (ior .i64 n3 (ishl .i64 (IntKind.wrap .i64 (iand .u8 (((UInt8.toNat (List.getD s2 (Int.toNat i4) (0 : UInt8)) : Nat) : Int)) 127)) (imul .i64 7 i4)))).bind fun o13 =>
 (bif !(seq o13.2.1 (List.take (Int.toNat (iadd .i64 i4 1)) s2)) then
 (K0 0 0)
 else
 (K0 (ior .i64 n3 (ishl .i64 (IntKind.wrap .i64 (iand .u8 (((UInt8.toNat (List.getD s2 (Int.toNat i4) (0 : UInt8)) : Nat) : Int)) 127)) (imul .i64 7 i4))) (iadd .i64 i4 1)))) else none))
 else
 (Zat N s2 K0 K1 n (ior .i64 n3 (ishl .i64 (IntKind.wrap .i64 (iand .u8 (((UInt8.toNat (List.getD s2 (Int.toNat i4) (0 : UInt8)) : Nat) : Int)) 127)) (imul .i64 7 i4))) (iadd .i64 i4 1))) else none) else none) else none)
 else
 (K1 n3 i4 (decide (i4 < 7))))
 else
 (K1 n3 i4 false))
noncomputable def Zbk (N : Nat) (s1 : List UInt8) : Option (Unit × (Int × (Int × Unit))) :=
    (Zat N s1
 (fun t14 t15 =>
   (some ((), (t14, (t15, ())))))
 (fun n16 i17 t18 =>
   (some ((), (0, (0, ())))))
  N 0 0)
noncomputable def Za2 {R : Type} (N : Nat) (s5 : List UInt8) (i7 : Int) (K0 : Int → Int → Bool → Option R) : Nat → Int → Int → Option R
  | 0, _, _ => none
  | n + 1, c6, t8 =>
    (bif decide (t8 < 8) then
 (bif inn 1 then
 (bif (iand .i64 c6 1) == 1 then
 (Za2 N s5 i7 K0 n (ixor .i64 (ishr .i64 c6 1) 2197175160) (iadd .i64 t8 1))
 else
 (Za2 N s5 i7 K0 n (ishr .i64 c6 1) (iadd .i64 t8 1))) else none)
 else
 (K0 c6 t8 (decide (t8 < 8))))
noncomputable def Zb2 {R : Type} (N : Nat) (s2 : List UInt8) (K0 : Int → Int → Bool → Option R) : Nat → Int → Int → Option R
  | 0, _, _ => none
  | n + 1, c3, i4 =>
    (bif decide (i4 < (ilen s2)) then
 (bif inb i4 (List.length s2) then
 (Za2 N s2 i4
 (fun c18 t19 t20 =>
   (Zb2 N s2 K0 n c18 (iadd .i64 i4 1)))
  N (ixor .i64 c3 (IntKind.wrap .i64 (((UInt8.toNat (List.getD s2 (Int.toNat i4) (0 : UInt8)) : Nat) : Int)))) 0) else none)
 else
 (K0 c3 i4 (decide (i4 < (ilen s2)))))
noncomputable def Zc5 (N : Nat) (s1 : List UInt8) : Option (Unit × (Int × Unit)) :=
    (Zb2 N s1
 (fun c21 i22 t23 =>
   (some ((), (isub .i64 4294967295 c21, ()))))
  N 4294967295 0)
noncomputable def Zaj {R : Type} (N : Nat) (K0 : Int → Int → Bool → (List Int) → Option R) : Nat → Int → Int → (List Int) → Option R
  | 0, _, _, _ => none
  | n + 1, n4, i5, l6 =>
    (bif decide (i5 ≥ 0) then
 (bif inb i5 (List.length l6) then
 (bif inn 8 then
 (Zaj N K0 n (ishr .i64 n4 8) (isub .i64 i5 1) (List.set l6 (Int.toNat i5) (IntKind.wrap .u8 (iand .i64 n4 255)))) else none) else none)
 else
 (K0 n4 i5 (decide (i5 ≥ 0)) l6))
noncomputable def Zca (N : Nat) (n1 : Int) (width2 : Int) : Option (Unit × ((List UInt8) × Unit)) :=
    ((Zy N width2 1 7).bind fun o3 =>
 (bif !o3.2.1 then
 (some ((), (([] : List UInt8), ())))
 else
 (bif decide (n1 < 0) then
 (some ((), (([] : List UInt8), ())))
 else
 (bif inn (imul .i64 8 width2) then
 (bif decide (n1 ≥ (ishl .i64 1 (imul .i64 8 width2))) then
 (some ((), (([] : List UInt8), ())))
 else
 (bif ((decide ((0 : Int) ≤ width2)) && (decide (width2 ≤ width2))) && (room (Int.toNat width2)) then
 (Zaj N
 (fun n11 i12 t13 l14 =>
   (some ((), (toStr l14, ()))))
  N n1 (isub .i64 width2 1) (List.replicate (Int.toNat width2) 0)) else none)) else none))))
noncomputable def Zbd (N : Nat) (s1 : List UInt8) : Option (Unit × ((List UInt8) × Unit)) :=
    (bif decide ((ilen s1) > 120) then
 (some ((), (([] : List UInt8), ())))
 else
 ((Zai N (ilen s1)).bind fun o2 =>
 (bif sfit o2.2.1 s1 then
 ((Zc5 N (o2.2.1 ++ s1)).bind fun o3 =>
 ((Zca N o3.2.1 4).bind fun o4 =>
 (bif sfit o4.2.1 (o2.2.1 ++ s1) then
 (some ((), (o4.2.1 ++ (o2.2.1 ++ s1), ()))) else none))) else none)))
noncomputable def Zex (N : Nat) (s1 : List UInt8) : Option (Unit × ((List UInt8) × (Int × Unit))) :=
    (bif decide ((ilen s1) < 5) then
 (some ((), (([] : List UInt8), (0, ()))))
 else
 (bif (decide ((0 : Int) ≤ 4)) && (decide ((4 : Int) ≤ ((List.length s1) : Int))) then
 ((Zbk N (List.drop (Int.toNat 4) s1)).bind fun o2 =>
 (bif o2.2.2.1 == 0 then
 (some ((), (([] : List UInt8), (0, ()))))
 else
 (bif decide (o2.2.1 > 120) then
 (some ((), (([] : List UInt8), (0, ()))))
 else
 (bif decide ((iadd .i64 (iadd .i64 4 o2.2.2.1) o2.2.1) > (ilen s1)) then
 (some ((), (([] : List UInt8), (0, ()))))
 else
 (bif (((decide ((0 : Int) ≤ (iadd .i64 (iadd .i64 4 o2.2.2.1) o2.2.1))) && (decide ((iadd .i64 (iadd .i64 4 o2.2.2.1) o2.2.1) ≤ ((List.length s1) : Int)))) && (decide ((0 : Int) ≤ (iadd .i64 4 o2.2.2.1)))) && (decide ((iadd .i64 4 o2.2.2.1) ≤ (iadd .i64 (iadd .i64 4 o2.2.2.1) o2.2.1))) then
 (both
 ((Zbd N (List.drop (Int.toNat (iadd .i64 4 o2.2.2.1)) (List.take (Int.toNat (iadd .i64 (iadd .i64 4 o2.2.2.1) o2.2.1)) s1))).bind fun o3 =>
 (bif (decide ((0 : Int) ≤ (iadd .i64 (iadd .i64 4 o2.2.2.1) o2.2.1))) && (decide ((iadd .i64 (iadd .i64 4 o2.2.2.1) o2.2.1) ≤ ((List.length s1) : Int))) then
 (bif !(seq o3.2.1 (List.take (Int.toNat (iadd .i64 (iadd .i64 4 o2.2.2.1) o2.2.1)) s1)) then
 (some ((), (([] : List UInt8), (0, ()))))
 else
 (some ((), (List.drop (Int.toNat (iadd .i64 4 o2.2.2.1)) (List.take (Int.toNat (iadd .i64 (iadd .i64 4 o2.2.2.1) o2.2.1)) s1), (iadd .i64 (iadd .i64 4 o2.2.2.1) o2.2.1, ()))))) else none))
 (bif (decide ((0 : Int) ≤ (iadd .i64 (iadd .i64 4 o2.2.2.1) o2.2.1))) && (decide ((iadd .i64 (iadd .i64 4 o2.2.2.1) o2.2.1) ≤ ((List.length s1) : Int))) then
 ((Zbd N (List.drop (Int.toNat (iadd .i64 4 o2.2.2.1)) (List.take (Int.toNat (iadd .i64 (iadd .i64 4 o2.2.2.1) o2.2.1)) s1))).bind fun o4 =>
 (bif !(seq o4.2.1 (List.take (Int.toNat (iadd .i64 (iadd .i64 4 o2.2.2.1) o2.2.1)) s1)) then
 (some ((), (([] : List UInt8), (0, ()))))
 else
 (some ((), (List.drop (Int.toNat (iadd .i64 4 o2.2.2.1)) (List.take (Int.toNat (iadd .i64 (iadd .i64 4 o2.2.2.1) o2.2.1)) s1), (iadd .i64 (iadd .i64 4 o2.2.2.1) o2.2.1, ())))))) else none)) else none))))) else none))
noncomputable def Zcb (N : Nat) (s1 : List UInt8) : Option (Unit × (Int × ((List UInt8) × (Bool × Unit)))) :=
    ((Zbk N s1).bind fun o2 =>
 (bif (decide ((0 : Int) ≤ o2.2.2.1)) && (decide (o2.2.2.1 ≤ ((List.length s1) : Int))) then
 (some ((), (o2.2.1, (List.drop (Int.toNat o2.2.2.1) s1, (decide (o2.2.2.1 > 0), ()))))) else none))
noncomputable def Zf1 (N : Nat) (who1 : Int) : Option (Unit × (Bool × Unit)) :=
    ((Zy N who1 1 99).bind fun o2 =>
 (some ((), (o2.2.1, ()))))
noncomputable def Zb3 {R : Type} (N : Nat) (l2 : List (Int × Int)) (K0 : Option R) (K1 : Int → Bool → Option R) : Nat → Int → Option R
  | 0, _ => none
  | n + 1, i3 =>
    (bif decide (i3 < (ilen l2)) then
 (bif inb (isub .i64 i3 1) (List.length l2) then
 (bif inb i3 (List.length l2) then
 (bif decide ((List.getD l2 (Int.toNat (isub .i64 i3 1)) (0, 0)).1 ≥ (List.getD l2 (Int.toNat i3) (0, 0)).1) then
 K0
 else
 (Zb3 N l2 K0 K1 n (iadd .i64 i3 1))) else none) else none)
 else
 (K1 i3 (decide (i3 < (ilen l2)))))
noncomputable def Zcc (N : Nat) (l1 : List (Int × Int)) : Option (Unit × (Bool × Unit)) :=
    (Zb3 N l1
 (some ((), (false, ())))
 (fun i6 t7 =>
   ((Zay N l1).bind fun o8 =>
 (some ((), (o8.2.1, ())))))
  N 1)
noncomputable def Zak {R : Type} (N : Nat) (t9 : List (Int × Int)) (t10 : Int) (K0 : (List UInt8) → Int → Bool → Option R) : Nat → (List UInt8) → Int → Option R
  | 0, _, _ => none
  | n + 1, s8, t11 =>
    (bif decide (t11 < t10) then
 (bif inb t11 (List.length t9) then
 ((Zai N (List.getD t9 (Int.toNat t11) (0, 0)).1).bind fun o17 =>
 (bif sfit s8 o17.2.1 then
 ((Zai N (List.getD t9 (Int.toNat t11) (0, 0)).2).bind fun o18 =>
 (bif sfit (s8 ++ o17.2.1) o18.2.1 then
 (Zak N t9 t10 K0 n ((s8 ++ o17.2.1) ++ o18.2.1) (iadd .i64 t11 1)) else none)) else none)) else none)
 else
 (K0 s8 t11 (decide (t11 < t10))))
noncomputable def Z2 (N : Nat) (w1 : Int × Int × List (Int × Int)) : Option (Unit × ((List UInt8) × Unit)) :=
    ((Zy N w1.1 1 1000000).bind fun o2 =>
 (bif !o2.2.1 then
 (some ((), (([] : List UInt8), ())))
 else
 ((Zf1 N w1.2.1).bind fun o3 =>
 (bif !o3.2.1 then
 (some ((), (([] : List UInt8), ())))
 else
 ((Zcc N w1.2.2).bind fun o4 =>
 (bif !o4.2.1 then
 (some ((), (([] : List UInt8), ())))
 else
 ((Zai N w1.1).bind fun o5 =>
 ((Zai N w1.2.1).bind fun o6 =>
 (bif sfit o5.2.1 o6.2.1 then
 ((Zai N (ilen w1.2.2)).bind fun o7 =>
 (bif sfit (o5.2.1 ++ o6.2.1) o7.2.1 then
 (Zak N w1.2.2 (ilen w1.2.2)
 (fun s19 t20 t21 =>
   (some ((), (s19, ()))))
  N ((o5.2.1 ++ o6.2.1) ++ o7.2.1) 0) else none)) else none)))))))))
noncomputable def Zal {R : Type} (N : Nat) (s5 : List UInt8) (t7 : Int) (b11 : Int) (b12 : Int) (K0 : Option R) (K1 : (List UInt8) → Int → Bool → (List (Int × Int)) → Option R) : Nat → (List UInt8) → Int → (List (Int × Int)) → Option R
  | 0, _, _, _ => none
  | n + 1, rest6, t8, l13 =>
    (bif decide (t8 < t7) then
 ((Zcb N rest6).bind fun o22 =>
 ((Zcb N o22.2.2.1).bind fun o23 =>
 (bif !o22.2.2.2.1 then
 K0
 else
 (bif !o23.2.2.2.1 then
 K0
 else
 (bif room ((List.length l13) + (List.length ([(o22.2.1, o23.2.1)]))) then
 (Zal N s5 t7 b11 b12 K0 K1 n o23.2.2.1 (iadd .i64 t8 1) (List.append l13 ([(o22.2.1, o23.2.1)]))) else none)))))
 else
 (K1 rest6 t8 (decide (t8 < t7)) l13))
noncomputable def Zau (N : Nat) (s1 : List UInt8) : Option (Unit × ((Int × Int × List (Int × Int)) × (Bool × Unit))) :=
    ((Zcb N s1).bind fun o2 =>
 ((Zcb N o2.2.2.1).bind fun o3 =>
 ((Zcb N o3.2.2.1).bind fun o4 =>
 (bif !o2.2.2.2.1 then
 (some ((), ((0, (0, ([] : List (Int × Int)))), (false, ()))))
 else
 (bif !o3.2.2.2.1 then
 (some ((), ((0, (0, ([] : List (Int × Int)))), (false, ()))))
 else
 (bif !o4.2.2.2.1 then
 (some ((), ((0, (0, ([] : List (Int × Int)))), (false, ()))))
 else
 (bif decide (o4.2.1 > 8) then
 (some ((), ((0, (0, ([] : List (Int × Int)))), (false, ()))))
 else
 (Zal N s1 o4.2.1 o2.2.1 o3.2.1
 (some ((), ((0, (0, ([] : List (Int × Int)))), (false, ()))))
 (fun rest24 t25 t26 l27 =>
   (bif seq s1 ([] : List UInt8) then
 (some ((), ((0, (0, ([] : List (Int × Int)))), (false, ()))))
 else
 ((Z2 N (o2.2.1, (o3.2.1, l27))).bind fun o28 =>
 (bif !(seq o28.2.1 s1) then
 (some ((), ((0, (0, ([] : List (Int × Int)))), (false, ()))))
 else
 (some ((), ((o2.2.1, (o3.2.1, l27)), (true, ()))))))))
  N o4.2.2.1 0 ([] : List (Int × Int))))))))))
noncomputable def Z9 {R : Type} (N : Nat) (log2 : List UInt8) (K0 : Int → Int → Bool → (List (Int × Int × List (Int × Int))) → Int → Int → (List (Int × Int)) → Option R) (K1 : Int → Int → Bool → (List (Int × Int × List (Int × Int))) → Option R) : Nat → Int → Int → (List (Int × Int × List (Int × Int))) → Option R
  | 0, _, _, _ => none
  | n + 1, at3, last4, l5 =>
    (bif decide ((ilen l5) < 200) then
 (bif (decide ((0 : Int) ≤ at3)) && (decide (at3 ≤ ((List.length log2) : Int))) then
 ((Zex N (List.drop (Int.toNat at3) log2)).bind fun o19 =>
 ((Zau N o19.2.1).bind fun o20 =>
 (bif o19.2.2.1 == 0 then
 (K0 at3 o19.2.2.1 true l5 o20.2.1.1 o20.2.1.2.1 o20.2.1.2.2)
 else
 (bif !o20.2.2.1 then
 (K0 at3 o19.2.2.1 true l5 o20.2.1.1 o20.2.1.2.1 o20.2.1.2.2)
 else
 (bif decide (o20.2.1.1 ≤ last4) then
 (K0 at3 o19.2.2.1 (decide (o20.2.1.1 ≤ last4)) l5 o20.2.1.1 o20.2.1.2.1 o20.2.1.2.2)
 else
 (bif room ((List.length l5) + (List.length ([o20.2.1]))) then
 (Z9 N log2 K0 K1 n (iadd .i64 at3 o19.2.2.1) o20.2.1.1 (List.append l5 ([o20.2.1]))) else none)))))) else none)
 else
 (K1 at3 last4 (decide ((ilen l5) < 200)) l5))
noncomputable def Zn (N : Nat) (log1 : List UInt8) : Option (Unit × ((List (Int × Int × List (Int × Int))) × (Int × Unit))) :=
    (Z9 N log1
 (fun at21 n22 t23 l24 b25 b26 l27 =>
   (some ((), (l24, (at21, ())))))
 (fun at28 last29 t30 l31 =>
   (some ((), (l31, (at28, ())))))
  N 0 0 ([] : List (Int × Int × List (Int × Int))))
noncomputable def Zan {R : Type} (N : Nat) (a3 : List (Int × Int)) (b4 : List (Int × Int)) (K0 : Option R) (K1 : Int → Bool → Option R) : Nat → Int → Option R
  | 0, _ => none
  | n + 1, i5 =>
    (bif decide (i5 < (ilen a3)) then
 (bif inb i5 (List.length a3) then
 (bif inb i5 (List.length b4) then
 (bif !((ieq (List.getD a3 (Int.toNat i5) (0, 0)).1 (List.getD b4 (Int.toNat i5) (0, 0)).1) && ((ieq (List.getD a3 (Int.toNat i5) (0, 0)).2 (List.getD b4 (Int.toNat i5) (0, 0)).2) && true)) then
 K0
 else
 (Zan N a3 b4 K0 K1 n (iadd .i64 i5 1))) else none) else none)
 else
 (K1 i5 (decide (i5 < (ilen a3)))))
noncomputable def Zba (N : Nat) (a1 : List (Int × Int)) (b2 : List (Int × Int)) : Option (Unit × (Bool × Unit)) :=
    (bif (ilen a1) != (ilen b2) then
 (some ((), (false, ())))
 else
 (Zan N a1 b2
 (some ((), (false, ())))
 (fun i8 t9 =>
   (some ((), (true, ()))))
  N 0))
noncomputable def Zao {R : Type} (N : Nat) (a3 : List (Int × Int × List (Int × Int))) (b4 : List (Int × Int × List (Int × Int))) (K0 : Option R) (K1 : Int → Bool → Option R) : Nat → Int → Option R
  | 0, _ => none
  | n + 1, i5 =>
    (bif decide (i5 < (ilen a3)) then
 (bif inb i5 (List.length a3) then
 (bif inb i5 (List.length b4) then
 (bif (List.getD a3 (Int.toNat i5) (0, (0, ([] : List (Int × Int))))).1 != (List.getD b4 (Int.toNat i5) (0, (0, ([] : List (Int × Int))))).1 then
 K0
 else
 (bif inb i5 (List.length a3) then
 (bif inb i5 (List.length b4) then
 (bif (List.getD a3 (Int.toNat i5) (0, (0, ([] : List (Int × Int))))).2.1 != (List.getD b4 (Int.toNat i5) (0, (0, ([] : List (Int × Int))))).2.1 then
 K0
 else
 (bif inb i5 (List.length a3) then
 (bif inb i5 (List.length b4) then
 ((Zba N (List.getD a3 (Int.toNat i5) (0, (0, ([] : List (Int × Int))))).2.2 (List.getD b4 (Int.toNat i5) (0, (0, ([] : List (Int × Int))))).2.2).bind fun o9 =>
 (bif !o9.2.1 then
 K0
 else
 (Zao N a3 b4 K0 K1 n (iadd .i64 i5 1)))) else none) else none)) else none) else none)) else none) else none)
 else
 (K1 i5 (decide (i5 < (ilen a3)))))
noncomputable def Zo (N : Nat) (a1 : List (Int × Int × List (Int × Int))) (b2 : List (Int × Int × List (Int × Int))) : Option (Unit × (Bool × Unit)) :=
    (bif (ilen a1) != (ilen b2) then
 (some ((), (false, ())))
 else
 (Zao N a1 b2
 (some ((), (false, ())))
 (fun i10 t11 =>
   (some ((), (true, ()))))
  N 0))
noncomputable def Zbq {R : Type} (N : Nat) (l7 : List (Int × Int × List (Int × Int))) (i8 : Int) (K0 : Option R) (K1 : Int → Bool → Option R) : Nat → Int → Option R
  | 0, _ => none
  | n + 1, k9 =>
    (bif decide (k9 < i8) then
 (bif inb k9 (List.length l7) then
 (bif inb i8 (List.length l7) then
 (bif (List.getD l7 (Int.toNat k9) (0, (0, ([] : List (Int × Int))))).1 == (List.getD l7 (Int.toNat i8) (0, (0, ([] : List (Int × Int))))).1 then
 K0
 else
 (Zbq N l7 i8 K0 K1 n (iadd .i64 k9 1))) else none) else none)
 else
 (K1 k9 (decide (k9 < i8))))
noncomputable def Za8 {R : Type} (N : Nat) (l2 : List (Int × Int × List (Int × Int))) (K0 : Option R) (K1 : Int → Bool → Option R) : Nat → Int → Option R
  | 0, _ => none
  | n + 1, i3 =>
    (bif decide (i3 < (ilen l2)) then
 (bif inb i3 (List.length l2) then
 ((Zd N (List.getD l2 (Int.toNat i3) (0, (0, ([] : List (Int × Int))))).1 1 1000000).bind fun o16 =>
 (bif !o16.2.1 then
 K0
 else
 (bif inb i3 (List.length l2) then
 ((Zd N (List.getD l2 (Int.toNat i3) (0, (0, ([] : List (Int × Int))))).2.1 1 99).bind fun o17 =>
 (bif !o17.2.1 then
 K0
 else
 (bif inb i3 (List.length l2) then
 ((Zam N (List.getD l2 (Int.toNat i3) (0, (0, ([] : List (Int × Int))))).2.2).bind fun o18 =>
 (bif !o18.2.1 then
 K0
 else
 (Zbq N l2 i3
 K0
 (fun k19 t20 =>
   (Za8 N l2 K0 K1 n (iadd .i64 i3 1)))
  N 0))) else none))) else none))) else none)
 else
 (K1 i3 (decide (i3 < (ilen l2)))))
noncomputable def Zaz (N : Nat) (l1 : List (Int × Int × List (Int × Int))) : Option (Unit × (Bool × Unit)) :=
    (bif decide ((ilen l1) > 200) then
 (some ((), (false, ())))
 else
 (Za8 N l1
 (some ((), (false, ())))
 (fun i21 t22 =>
   (some ((), (true, ()))))
  N 0))
noncomputable def Zeo (N : Nat) (code1 : List Int) (i2 : Int) : Option (Unit × (Int × Unit)) :=
    (bif decide (i2 < (ilen code1)) then
 (bif inb i2 (List.length code1) then
 (some ((), (IntKind.wrap .i64 (List.getD code1 (Int.toNat i2) 0), ()))) else none)
 else
 (bif inz 256 then
 (some ((), (irem (iadd .i64 (imul .i64 i2 37) (imul .i64 (ilen code1) 11)) 256, ()))) else none))
noncomputable def Zbr (N : Nat) (log1 : List UInt8) (w2 : Int × Int × List (Int × Int)) : Option (Unit × ((List UInt8) × (Bool × Unit))) :=
    ((Z2 N w2).bind fun o3 =>
 ((Zn N log1).bind fun o4 =>
 (bif seq o3.2.1 ([] : List UInt8) then
 (some ((), (log1, (false, ()))))
 else
 (bif (ilen o4.2.1) == 200 then
 (some ((), (log1, (false, ()))))
 else
 (bif decide ((ilen o4.2.1) > 0) then
 (bif inb (isub .i64 (ilen o4.2.1) 1) (List.length o4.2.1) then
 (bif decide (w2.1 ≤ (List.getD o4.2.1 (Int.toNat (isub .i64 (ilen o4.2.1) 1)) (0, (0, ([] : List (Int × Int))))).1) then
 (some ((), (log1, (false, ()))))
 else
 (both
 (bif (decide ((0 : Int) ≤ o4.2.2.1)) && (decide (o4.2.2.1 ≤ ((List.length log1) : Int))) then
 ((Zbd N o3.2.1).bind fun o5 =>
 (bif sfit (List.take (Int.toNat o4.2.2.1) log1) o5.2.1 then
 (some ((), ((List.take (Int.toNat o4.2.2.1) log1) ++ o5.2.1, (true, ())))) else none)) else none)
 ((Zbd N o3.2.1).bind fun o6 =>
 (bif (decide ((0 : Int) ≤ o4.2.2.1)) && (decide (o4.2.2.1 ≤ ((List.length log1) : Int))) then
 (bif sfit (List.take (Int.toNat o4.2.2.1) log1) o6.2.1 then
 (some ((), ((List.take (Int.toNat o4.2.2.1) log1) ++ o6.2.1, (true, ())))) else none) else none)))) else none)
 else
 (both
 (bif (decide ((0 : Int) ≤ o4.2.2.1)) && (decide (o4.2.2.1 ≤ ((List.length log1) : Int))) then
 ((Zbd N o3.2.1).bind fun o7 =>
 (bif sfit (List.take (Int.toNat o4.2.2.1) log1) o7.2.1 then
 (some ((), ((List.take (Int.toNat o4.2.2.1) log1) ++ o7.2.1, (true, ())))) else none)) else none)
 ((Zbd N o3.2.1).bind fun o8 =>
 (bif (decide ((0 : Int) ≤ o4.2.2.1)) && (decide (o4.2.2.1 ≤ ((List.length log1) : Int))) then
 (bif sfit (List.take (Int.toNat o4.2.2.1) log1) o8.2.1 then
 (some ((), ((List.take (Int.toNat o4.2.2.1) log1) ++ o8.2.1, (true, ())))) else none) else none))))))))
noncomputable def Z3 {R : Type} (N : Nat) (K0 : Int → Bool → (List Int × Int × Int) → (List Int) → Option R) : Nat → Int → (List Int × Int × Int) → (List Int) → Option R
  | 0, _, _, _ => none
  | n + 1, i2, b3, l4 =>
    (bif decide (i2 < 8) then
 ((Zcn N b3).bind fun o10 =>
 (bif room ((List.length l4) + (List.length ([o10.2.1]))) then
 (Z3 N K0 n (iadd .i64 i2 1) o10.1.1 (List.append l4 ([o10.2.1]))) else none))
 else
 (K0 i2 (decide (i2 < 8)) b3 l4))
noncomputable def Z1 (N : Nat) (c1 : List Int × Int × Int) : Option (((List Int × Int × Int) × Unit) × ((List Int) × Unit)) :=
    (Z3 N
 (fun i11 t12 b13 l14 =>
   (some ((b13, ()), (l14, ()))))
  N 0 c1 ([] : List Int))
noncomputable def Zad {R : Type} (N : Nat) (K0 : Int → Int → Bool → (List Int × Int × Int) → (List (Int × Int × List (Int × Int))) → Option R) : Nat → Int → Int → (List Int × Int × Int) → (List (Int × Int × List (Int × Int))) → Option R
  | 0, _, _, _, _ => none
  | n + 1, at3, n4, b5, l6 =>
    (bif decide (n4 > 0) then
 ((Zc N b5 3).bind fun o16 =>
 ((Zc N o16.1.1 4).bind fun o17 =>
 ((Zbf N o17.1.1 4).bind fun o18 =>
 ((Zp N o18.1.1 3).bind fun o19 =>
 (bif o19.2.1 then
 (bif room ((List.length ([(iadd .i64 (iadd .i64 at3 (1 : Int)) o16.2.1, (iadd .i64 (1 : Int) o17.2.1, o18.2.1))])) + (List.length l6)) then
 (Zad N K0 n (iadd .i64 (iadd .i64 at3 1) o16.2.1) (isub .i64 n4 1) o19.1.1 (List.append ([(iadd .i64 (iadd .i64 at3 1) o16.2.1, (iadd .i64 1 o17.2.1, o18.2.1))]) l6)) else none)
 else
 (bif room ((List.length l6) + (List.length ([(iadd .i64 (iadd .i64 at3 (1 : Int)) o16.2.1, (iadd .i64 (1 : Int) o17.2.1, o18.2.1))]))) then
 (Zad N K0 n (iadd .i64 (iadd .i64 at3 1) o16.2.1) (isub .i64 n4 1) o19.1.1 (List.append l6 ([(iadd .i64 (iadd .i64 at3 1) o16.2.1, (iadd .i64 1 o17.2.1, o18.2.1))]))) else none))))))
 else
 (K0 at3 n4 (decide (n4 > 0)) b5 l6))
noncomputable def Zb4 (N : Nat) (c1 : List Int × Int × Int) : Option (((List Int × Int × Int) × Unit) × ((List (Int × Int × List (Int × Int))) × Unit)) :=
    ((Zc N c1 6).bind fun o2 =>
 (Zad N
 (fun at20 n21 t22 b23 l24 =>
   (some ((b23, ()), (l24, ()))))
  N 0 o2.2.1 o2.1.1 ([] : List (Int × Int × List (Int × Int)))))
noncomputable def Zd2 (N : Nat) (c1 : List Int × Int × Int) : Option (((List Int × Int × Int) × Unit) × ((List (Int × Int × List (Int × Int))) × Unit)) :=
    ((Zb4 N c1).bind fun o2 =>
 (bif (ilen o2.2.1) == 0 then
 (some ((o2.1.1, ()), (o2.2.1, ())))
 else
 ((Zc N o2.1.1 (ilen o2.2.1)).bind fun o3 =>
 ((Zc N o3.1.1 20).bind fun o4 =>
 (bif o4.2.1 == 0 then
 (bif inb 0 (List.length o2.2.1) then
 (bif inb o3.2.1 (List.length o2.2.1) then
 (some ((o4.1.1, ()), (List.set o2.2.1 (Int.toNat o3.2.1) ((List.getD o2.2.1 (Int.toNat 0) (0, (0, ([] : List (Int × Int))))).1, (List.getD o2.2.1 (Int.toNat o3.2.1) (0, (0, ([] : List (Int × Int))))).2), ()))) else none) else none)
 else
 (bif o4.2.1 == 1 then
 (bif inb o3.2.1 (List.length o2.2.1) then
 (some ((o4.1.1, ()), (List.set o2.2.1 (Int.toNat o3.2.1) (0, (List.getD o2.2.1 (Int.toNat o3.2.1) (0, (0, ([] : List (Int × Int))))).2), ()))) else none)
 else
 (bif o4.2.1 == 2 then
 (bif inb o3.2.1 (List.length o2.2.1) then
 (some ((o4.1.1, ()), (List.set o2.2.1 (Int.toNat o3.2.1) ((List.getD o2.2.1 (Int.toNat o3.2.1) (0, (0, ([] : List (Int × Int))))).1, (0, (List.getD o2.2.1 (Int.toNat o3.2.1) (0, (0, ([] : List (Int × Int))))).2.2)), ()))) else none)
 else
 (bif o4.2.1 == 3 then
 (bif inb o3.2.1 (List.length o2.2.1) then
 (bif room ((List.length (List.getD o2.2.1 (Int.toNat o3.2.1) (0, (0, ([] : List (Int × Int))))).2.2) + (List.length ([((8 : Int), (0 : Int))]))) then
 (bif (inb o3.2.1 (List.length o2.2.1)) && (Nat.beq (Int.toNat o3.2.1) (Int.toNat o3.2.1)) then
 (some ((o4.1.1, ()), (List.set o2.2.1 (Int.toNat o3.2.1) ((List.getD o2.2.1 (Int.toNat o3.2.1) (0, (0, ([] : List (Int × Int))))).1, ((List.getD o2.2.1 (Int.toNat o3.2.1) (0, (0, ([] : List (Int × Int))))).2.1, List.append (List.getD o2.2.1 (Int.toNat o3.2.1) (0, (0, ([] : List (Int × Int))))).2.2 ([(8, 0)]))), ()))) else none) else none) else none)
 else
 (some ((o4.1.1, ()), (o2.2.1, ())))))))))))
noncomputable def Zbl (N : Nat) (code1 : List Int) : Option (Unit × ((List Int) × ((List (Int × Int × List (Int × Int))) × (Int × Unit)))) :=
    ((Zbm N code1).bind fun o2 =>
 ((Z1 N o2.2.1).bind fun o3 =>
 ((Zp N o3.1.1 20).bind fun o4 =>
 (bif o4.2.1 then
 (bif (decide ((0 : Int) ≤ 1)) && (decide ((1 : Int) ≤ ((List.length o3.2.1) : Int))) then
 ((Zd2 N o4.1.1).bind fun o5 =>
 ((Zc N o5.1.1 20).bind fun o6 =>
 (some ((), (List.take (Int.toNat 1) o3.2.1, (o5.2.1, (isub .i64 o6.2.1 2, ()))))))) else none)
 else
 ((Zd2 N o4.1.1).bind fun o7 =>
 ((Zc N o7.1.1 20).bind fun o8 =>
 (some ((), (o3.2.1, (o7.2.1, (isub .i64 o8.2.1 2, ())))))))))))
noncomputable def Zav {R : Type} (N : Nat) (t6 : List (Int × Int)) (K0 : Int → Bool → (List Int) → Option R) : Nat → Int → (List Int) → Option R
  | 0, _, _ => none
  | n + 1, t8, l9 =>
    (bif decide (t8 < (ilen t6)) then
 (bif inb t8 (List.length t6) then
 (bif inb (List.getD t6 (Int.toNat t8) (0, 0)).1 (List.length l9) then
 (Zav N t6 K0 n (iadd .i64 t8 1) (List.set l9 (Int.toNat (List.getD t6 (Int.toNat t8) (0, 0)).1) (List.getD t6 (Int.toNat t8) (0, 0)).2)) else none) else none)
 else
 (K0 t8 (decide (t8 < (ilen t6))) l9))
noncomputable def Za3 (N : Nat) (cells1 : List Int) (l2 : List (Int × Int)) : Option (Unit × ((List Int) × Unit)) :=
    ((Zaf N cells1 8).bind fun o3 =>
 (bif !o3.2.1 then
 (some ((), (([] : List Int), ())))
 else
 ((Zay N l2).bind fun o4 =>
 (bif !o4.2.1 then
 (some ((), (([] : List Int), ())))
 else
 ((Zc1 N cells1).bind fun o5 =>
 (Zav N l2
 (fun t13 t14 l15 =>
   (some ((), (l15, ()))))
  N 0 o5.2.1))))))
noncomputable def Z6 {R : Type} (N : Nat) (t6 : Int) (l9 : List (Int × Int × List (Int × Int))) (K0 : Int → Bool → (List Int) → Option R) : Nat → Int → (List Int) → Option R
  | 0, _, _ => none
  | n + 1, t7, l8 =>
    (bif decide (t7 < t6) then
 (bif inb t7 (List.length l9) then
 ((Za3 N l8 (List.getD l9 (Int.toNat t7) (0, (0, ([] : List (Int × Int))))).2.2).bind fun o14 =>
 (Z6 N t6 l9 K0 n (iadd .i64 t7 1) o14.2.1)) else none)
 else
 (K0 t7 (decide (t7 < t6)) l8))
noncomputable def Zl (N : Nat) (cells1 : List Int) (log2 : List UInt8) : Option (Unit × ((List Int) × Unit)) :=
    ((Zaf N cells1 8).bind fun o3 =>
 (bif !o3.2.1 then
 (some ((), (([] : List Int), ())))
 else
 ((Zc1 N cells1).bind fun o4 =>
 ((Zn N log2).bind fun o5 =>
 (Z6 N (ilen o5.2.1) o5.2.1
 (fun t15 t16 l17 =>
   (some ((), (l17, ()))))
  N 0 o4.2.1)))))
noncomputable def Z5 {R : Type} (N : Nat) (l6 : List (Int × Int × List (Int × Int))) (last7 : Int) (l10 : List Int) (K0 : Int → Int → Bool → Option R) : Nat → Int → Int → Option R
  | 0, _, _ => none
  | n + 1, best8, i9 =>
    (bif decide (i9 < (ilen l6)) then
 (bif inb i9 (List.length l6) then
 (bif decide ((List.getD l6 (Int.toNat i9) (0, (0, ([] : List (Int × Int))))).1 > last7) then
 (bif inb i9 (List.length l6) then
 (bif decide ((List.getD l6 (Int.toNat i9) (0, (0, ([] : List (Int × Int))))).1 < best8) then
 (bif inb i9 (List.length l6) then
 (Z5 N l6 last7 l10 K0 n (List.getD l6 (Int.toNat i9) (0, (0, ([] : List (Int × Int))))).1 (iadd .i64 i9 1)) else none)
 else
 (Z5 N l6 last7 l10 K0 n best8 (iadd .i64 i9 1))) else none)
 else
 (Z5 N l6 last7 l10 K0 n best8 (iadd .i64 i9 1))) else none)
 else
 (K0 best8 i9 (decide (i9 < (ilen l6)))))
noncomputable def Za9 {R : Type} (N : Nat) (l3 : List (Int × Int × List (Int × Int))) (K0 : Int → Bool → (List Int) → Option R) : Nat → Int → (List Int) → Option R
  | 0, _, _ => none
  | n + 1, last4, l5 =>
    (bif decide ((ilen l5) < (ilen l3)) then
 (Z5 N l3 last4 l5
 (fun best20 i21 t22 =>
   (bif room ((List.length l5) + (List.length ([best20]))) then
 (Za9 N l3 K0 n best20 (List.append l5 ([best20]))) else none))
  N 1000001 0)
 else
 (K0 last4 (decide ((ilen l5) < (ilen l3))) l5))
noncomputable def Zbt (N : Nat) (l1 : List (Int × Int × List (Int × Int))) : Option (Unit × ((List Int) × Unit)) :=
    ((Zaz N l1).bind fun o2 =>
 (bif !o2.2.1 then
 (some ((), (([] : List Int), ())))
 else
 (Za9 N l1
 (fun last23 t24 l25 =>
   (some ((), (l25, ()))))
  N 0 ([] : List Int))))
noncomputable def Zaw {R : Type} (N : Nat) (l5 : List (Int × Int)) (K0 : Int → Bool → (List Int) → Option R) : Nat → Int → (List Int) → Option R
  | 0, _, _ => none
  | n + 1, i6, l7 =>
    (bif decide (i6 < (ilen l5)) then
 (bif inb i6 (List.length l5) then
 (bif inb i6 (List.length l5) then
 (bif inb (List.getD l5 (Int.toNat i6) (0, 0)).1 (List.length l7) then
 (Zaw N l5 K0 n (iadd .i64 i6 1) (List.set l7 (Int.toNat (List.getD l5 (Int.toNat i6) (0, 0)).1) (List.getD l5 (Int.toNat i6) (0, 0)).2)) else none) else none) else none)
 else
 (K0 i6 (decide (i6 < (ilen l5))) l7))
noncomputable def Za4 (N : Nat) (cells1 : List Int) (l2 : List (Int × Int)) : Option (Unit × ((List Int) × Unit)) :=
    ((Zbe N cells1).bind fun o3 =>
 (bif !o3.2.1 then
 (some ((), (([] : List Int), ())))
 else
 ((Zam N l2).bind fun o4 =>
 (bif !o4.2.1 then
 (some ((), (([] : List Int), ())))
 else
 (bif room ((List.length ([] : List Int)) + (List.length cells1)) then
 (Zaw N l2
 (fun i11 t12 l13 =>
   (some ((), (l13, ()))))
  N 0 (List.append ([] : List Int) cells1)) else none)))))
noncomputable def Z8 {R : Type} (N : Nat) (l12 : List (Int × Int × List (Int × Int))) (n13 : Int) (i14 : Int) (l17 : List Int) (K0 : Int → Bool → (List Int) → Option R) : Nat → Int → (List Int) → Option R
  | 0, _, _ => none
  | n + 1, k15, l16 =>
    (bif decide (k15 < (ilen l12)) then
 (bif inb k15 (List.length l12) then
 (bif inb i14 (List.length l17) then
 (bif (List.getD l12 (Int.toNat k15) (0, (0, ([] : List (Int × Int))))).1 == (List.getD l17 (Int.toNat i14) 0) then
 (bif inb k15 (List.length l12) then
 ((Za4 N l16 (List.getD l12 (Int.toNat k15) (0, (0, ([] : List (Int × Int))))).2.2).bind fun o22 =>
 (Z8 N l12 n13 i14 l17 K0 n (iadd .i64 k15 1) o22.2.1)) else none)
 else
 (Z8 N l12 n13 i14 l17 K0 n (iadd .i64 k15 1) l16)) else none) else none)
 else
 (K0 k15 (decide (k15 < (ilen l12))) l16))
noncomputable def Zax {R : Type} (N : Nat) (l7 : List (Int × Int × List (Int × Int))) (n8 : Int) (l11 : List Int) (K0 : Int → Bool → (List Int) → Option R) : Nat → Int → (List Int) → Option R
  | 0, _, _ => none
  | n + 1, i9, l10 =>
    (bif decide (i9 < (ilen l11)) then
 (bif inb i9 (List.length l11) then
 (bif decide ((List.getD l11 (Int.toNat i9) 0) ≤ n8) then
 (Z8 N l7 n8 i9 l11
 (fun k29 t30 l31 =>
   (Zax N l7 n8 l11 K0 n (iadd .i64 i9 1) l31))
  N 0 l10)
 else
 (K0 i9 (decide ((List.getD l11 (Int.toNat i9) 0) ≤ n8)) l10)) else none)
 else
 (K0 i9 false l10))
noncomputable def Zx (N : Nat) (cells1 : List Int) (l2 : List (Int × Int × List (Int × Int))) (n3 : Int) : Option (Unit × ((List Int) × Unit)) :=
    ((Zbe N cells1).bind fun o4 =>
 (bif !o4.2.1 then
 (some ((), (([] : List Int), ())))
 else
 ((Zaz N l2).bind fun o5 =>
 (bif !o5.2.1 then
 (some ((), (([] : List Int), ())))
 else
 (bif room ((List.length ([] : List Int)) + (List.length cells1)) then
 ((Zbt N l2).bind fun o6 =>
 (Zax N l2 n3 o6.2.1
 (fun i32 t33 l34 =>
   (some ((), (l34, ()))))
  N 0 (List.append ([] : List Int) cells1))) else none)))))
noncomputable def Zap {R : Type} (N : Nat) (a3 : List Int) (b4 : List Int) (K0 : Option R) (K1 : Int → Bool → Option R) : Nat → Int → Option R
  | 0, _ => none
  | n + 1, i5 =>
    (bif decide (i5 < (ilen a3)) then
 (bif inb i5 (List.length a3) then
 (bif inb i5 (List.length b4) then
 (bif (List.getD a3 (Int.toNat i5) 0) != (List.getD b4 (Int.toNat i5) 0) then
 K0
 else
 (Zap N a3 b4 K0 K1 n (iadd .i64 i5 1))) else none) else none)
 else
 (K1 i5 (decide (i5 < (ilen a3)))))
noncomputable def Zs (N : Nat) (a1 : List Int) (b2 : List Int) : Option (Unit × (Bool × Unit)) :=
    (bif (ilen a1) != (ilen b2) then
 (some ((), (false, ())))
 else
 (Zap N a1 b2
 (some ((), (false, ())))
 (fun i8 t9 =>
   (some ((), (true, ()))))
  N 0))
noncomputable def Zcw (N : Nat) (code1 : List Int) : Option (Unit × (Bool × Unit)) :=
    ((Zi5 N code1).bind fun o2 =>
 (bif o2.2.1 then
 (some ((), (true, ())))
 else
 ((Zb7 N code1).bind fun o3 =>
 ((Zn N o3.2.1).bind fun o4 =>
 ((Zac N o3.2.1).bind fun o5 =>
 (bif o4.2.2.1 != o5.2.2.1 then
 (some ((), (false, ())))
 else
 ((Zo N o4.2.1 o5.2.1).bind fun o6 =>
 (bif !o6.2.1 then
 (some ((), (false, ())))
 else
 ((Zaz N o4.2.1).bind fun o7 =>
 (bif !o7.2.1 then
 (some ((), (false, ())))
 else
 (bif decide (o4.2.2.1 > 0) then
 ((Zeo N code1 0).bind fun o8 =>
 ((Zeo N code1 1).bind fun o9 =>
 (bif inz (iadd .i64 o4.2.2.1 1) then
 (bif (decide ((0 : Int) ≤ (irem (iadd .i64 (imul .i64 o8.2.1 256) o9.2.1) (iadd .i64 o4.2.2.1 1)))) && (decide ((irem (iadd .i64 (imul .i64 o8.2.1 256) o9.2.1) (iadd .i64 o4.2.2.1 1)) ≤ ((List.length o3.2.1) : Int))) then
 ((Zn N (List.take (Int.toNat (irem (iadd .i64 (imul .i64 o8.2.1 256) o9.2.1) (iadd .i64 o4.2.2.1 1))) o3.2.1)).bind fun o10 =>
 (bif decide (o10.2.2.1 > (irem (iadd .i64 (imul .i64 o8.2.1 256) o9.2.1) (iadd .i64 o4.2.2.1 1))) then
 (some ((), (false, ())))
 else
 (bif decide ((ilen o10.2.1) > (ilen o4.2.1)) then
 (some ((), (false, ())))
 else
 (bif (decide ((0 : Int) ≤ (ilen o10.2.1))) && (decide ((ilen o10.2.1) ≤ ((List.length o4.2.1) : Int))) then
 ((Zo N o10.2.1 (List.take (Int.toNat (ilen o10.2.1)) o4.2.1)).bind fun o11 =>
 (bif !o11.2.1 then
 (some ((), (false, ())))
 else
 (bif (decide ((0 : Int) ≤ (irem (iadd .i64 (imul .i64 o8.2.1 256) o9.2.1) (iadd .i64 o4.2.2.1 1)))) && (decide ((irem (iadd .i64 (imul .i64 o8.2.1 256) o9.2.1) (iadd .i64 o4.2.2.1 1)) ≤ ((List.length o3.2.1) : Int))) then
 ((Zbr N (List.take (Int.toNat (irem (iadd .i64 (imul .i64 o8.2.1 256) o9.2.1) (iadd .i64 o4.2.2.1 1))) o3.2.1) (999999, (1, [(3, 7)]))).bind fun o12 =>
 ((Zn N o12.2.1).bind fun o13 =>
 ((Zbl N code1).bind fun o14 =>
 (bif (ilen o14.2.1) != 8 then
 ((Zl N o14.2.1 o3.2.1).bind fun o15 =>
 (some ((), ((ilen o15.2.1) == 0, ()))))
 else
 (bif decide ((ilen o10.2.1) ≥ 200) then
 (some ((), (!o12.2.2.1, ())))
 else
 (bif decide ((ilen o10.2.1) > 0) then
 (bif inb (isub .i64 (ilen o10.2.1) 1) (List.length o10.2.1) then
 (bif decide ((List.getD o10.2.1 (Int.toNat (isub .i64 (ilen o10.2.1) 1)) (0, (0, ([] : List (Int × Int))))).1 ≥ 999999) then
 (some ((), (!o12.2.2.1, ())))
 else
 (bif o12.2.2.1 then
 (bif (ilen o13.2.1) == (iadd .i64 (ilen o10.2.1) 1) then
 (bif (decide ((0 : Int) ≤ (ilen o10.2.1))) && (decide ((ilen o10.2.1) ≤ ((List.length o13.2.1) : Int))) then
 ((Zo N (List.take (Int.toNat (ilen o10.2.1)) o13.2.1) o10.2.1).bind fun o16 =>
 (bif o16.2.1 then
 (bif inb (ilen o10.2.1) (List.length o13.2.1) then
 (bif (List.getD o13.2.1 (Int.toNat (ilen o10.2.1)) (0, (0, ([] : List (Int × Int))))).1 == 999999 then
 ((Zl N o14.2.1 o3.2.1).bind fun o17 =>
 ((Zx N o14.2.1 o4.2.1 1000000).bind fun o18 =>
 ((Zs N o17.2.1 o18.2.1).bind fun o19 =>
 (some ((), (o19.2.1, ()))))))
 else
 (some ((), (false, ())))) else none)
 else
 (some ((), (false, ()))))) else none)
 else
 (some ((), (false, ()))))
 else
 (some ((), (false, ()))))) else none)
 else
 (bif o12.2.2.1 then
 (bif (ilen o13.2.1) == (iadd .i64 (ilen o10.2.1) 1) then
 (bif (decide ((0 : Int) ≤ (ilen o10.2.1))) && (decide ((ilen o10.2.1) ≤ ((List.length o13.2.1) : Int))) then
 ((Zo N (List.take (Int.toNat (ilen o10.2.1)) o13.2.1) o10.2.1).bind fun o20 =>
 (bif o20.2.1 then
 (bif inb (ilen o10.2.1) (List.length o13.2.1) then
 (bif (List.getD o13.2.1 (Int.toNat (ilen o10.2.1)) (0, (0, ([] : List (Int × Int))))).1 == 999999 then
 ((Zl N o14.2.1 o3.2.1).bind fun o21 =>
 ((Zx N o14.2.1 o4.2.1 1000000).bind fun o22 =>
 ((Zs N o21.2.1 o22.2.1).bind fun o23 =>
 (some ((), (o23.2.1, ()))))))
 else
 (some ((), (false, ())))) else none)
 else
 (some ((), (false, ()))))) else none)
 else
 (some ((), (false, ()))))
 else
 (some ((), (false, ())))))))))) else none))) else none)))) else none) else none)))
 else
 (bif (decide ((0 : Int) ≤ 0)) && (decide ((0 : Int) ≤ ((List.length o3.2.1) : Int))) then
 ((Zn N (List.take (Int.toNat 0) o3.2.1)).bind fun o24 =>
 (bif decide (o24.2.2.1 > 0) then
 (some ((), (false, ())))
 else
 (bif decide ((ilen o24.2.1) > (ilen o4.2.1)) then
 (some ((), (false, ())))
 else
 (bif (decide ((0 : Int) ≤ (ilen o24.2.1))) && (decide ((ilen o24.2.1) ≤ ((List.length o4.2.1) : Int))) then
 ((Zo N o24.2.1 (List.take (Int.toNat (ilen o24.2.1)) o4.2.1)).bind fun o25 =>
 (bif !o25.2.1 then
 (some ((), (false, ())))
 else
 (bif (decide ((0 : Int) ≤ 0)) && (decide ((0 : Int) ≤ ((List.length o3.2.1) : Int))) then
 ((Zbr N (List.take (Int.toNat 0) o3.2.1) (999999, (1, [(3, 7)]))).bind fun o26 =>
 ((Zn N o26.2.1).bind fun o27 =>
 ((Zbl N code1).bind fun o28 =>
 (bif (ilen o28.2.1) != 8 then
 ((Zl N o28.2.1 o3.2.1).bind fun o29 =>
 (some ((), ((ilen o29.2.1) == 0, ()))))
 else
 (bif decide ((ilen o24.2.1) ≥ 200) then
 (some ((), (!o26.2.2.1, ())))
 else
 (bif decide ((ilen o24.2.1) > 0) then
 (bif inb (isub .i64 (ilen o24.2.1) 1) (List.length o24.2.1) then
 (bif decide ((List.getD o24.2.1 (Int.toNat (isub .i64 (ilen o24.2.1) 1)) (0, (0, ([] : List (Int × Int))))).1 ≥ 999999) then
 (some ((), (!o26.2.2.1, ())))
 else
 (bif o26.2.2.1 then
 (bif (ilen o27.2.1) == (iadd .i64 (ilen o24.2.1) 1) then
 (bif (decide ((0 : Int) ≤ (ilen o24.2.1))) && (decide ((ilen o24.2.1) ≤ ((List.length o27.2.1) : Int))) then
 ((Zo N (List.take (Int.toNat (ilen o24.2.1)) o27.2.1) o24.2.1).bind fun o30 =>
 (bif o30.2.1 then
 (bif inb (ilen o24.2.1) (List.length o27.2.1) then
 (bif (List.getD o27.2.1 (Int.toNat (ilen o24.2.1)) (0, (0, ([] : List (Int × Int))))).1 == 999999 then
 ((Zl N o28.2.1 o3.2.1).bind fun o31 =>
 ((Zx N o28.2.1 o4.2.1 1000000).bind fun o32 =>
 ((Zs N o31.2.1 o32.2.1).bind fun o33 =>
 (some ((), (o33.2.1, ()))))))
 else
 (some ((), (false, ())))) else none)
 else
 (some ((), (false, ()))))) else none)
 else
 (some ((), (false, ()))))
 else
 (some ((), (false, ()))))) else none)
 else
 (bif o26.2.2.1 then
 (bif (ilen o27.2.1) == (iadd .i64 (ilen o24.2.1) 1) then
 (bif (decide ((0 : Int) ≤ (ilen o24.2.1))) && (decide ((ilen o24.2.1) ≤ ((List.length o27.2.1) : Int))) then
 ((Zo N (List.take (Int.toNat (ilen o24.2.1)) o27.2.1) o24.2.1).bind fun o34 =>
 (bif o34.2.1 then
 (bif inb (ilen o24.2.1) (List.length o27.2.1) then
 (bif (List.getD o27.2.1 (Int.toNat (ilen o24.2.1)) (0, (0, ([] : List (Int × Int))))).1 == 999999 then
 ((Zl N o28.2.1 o3.2.1).bind fun o35 =>
 ((Zx N o28.2.1 o4.2.1 1000000).bind fun o36 =>
 ((Zs N o35.2.1 o36.2.1).bind fun o37 =>
 (some ((), (o37.2.1, ()))))))
 else
 (some ((), (false, ())))) else none)
 else
 (some ((), (false, ()))))) else none)
 else
 (some ((), (false, ()))))
 else
 (some ((), (false, ())))))))))) else none))) else none)))) else none))))))))))))
noncomputable def Ze (N : Nat) (c1 : List Int × Int × Int) : Option (((List Int × Int × Int) × Unit) × (Int × Unit)) :=
    ((Zc N c1 4).bind fun o2 =>
 (some ((o2.1.1, ()), (o2.2.1, ()))))
noncomputable def Zi (N : Nat) (c1 : List Int × Int × Int) : Option (((List Int × Int × Int) × Unit) × (Int × Unit)) :=
    ((Zp N c1 4).bind fun o2 =>
 (bif o2.2.1 then
 ((Zc N o2.1.1 8).bind fun o3 =>
 (some ((o3.1.1, ()), (o3.2.1, ()))))
 else
 ((Zbw N o2.1.1 ([0, 4, 1])).bind fun o4 =>
 (some ((o4.1.1, ()), (o4.2.1, ()))))))
noncomputable def Zh (N : Nat) (c1 : List Int × Int × Int) (kind2 : Int) : Option (((List Int × Int × Int) × Unit) × ((Int × Int × Int × Int) × Unit)) :=
    (bif kind2 == 1 then
 ((Ze N c1).bind fun o3 =>
 ((Zcn N o3.1.1).bind fun o4 =>
 (some ((o4.1.1, ()), ((kind2, (o3.2.1, (o4.2.1, 0))), ())))))
 else
 (bif kind2 == 2 then
 (bif kind2 == 2 then
 ((Ze N c1).bind fun o5 =>
 ((Ze N o5.1.1).bind fun o6 =>
 ((Ze N o6.1.1).bind fun o7 =>
 (some ((o7.1.1, ()), ((kind2, (o5.2.1, (o6.2.1, o7.2.1))), ()))))))
 else
 (bif kind2 == 5 then
 ((Ze N c1).bind fun o8 =>
 ((Z0 N o8.1.1).bind fun o9 =>
 (some ((o9.1.1, ()), ((kind2, (o8.2.1, (o9.2.1, 0))), ())))))
 else
 (bif kind2 == 6 then
 ((Z0 N c1).bind fun o10 =>
 ((Ze N o10.1.1).bind fun o11 =>
 (some ((o11.1.1, ()), ((kind2, (o10.2.1, (o11.2.1, 0))), ())))))
 else
 (bif kind2 == 7 then
 ((Ze N c1).bind fun o12 =>
 ((Zc N o12.1.1 3).bind fun o13 =>
 (some ((o13.1.1, ()), ((kind2, (o12.2.1, (iadd .i64 1 o13.2.1, 0))), ())))))
 else
 (bif kind2 == 8 then
 (bif kind2 == 8 then
 ((Ze N c1).bind fun o14 =>
 (some ((o14.1.1, ()), ((kind2, (o14.2.1, (0, 0))), ()))))
 else
 (bif kind2 == 12 then
 ((Zi N c1).bind fun o15 =>
 ((Ze N o15.1.1).bind fun o16 =>
 ((Ze N o16.1.1).bind fun o17 =>
 (some ((o17.1.1, ()), ((kind2, (o15.2.1, (o16.2.1, o17.2.1))), ()))))))
 else
 (bif kind2 == 13 then
 ((Ze N c1).bind fun o18 =>
 ((Zi N o18.1.1).bind fun o19 =>
 (some ((o19.1.1, ()), ((kind2, (o18.2.1, (o19.2.1, 0))), ())))))
 else
 (bif kind2 == 14 then
 ((Zi N c1).bind fun o20 =>
 ((Ze N o20.1.1).bind fun o21 =>
 (some ((o21.1.1, ()), ((kind2, (o20.2.1, (o21.2.1, 0))), ())))))
 else
 (some ((c1, ()), ((kind2, (0, 0, 0)), ())))))))
 else
 (bif kind2 == 15 then
 (bif kind2 == 15 then
 ((Ze N c1).bind fun o22 =>
 (some ((o22.1.1, ()), ((kind2, (o22.2.1, (0, 0))), ()))))
 else
 (bif kind2 == 12 then
 ((Zi N c1).bind fun o23 =>
 ((Ze N o23.1.1).bind fun o24 =>
 ((Ze N o24.1.1).bind fun o25 =>
 (some ((o25.1.1, ()), ((kind2, (o23.2.1, (o24.2.1, o25.2.1))), ()))))))
 else
 (bif kind2 == 13 then
 ((Ze N c1).bind fun o26 =>
 ((Zi N o26.1.1).bind fun o27 =>
 (some ((o27.1.1, ()), ((kind2, (o26.2.1, (o27.2.1, 0))), ())))))
 else
 (bif kind2 == 14 then
 ((Zi N c1).bind fun o28 =>
 ((Ze N o28.1.1).bind fun o29 =>
 (some ((o29.1.1, ()), ((kind2, (o28.2.1, (o29.2.1, 0))), ())))))
 else
 (some ((c1, ()), ((kind2, (0, 0, 0)), ())))))))
 else
 (bif kind2 == 16 then
 ((Ze N c1).bind fun o30 =>
 (some ((o30.1.1, ()), ((kind2, (o30.2.1, (0, 0))), ()))))
 else
 (bif kind2 == 12 then
 ((Zi N c1).bind fun o31 =>
 ((Ze N o31.1.1).bind fun o32 =>
 ((Ze N o32.1.1).bind fun o33 =>
 (some ((o33.1.1, ()), ((kind2, (o31.2.1, (o32.2.1, o33.2.1))), ()))))))
 else
 (bif kind2 == 13 then
 ((Ze N c1).bind fun o34 =>
 ((Zi N o34.1.1).bind fun o35 =>
 (some ((o35.1.1, ()), ((kind2, (o34.2.1, (o35.2.1, 0))), ())))))
 else
 (bif kind2 == 14 then
 ((Zi N c1).bind fun o36 =>
 ((Ze N o36.1.1).bind fun o37 =>
 (some ((o37.1.1, ()), ((kind2, (o36.2.1, (o37.2.1, 0))), ())))))
 else
 (some ((c1, ()), ((kind2, (0, 0, 0)), ())))))))))))))
 else
 (bif kind2 == 3 then
 (bif kind2 == 3 then
 ((Ze N c1).bind fun o38 =>
 ((Ze N o38.1.1).bind fun o39 =>
 ((Ze N o39.1.1).bind fun o40 =>
 (some ((o40.1.1, ()), ((kind2, (o38.2.1, (o39.2.1, o40.2.1))), ()))))))
 else
 (bif kind2 == 5 then
 ((Ze N c1).bind fun o41 =>
 ((Z0 N o41.1.1).bind fun o42 =>
 (some ((o42.1.1, ()), ((kind2, (o41.2.1, (o42.2.1, 0))), ())))))
 else
 (bif kind2 == 6 then
 ((Z0 N c1).bind fun o43 =>
 ((Ze N o43.1.1).bind fun o44 =>
 (some ((o44.1.1, ()), ((kind2, (o43.2.1, (o44.2.1, 0))), ())))))
 else
 (bif kind2 == 7 then
 ((Ze N c1).bind fun o45 =>
 ((Zc N o45.1.1 3).bind fun o46 =>
 (some ((o46.1.1, ()), ((kind2, (o45.2.1, (iadd .i64 1 o46.2.1, 0))), ())))))
 else
 (bif kind2 == 8 then
 (bif kind2 == 8 then
 ((Ze N c1).bind fun o47 =>
 (some ((o47.1.1, ()), ((kind2, (o47.2.1, (0, 0))), ()))))
 else
 (bif kind2 == 12 then
 ((Zi N c1).bind fun o48 =>
 ((Ze N o48.1.1).bind fun o49 =>
 ((Ze N o49.1.1).bind fun o50 =>
 (some ((o50.1.1, ()), ((kind2, (o48.2.1, (o49.2.1, o50.2.1))), ()))))))
 else
 (bif kind2 == 13 then
 ((Ze N c1).bind fun o51 =>
 ((Zi N o51.1.1).bind fun o52 =>
 (some ((o52.1.1, ()), ((kind2, (o51.2.1, (o52.2.1, 0))), ())))))
 else
 (bif kind2 == 14 then
 ((Zi N c1).bind fun o53 =>
 ((Ze N o53.1.1).bind fun o54 =>
 (some ((o54.1.1, ()), ((kind2, (o53.2.1, (o54.2.1, 0))), ())))))
 else
 (some ((c1, ()), ((kind2, (0, 0, 0)), ())))))))
 else
 (bif kind2 == 15 then
 (bif kind2 == 15 then
 ((Ze N c1).bind fun o55 =>
 (some ((o55.1.1, ()), ((kind2, (o55.2.1, (0, 0))), ()))))
 else
 (bif kind2 == 12 then
 ((Zi N c1).bind fun o56 =>
 ((Ze N o56.1.1).bind fun o57 =>
 ((Ze N o57.1.1).bind fun o58 =>
 (some ((o58.1.1, ()), ((kind2, (o56.2.1, (o57.2.1, o58.2.1))), ()))))))
 else
 (bif kind2 == 13 then
 ((Ze N c1).bind fun o59 =>
 ((Zi N o59.1.1).bind fun o60 =>
 (some ((o60.1.1, ()), ((kind2, (o59.2.1, (o60.2.1, 0))), ())))))
 else
 (bif kind2 == 14 then
 ((Zi N c1).bind fun o61 =>
 ((Ze N o61.1.1).bind fun o62 =>
 (some ((o62.1.1, ()), ((kind2, (o61.2.1, (o62.2.1, 0))), ())))))
 else
 (some ((c1, ()), ((kind2, (0, 0, 0)), ())))))))
 else
 (bif kind2 == 16 then
 ((Ze N c1).bind fun o63 =>
 (some ((o63.1.1, ()), ((kind2, (o63.2.1, (0, 0))), ()))))
 else
 (bif kind2 == 12 then
 ((Zi N c1).bind fun o64 =>
 ((Ze N o64.1.1).bind fun o65 =>
 ((Ze N o65.1.1).bind fun o66 =>
 (some ((o66.1.1, ()), ((kind2, (o64.2.1, (o65.2.1, o66.2.1))), ()))))))
 else
 (bif kind2 == 13 then
 ((Ze N c1).bind fun o67 =>
 ((Zi N o67.1.1).bind fun o68 =>
 (some ((o68.1.1, ()), ((kind2, (o67.2.1, (o68.2.1, 0))), ())))))
 else
 (bif kind2 == 14 then
 ((Zi N c1).bind fun o69 =>
 ((Ze N o69.1.1).bind fun o70 =>
 (some ((o70.1.1, ()), ((kind2, (o69.2.1, (o70.2.1, 0))), ())))))
 else
 (some ((c1, ()), ((kind2, (0, 0, 0)), ())))))))))))))
 else
 (bif kind2 == 4 then
 ((Ze N c1).bind fun o71 =>
 ((Ze N o71.1.1).bind fun o72 =>
 ((Ze N o72.1.1).bind fun o73 =>
 (some ((o73.1.1, ()), ((kind2, (o71.2.1, (o72.2.1, o73.2.1))), ()))))))
 else
 (bif kind2 == 5 then
 ((Ze N c1).bind fun o74 =>
 ((Z0 N o74.1.1).bind fun o75 =>
 (some ((o75.1.1, ()), ((kind2, (o74.2.1, (o75.2.1, 0))), ())))))
 else
 (bif kind2 == 6 then
 ((Z0 N c1).bind fun o76 =>
 ((Ze N o76.1.1).bind fun o77 =>
 (some ((o77.1.1, ()), ((kind2, (o76.2.1, (o77.2.1, 0))), ())))))
 else
 (bif kind2 == 7 then
 ((Ze N c1).bind fun o78 =>
 ((Zc N o78.1.1 3).bind fun o79 =>
 (some ((o79.1.1, ()), ((kind2, (o78.2.1, (iadd .i64 1 o79.2.1, 0))), ())))))
 else
 (bif kind2 == 8 then
 (bif kind2 == 8 then
 ((Ze N c1).bind fun o80 =>
 (some ((o80.1.1, ()), ((kind2, (o80.2.1, (0, 0))), ()))))
 else
 (bif kind2 == 12 then
 ((Zi N c1).bind fun o81 =>
 ((Ze N o81.1.1).bind fun o82 =>
 ((Ze N o82.1.1).bind fun o83 =>
 (some ((o83.1.1, ()), ((kind2, (o81.2.1, (o82.2.1, o83.2.1))), ()))))))
 else
 (bif kind2 == 13 then
 ((Ze N c1).bind fun o84 =>
 ((Zi N o84.1.1).bind fun o85 =>
 (some ((o85.1.1, ()), ((kind2, (o84.2.1, (o85.2.1, 0))), ())))))
 else
 (bif kind2 == 14 then
 ((Zi N c1).bind fun o86 =>
 ((Ze N o86.1.1).bind fun o87 =>
 (some ((o87.1.1, ()), ((kind2, (o86.2.1, (o87.2.1, 0))), ())))))
 else
 (some ((c1, ()), ((kind2, (0, 0, 0)), ())))))))
 else
 (bif kind2 == 15 then
 (bif kind2 == 15 then
 ((Ze N c1).bind fun o88 =>
 (some ((o88.1.1, ()), ((kind2, (o88.2.1, (0, 0))), ()))))
 else
 (bif kind2 == 12 then
 ((Zi N c1).bind fun o89 =>
 ((Ze N o89.1.1).bind fun o90 =>
 ((Ze N o90.1.1).bind fun o91 =>
 (some ((o91.1.1, ()), ((kind2, (o89.2.1, (o90.2.1, o91.2.1))), ()))))))
 else
 (bif kind2 == 13 then
 ((Ze N c1).bind fun o92 =>
 ((Zi N o92.1.1).bind fun o93 =>
 (some ((o93.1.1, ()), ((kind2, (o92.2.1, (o93.2.1, 0))), ())))))
 else
 (bif kind2 == 14 then
 ((Zi N c1).bind fun o94 =>
 ((Ze N o94.1.1).bind fun o95 =>
 (some ((o95.1.1, ()), ((kind2, (o94.2.1, (o95.2.1, 0))), ())))))
 else
 (some ((c1, ()), ((kind2, (0, 0, 0)), ())))))))
 else
 (bif kind2 == 16 then
 ((Ze N c1).bind fun o96 =>
 (some ((o96.1.1, ()), ((kind2, (o96.2.1, (0, 0))), ()))))
 else
 (bif kind2 == 12 then
 ((Zi N c1).bind fun o97 =>
 ((Ze N o97.1.1).bind fun o98 =>
 ((Ze N o98.1.1).bind fun o99 =>
 (some ((o99.1.1, ()), ((kind2, (o97.2.1, (o98.2.1, o99.2.1))), ()))))))
 else
 (bif kind2 == 13 then
 ((Ze N c1).bind fun o100 =>
 ((Zi N o100.1.1).bind fun o101 =>
 (some ((o101.1.1, ()), ((kind2, (o100.2.1, (o101.2.1, 0))), ())))))
 else
 (bif kind2 == 14 then
 ((Zi N c1).bind fun o102 =>
 ((Ze N o102.1.1).bind fun o103 =>
 (some ((o103.1.1, ()), ((kind2, (o102.2.1, (o103.2.1, 0))), ())))))
 else
 (some ((c1, ()), ((kind2, (0, 0, 0)), ()))))))))))))))))
noncomputable def Zg {R : Type} (N : Nat) (rec : (List Int × Int × Int) → Int → Int → Bool → Option (((List Int × Int × Int) × Unit) × ((List (Int × Int × Int × Int)) × Unit))) (most6 : Int) (deep7 : Int) (kid8 : Bool) (K0 : Int → Bool → (List Int × Int × Int) → (List (Int × Int × Int × Int)) → Option R) : Nat → Int → (List Int × Int × Int) → (List (Int × Int × Int × Int)) → Option R
  | 0, _, _, _ => none
  | n + 1, n9, b10, l11 =>
    (bif decide (n9 > 0) then
 (bif decide ((ilen l11) < most6) then
 ((Zc N b10 20).bind fun o84 =>
 (bif decide (o84.2.1 < 5) then
 ((Zh N o84.1.1 5).bind fun o85 =>
 (bif room ((List.length l11) + (List.length ([o85.2.1]))) then
 (Zg N rec most6 deep7 kid8 K0 n (isub .i64 n9 1) o85.1.1 (List.append l11 ([o85.2.1]))) else none))
 else
 (bif decide (o84.2.1 < 10) then
 ((Zh N o84.1.1 6).bind fun o86 =>
 (bif room ((List.length l11) + (List.length ([o86.2.1]))) then
 (Zg N rec most6 deep7 kid8 K0 n (isub .i64 n9 1) o86.1.1 (List.append l11 ([o86.2.1]))) else none))
 else
 (bif decide (o84.2.1 < 12) then
 ((Zc N o84.1.1 4).bind fun o87 =>
 ((Zh N o87.1.1 (iadd .i64 1 o87.2.1)).bind fun o88 =>
 (bif room ((List.length l11) + (List.length ([o88.2.1]))) then
 (Zg N rec most6 deep7 kid8 K0 n (isub .i64 n9 1) o88.1.1 (List.append l11 ([o88.2.1]))) else none)))
 else
 (bif o84.2.1 == 12 then
 (bif decide (deep7 > 0) then
 (bif decide ((isub .i64 most6 (ilen l11)) ≥ 4) then
 ((rec o84.1.1 (isub .i64 (isub .i64 most6 (ilen l11)) 3) (isub .i64 deep7 1) kid8).bind fun o89 =>
 ((Zh N o89.1.1 8).bind fun o90 =>
 (bif room ((List.length l11) + (List.length ([o90.2.1]))) then
 (bif room ((List.length (List.append l11 ([o90.2.1]))) + (List.length o89.2.1)) then
 ((Zp N o90.1.1 3).bind fun o91 =>
 (bif o91.2.1 then
 (bif room ((List.length (List.append (List.append l11 ([o90.2.1])) o89.2.1)) + (List.length ([((10 : Int), ((0 : Int), ((0 : Int), (0 : Int))))]))) then
 (bif room ((List.length (List.append (List.append (List.append l11 ([o90.2.1])) o89.2.1) ([(10, (0, 0, 0))]))) + (List.length ([((9 : Int), ((0 : Int), ((0 : Int), (0 : Int))))]))) then
 (Zg N rec most6 deep7 kid8 K0 n (isub .i64 n9 1) o91.1.1 (List.append (List.append (List.append (List.append l11 ([o90.2.1])) o89.2.1) ([(10, (0, 0, 0))])) ([(9, (0, 0, 0))]))) else none) else none)
 else
 (bif room ((List.length (List.append (List.append l11 ([o90.2.1])) o89.2.1)) + (List.length ([((9 : Int), ((0 : Int), ((0 : Int), (0 : Int))))]))) then
 (Zg N rec most6 deep7 kid8 K0 n (isub .i64 n9 1) o91.1.1 (List.append (List.append (List.append l11 ([o90.2.1])) o89.2.1) ([(9, (0, 0, 0))]))) else none))) else none) else none)))
 else
 (bif o84.2.1 == 13 then
 (bif decide ((isub .i64 most6 (ilen l11)) ≥ 3) then
 ((rec o84.1.1 2 0 kid8).bind fun o92 =>
 ((Zh N o92.1.1 7).bind fun o93 =>
 (bif room ((List.length l11) + (List.length ([(o93.2.1.1, (o93.2.1.2.1, (ilen o92.2.1, o93.2.1.2.2.2)))]))) then
 (bif room ((List.length (List.append l11 ([(o93.2.1.1, (o93.2.1.2.1, (ilen o92.2.1, o93.2.1.2.2.2)))]))) + (List.length o92.2.1)) then
 (Zg N rec most6 deep7 kid8 K0 n (isub .i64 n9 1) o93.1.1 (List.append (List.append l11 ([(o93.2.1.1, (o93.2.1.2.1, (ilen o92.2.1, o93.2.1.2.2.2)))])) o92.2.1)) else none) else none)))
 else
 (bif o84.2.1 == 14 then
 ((Zp N o84.1.1 6).bind fun o94 =>
 (bif o94.2.1 then
 (bif room ((List.length l11) + (List.length ([((10 : Int), ((0 : Int), ((0 : Int), (0 : Int))))]))) then
 (Zg N rec most6 deep7 kid8 K0 n (isub .i64 n9 1) o94.1.1 (List.append l11 ([(10, (0, 0, 0))]))) else none)
 else
 (bif kid8 then
 ((Zc N o94.1.1 3).bind fun o95 =>
 ((Zh N o95.1.1 (iadd .i64 1 o95.2.1)).bind fun o96 =>
 (bif room ((List.length l11) + (List.length ([o96.2.1]))) then
 (Zg N rec most6 deep7 kid8 K0 n (isub .i64 n9 1) o96.1.1 (List.append l11 ([o96.2.1]))) else none)))
 else
 ((Zc N o94.1.1 5).bind fun o97 =>
 ((Zh N o97.1.1 (iadd .i64 12 o97.2.1)).bind fun o98 =>
 (bif room ((List.length l11) + (List.length ([o98.2.1]))) then
 (Zg N rec most6 deep7 kid8 K0 n (isub .i64 n9 1) o98.1.1 (List.append l11 ([o98.2.1]))) else none))))))
 else
 (bif kid8 then
 ((Zc N o84.1.1 3).bind fun o99 =>
 ((Zh N o99.1.1 (iadd .i64 1 o99.2.1)).bind fun o100 =>
 (bif room ((List.length l11) + (List.length ([o100.2.1]))) then
 (Zg N rec most6 deep7 kid8 K0 n (isub .i64 n9 1) o100.1.1 (List.append l11 ([o100.2.1]))) else none)))
 else
 ((Zc N o84.1.1 5).bind fun o101 =>
 ((Zh N o101.1.1 (iadd .i64 12 o101.2.1)).bind fun o102 =>
 (bif room ((List.length l11) + (List.length ([o102.2.1]))) then
 (Zg N rec most6 deep7 kid8 K0 n (isub .i64 n9 1) o102.1.1 (List.append l11 ([o102.2.1]))) else none))))))
 else
 (bif o84.2.1 == 14 then
 ((Zp N o84.1.1 6).bind fun o103 =>
 (bif o103.2.1 then
 (bif room ((List.length l11) + (List.length ([((10 : Int), ((0 : Int), ((0 : Int), (0 : Int))))]))) then
 (Zg N rec most6 deep7 kid8 K0 n (isub .i64 n9 1) o103.1.1 (List.append l11 ([(10, (0, 0, 0))]))) else none)
 else
 (bif kid8 then
 ((Zc N o103.1.1 3).bind fun o104 =>
 ((Zh N o104.1.1 (iadd .i64 1 o104.2.1)).bind fun o105 =>
 (bif room ((List.length l11) + (List.length ([o105.2.1]))) then
 (Zg N rec most6 deep7 kid8 K0 n (isub .i64 n9 1) o105.1.1 (List.append l11 ([o105.2.1]))) else none)))
 else
 ((Zc N o103.1.1 5).bind fun o106 =>
 ((Zh N o106.1.1 (iadd .i64 12 o106.2.1)).bind fun o107 =>
 (bif room ((List.length l11) + (List.length ([o107.2.1]))) then
 (Zg N rec most6 deep7 kid8 K0 n (isub .i64 n9 1) o107.1.1 (List.append l11 ([o107.2.1]))) else none))))))
 else
 (bif kid8 then
 ((Zc N o84.1.1 3).bind fun o108 =>
 ((Zh N o108.1.1 (iadd .i64 1 o108.2.1)).bind fun o109 =>
 (bif room ((List.length l11) + (List.length ([o109.2.1]))) then
 (Zg N rec most6 deep7 kid8 K0 n (isub .i64 n9 1) o109.1.1 (List.append l11 ([o109.2.1]))) else none)))
 else
 ((Zc N o84.1.1 5).bind fun o110 =>
 ((Zh N o110.1.1 (iadd .i64 12 o110.2.1)).bind fun o111 =>
 (bif room ((List.length l11) + (List.length ([o111.2.1]))) then
 (Zg N rec most6 deep7 kid8 K0 n (isub .i64 n9 1) o111.1.1 (List.append l11 ([o111.2.1]))) else none)))))))
 else
 (bif o84.2.1 == 13 then
 (bif decide ((isub .i64 most6 (ilen l11)) ≥ 3) then
 ((rec o84.1.1 2 0 kid8).bind fun o112 =>
 ((Zh N o112.1.1 7).bind fun o113 =>
 (bif room ((List.length l11) + (List.length ([(o113.2.1.1, (o113.2.1.2.1, (ilen o112.2.1, o113.2.1.2.2.2)))]))) then
 (bif room ((List.length (List.append l11 ([(o113.2.1.1, (o113.2.1.2.1, (ilen o112.2.1, o113.2.1.2.2.2)))]))) + (List.length o112.2.1)) then
 (Zg N rec most6 deep7 kid8 K0 n (isub .i64 n9 1) o113.1.1 (List.append (List.append l11 ([(o113.2.1.1, (o113.2.1.2.1, (ilen o112.2.1, o113.2.1.2.2.2)))])) o112.2.1)) else none) else none)))
 else
 (bif o84.2.1 == 14 then
 ((Zp N o84.1.1 6).bind fun o114 =>
 (bif o114.2.1 then
 (bif room ((List.length l11) + (List.length ([((10 : Int), ((0 : Int), ((0 : Int), (0 : Int))))]))) then
 (Zg N rec most6 deep7 kid8 K0 n (isub .i64 n9 1) o114.1.1 (List.append l11 ([(10, (0, 0, 0))]))) else none)
 else
 (bif kid8 then
 ((Zc N o114.1.1 3).bind fun o115 =>
 ((Zh N o115.1.1 (iadd .i64 1 o115.2.1)).bind fun o116 =>
 (bif room ((List.length l11) + (List.length ([o116.2.1]))) then
 (Zg N rec most6 deep7 kid8 K0 n (isub .i64 n9 1) o116.1.1 (List.append l11 ([o116.2.1]))) else none)))
 else
 ((Zc N o114.1.1 5).bind fun o117 =>
 ((Zh N o117.1.1 (iadd .i64 12 o117.2.1)).bind fun o118 =>
 (bif room ((List.length l11) + (List.length ([o118.2.1]))) then
 (Zg N rec most6 deep7 kid8 K0 n (isub .i64 n9 1) o118.1.1 (List.append l11 ([o118.2.1]))) else none))))))
 else
 (bif kid8 then
 ((Zc N o84.1.1 3).bind fun o119 =>
 ((Zh N o119.1.1 (iadd .i64 1 o119.2.1)).bind fun o120 =>
 (bif room ((List.length l11) + (List.length ([o120.2.1]))) then
 (Zg N rec most6 deep7 kid8 K0 n (isub .i64 n9 1) o120.1.1 (List.append l11 ([o120.2.1]))) else none)))
 else
 ((Zc N o84.1.1 5).bind fun o121 =>
 ((Zh N o121.1.1 (iadd .i64 12 o121.2.1)).bind fun o122 =>
 (bif room ((List.length l11) + (List.length ([o122.2.1]))) then
 (Zg N rec most6 deep7 kid8 K0 n (isub .i64 n9 1) o122.1.1 (List.append l11 ([o122.2.1]))) else none))))))
 else
 (bif o84.2.1 == 14 then
 ((Zp N o84.1.1 6).bind fun o123 =>
 (bif o123.2.1 then
 (bif room ((List.length l11) + (List.length ([((10 : Int), ((0 : Int), ((0 : Int), (0 : Int))))]))) then
 (Zg N rec most6 deep7 kid8 K0 n (isub .i64 n9 1) o123.1.1 (List.append l11 ([(10, (0, 0, 0))]))) else none)
 else
 (bif kid8 then
 ((Zc N o123.1.1 3).bind fun o124 =>
 ((Zh N o124.1.1 (iadd .i64 1 o124.2.1)).bind fun o125 =>
 (bif room ((List.length l11) + (List.length ([o125.2.1]))) then
 (Zg N rec most6 deep7 kid8 K0 n (isub .i64 n9 1) o125.1.1 (List.append l11 ([o125.2.1]))) else none)))
 else
 ((Zc N o123.1.1 5).bind fun o126 =>
 ((Zh N o126.1.1 (iadd .i64 12 o126.2.1)).bind fun o127 =>
 (bif room ((List.length l11) + (List.length ([o127.2.1]))) then
 (Zg N rec most6 deep7 kid8 K0 n (isub .i64 n9 1) o127.1.1 (List.append l11 ([o127.2.1]))) else none))))))
 else
 (bif kid8 then
 ((Zc N o84.1.1 3).bind fun o128 =>
 ((Zh N o128.1.1 (iadd .i64 1 o128.2.1)).bind fun o129 =>
 (bif room ((List.length l11) + (List.length ([o129.2.1]))) then
 (Zg N rec most6 deep7 kid8 K0 n (isub .i64 n9 1) o129.1.1 (List.append l11 ([o129.2.1]))) else none)))
 else
 ((Zc N o84.1.1 5).bind fun o130 =>
 ((Zh N o130.1.1 (iadd .i64 12 o130.2.1)).bind fun o131 =>
 (bif room ((List.length l11) + (List.length ([o131.2.1]))) then
 (Zg N rec most6 deep7 kid8 K0 n (isub .i64 n9 1) o131.1.1 (List.append l11 ([o131.2.1]))) else none)))))))
 else
 (bif o84.2.1 == 13 then
 (bif decide ((isub .i64 most6 (ilen l11)) ≥ 3) then
 ((rec o84.1.1 2 0 kid8).bind fun o132 =>
 ((Zh N o132.1.1 7).bind fun o133 =>
 (bif room ((List.length l11) + (List.length ([(o133.2.1.1, (o133.2.1.2.1, (ilen o132.2.1, o133.2.1.2.2.2)))]))) then
 (bif room ((List.length (List.append l11 ([(o133.2.1.1, (o133.2.1.2.1, (ilen o132.2.1, o133.2.1.2.2.2)))]))) + (List.length o132.2.1)) then
 (Zg N rec most6 deep7 kid8 K0 n (isub .i64 n9 1) o133.1.1 (List.append (List.append l11 ([(o133.2.1.1, (o133.2.1.2.1, (ilen o132.2.1, o133.2.1.2.2.2)))])) o132.2.1)) else none) else none)))
 else
 (bif o84.2.1 == 14 then
 ((Zp N o84.1.1 6).bind fun o134 =>
 (bif o134.2.1 then
 (bif room ((List.length l11) + (List.length ([((10 : Int), ((0 : Int), ((0 : Int), (0 : Int))))]))) then
 (Zg N rec most6 deep7 kid8 K0 n (isub .i64 n9 1) o134.1.1 (List.append l11 ([(10, (0, 0, 0))]))) else none)
 else
 (bif kid8 then
 ((Zc N o134.1.1 3).bind fun o135 =>
 ((Zh N o135.1.1 (iadd .i64 1 o135.2.1)).bind fun o136 =>
 (bif room ((List.length l11) + (List.length ([o136.2.1]))) then
 (Zg N rec most6 deep7 kid8 K0 n (isub .i64 n9 1) o136.1.1 (List.append l11 ([o136.2.1]))) else none)))
 else
 ((Zc N o134.1.1 5).bind fun o137 =>
 ((Zh N o137.1.1 (iadd .i64 12 o137.2.1)).bind fun o138 =>
 (bif room ((List.length l11) + (List.length ([o138.2.1]))) then
 (Zg N rec most6 deep7 kid8 K0 n (isub .i64 n9 1) o138.1.1 (List.append l11 ([o138.2.1]))) else none))))))
 else
 (bif kid8 then
 ((Zc N o84.1.1 3).bind fun o139 =>
 ((Zh N o139.1.1 (iadd .i64 1 o139.2.1)).bind fun o140 =>
 (bif room ((List.length l11) + (List.length ([o140.2.1]))) then
 (Zg N rec most6 deep7 kid8 K0 n (isub .i64 n9 1) o140.1.1 (List.append l11 ([o140.2.1]))) else none)))
 else
 ((Zc N o84.1.1 5).bind fun o141 =>
 ((Zh N o141.1.1 (iadd .i64 12 o141.2.1)).bind fun o142 =>
 (bif room ((List.length l11) + (List.length ([o142.2.1]))) then
 (Zg N rec most6 deep7 kid8 K0 n (isub .i64 n9 1) o142.1.1 (List.append l11 ([o142.2.1]))) else none))))))
 else
 (bif o84.2.1 == 14 then
 ((Zp N o84.1.1 6).bind fun o143 =>
 (bif o143.2.1 then
 (bif room ((List.length l11) + (List.length ([((10 : Int), ((0 : Int), ((0 : Int), (0 : Int))))]))) then
 (Zg N rec most6 deep7 kid8 K0 n (isub .i64 n9 1) o143.1.1 (List.append l11 ([(10, (0, 0, 0))]))) else none)
 else
 (bif kid8 then
 ((Zc N o143.1.1 3).bind fun o144 =>
 ((Zh N o144.1.1 (iadd .i64 1 o144.2.1)).bind fun o145 =>
 (bif room ((List.length l11) + (List.length ([o145.2.1]))) then
 (Zg N rec most6 deep7 kid8 K0 n (isub .i64 n9 1) o145.1.1 (List.append l11 ([o145.2.1]))) else none)))
 else
 ((Zc N o143.1.1 5).bind fun o146 =>
 ((Zh N o146.1.1 (iadd .i64 12 o146.2.1)).bind fun o147 =>
 (bif room ((List.length l11) + (List.length ([o147.2.1]))) then
 (Zg N rec most6 deep7 kid8 K0 n (isub .i64 n9 1) o147.1.1 (List.append l11 ([o147.2.1]))) else none))))))
 else
 (bif kid8 then
 ((Zc N o84.1.1 3).bind fun o148 =>
 ((Zh N o148.1.1 (iadd .i64 1 o148.2.1)).bind fun o149 =>
 (bif room ((List.length l11) + (List.length ([o149.2.1]))) then
 (Zg N rec most6 deep7 kid8 K0 n (isub .i64 n9 1) o149.1.1 (List.append l11 ([o149.2.1]))) else none)))
 else
 ((Zc N o84.1.1 5).bind fun o150 =>
 ((Zh N o150.1.1 (iadd .i64 12 o150.2.1)).bind fun o151 =>
 (bif room ((List.length l11) + (List.length ([o151.2.1]))) then
 (Zg N rec most6 deep7 kid8 K0 n (isub .i64 n9 1) o151.1.1 (List.append l11 ([o151.2.1]))) else none)))))))))))
 else
 (K0 n9 (decide ((ilen l11) < most6)) b10 l11))
 else
 (K0 n9 false b10 l11))
noncomputable def Zey (N : Nat) : Nat → (List Int × Int × Int) → Int → Int → Bool → Option (((List Int × Int × Int) × Unit) × ((List (Int × Int × Int × Int)) × Unit))
  | 0, _, _, _, _ => none
  | m + 1, c1, most2, deep3, kid4 =>
    ((Zc N c1 most2).bind fun o5 =>
 (Zg N (Zey N m) most2 deep3 kid4
 (fun n152 t153 b154 l155 =>
   (some ((b154, ()), (l155, ()))))
  N (iadd .i64 1 o5.2.1) o5.1.1 ([] : List (Int × Int × Int × Int))))
noncomputable def Zgr (N : Nat) (c1 : List Int × Int × Int) (most2 : Int) (deep3 : Int) (kid4 : Bool) : Option (((List Int × Int × Int) × Unit) × ((List (Int × Int × Int × Int)) × Unit)) := Zey N N c1 most2 deep3 kid4
noncomputable def Zf2 (N : Nat) (c1 : List Int × Int × Int) : Option (((List Int × Int × Int) × Unit) × ((List (Int × Int × Int × Int)) × Unit)) :=
    ((Zgr N c1 3 1 true).bind fun o2 =>
 ((Zp N o2.1.1 3).bind fun o3 =>
 (bif o3.2.1 then
 (some ((o3.1.1, ()), (o2.2.1, ())))
 else
 ((Z0 N o3.1.1).bind fun o4 =>
 ((Ze N o4.1.1).bind fun o5 =>
 (bif inz 4 then
 ((Zc N o5.1.1 3).bind fun o6 =>
 (bif inz 4 then
 (bif room ((List.length ([((5 : Int), (o5.2.1, (o4.2.1, (0 : Int)))), ((1 : Int), (irem (iadd .i64 o5.2.1 (1 : Int)) (4 : Int), (iadd .i64 (1 : Int) o6.2.1, (0 : Int)))), ((4 : Int), (o5.2.1, (o5.2.1, irem (iadd .i64 o5.2.1 (1 : Int)) (4 : Int)))), ((7 : Int), (o5.2.1, ((1 : Int), (0 : Int)))), ((10 : Int), ((0 : Int), ((0 : Int), (0 : Int))))])) + (List.length o2.2.1)) then
 (some ((o6.1.1, ()), (List.append ([(5, (o5.2.1, (o4.2.1, 0))), (1, (irem (iadd .i64 o5.2.1 1) 4, (iadd .i64 1 o6.2.1, 0))), (4, (o5.2.1, (o5.2.1, irem (iadd .i64 o5.2.1 1) 4))), (7, (o5.2.1, (1, 0))), (10, (0, 0, 0))]) o2.2.1, ()))) else none) else none)) else none))))))
noncomputable def Zcd {R : Type} (N : Nat) (K0 : Int → Bool → (List Int × Int × Int) → (List (List (Int × Int × Int × Int))) → Option R) : Nat → Int → (List Int × Int × Int) → (List (List (Int × Int × Int × Int))) → Option R
  | 0, _, _, _ => none
  | n + 1, n3, b4, l5 =>
    (bif decide (n3 > 0) then
 ((Zf2 N b4).bind fun o11 =>
 (bif room ((List.length l5) + (List.length ([o11.2.1]))) then
 (Zcd N K0 n (isub .i64 n3 1) o11.1.1 (List.append l5 ([o11.2.1]))) else none))
 else
 (K0 n3 (decide (n3 > 0)) b4 l5))
noncomputable def Zib (N : Nat) (c1 : List Int × Int × Int) : Option (((List Int × Int × Int) × Unit) × ((List (List (Int × Int × Int × Int))) × Unit)) :=
    ((Zc N c1 4).bind fun o2 =>
 (Zcd N
 (fun n12 t13 b14 l15 =>
   (some ((b14, ()), (l15, ()))))
  N o2.2.1 o2.1.1 ([] : List (List (Int × Int × Int × Int)))))
noncomputable def Zco {R : Type} (N : Nat) (l9 : List (List (Int × Int × Int × Int))) (l10 : List Int) (K0 : Int → Bool → (List Int × Int × Int) → (List Int) → Option R) : Nat → Int → (List Int × Int × Int) → (List Int) → Option R
  | 0, _, _, _ => none
  | n + 1, i7, b8, l11 =>
    (bif decide (i7 < (ilen l11)) then
 ((Zp N b8 2).bind fun o17 =>
 (bif o17.2.1 then
 (bif inb i7 (List.length l11) then
 (Zco N l9 l10 K0 n (iadd .i64 i7 1) o17.1.1 (List.set l11 (Int.toNat i7) 0)) else none)
 else
 (Zco N l9 l10 K0 n (iadd .i64 i7 1) o17.1.1 l11)))
 else
 (K0 i7 (decide (i7 < (ilen l11))) b8 l11))
noncomputable def Zcp {R : Type} (N : Nat) (l25 : List Int) (l26 : List Int) (K0 : Bool → (List Int × Int × Int) → (List (List (Int × Int × Int × Int))) → Option R) : Nat → (List Int × Int × Int) → (List (List (Int × Int × Int × Int))) → Option R
  | 0, _, _ => none
  | n + 1, b23, l24 =>
    ((Zc N b23 2).bind fun o31 =>
 (bif decide ((ilen l24) < (iadd .i64 4 o31.2.1)) then
 (bif room ((List.length l24) + (List.length ([([] : List (Int × Int × Int × Int))]))) then
 (Zcp N l25 l26 K0 n o31.1.1 (List.append l24 ([([] : List (Int × Int × Int × Int))]))) else none)
 else
 (K0 (decide ((ilen l24) < (iadd .i64 4 o31.2.1))) o31.1.1 l24)))
noncomputable def Zka (N : Nat) (c1 : List Int × Int × Int) : Option (((List Int × Int × Int) × Unit) × ((List (List (Int × Int × Int × Int))) × ((List Int) × ((List Int) × Unit)))) :=
    ((Zib N c1).bind fun o2 =>
 ((Zc N o2.1.1 3).bind fun o3 =>
 ((Zcn N o3.1.1).bind fun o4 =>
 ((Zc N o4.1.1 2).bind fun o5 =>
 ((Z1 N o5.1.1).bind fun o6 =>
 (Zco N o2.2.1 ([o3.2.1, 0, o4.2.1, o5.2.1])
 (fun i18 t19 b20 l21 =>
   ((Zc N b20 24).bind fun o22 =>
 (bif o22.2.1 == 0 then
 (bif (decide ((0 : Int) ≤ 1)) && (decide ((1 : Int) ≤ ((List.length ([o3.2.1, (0 : Int), o4.2.1, o5.2.1])) : Int))) then
 (some ((o22.1.1, ()), (o2.2.1, (List.take (Int.toNat 1) ([o3.2.1, 0, o4.2.1, o5.2.1]), (l21, ()))))) else none)
 else
 (bif o22.2.1 == 1 then
 (bif (decide ((0 : Int) ≤ 1)) && (decide ((1 : Int) ≤ ((List.length l21) : Int))) then
 (some ((o22.1.1, ()), (o2.2.1, ([o3.2.1, 0, o4.2.1, o5.2.1], (List.take (Int.toNat 1) l21, ()))))) else none)
 else
 (bif o22.2.1 == 2 then
 (Zcp N ([o3.2.1, 0, o4.2.1, o5.2.1]) l21
 (fun t32 b33 l34 =>
   (some ((b33, ()), (l34, ([o3.2.1, 0, o4.2.1, o5.2.1], (l21, ()))))))
  N o22.1.1 o2.2.1)
 else
 (bif o22.2.1 == 3 then
 (bif room ((List.length o2.2.1) + (List.length ([([((11 : Int), ((0 : Int), ((0 : Int), (0 : Int))))])]))) then
 (some ((o22.1.1, ()), (List.append o2.2.1 ([([(11, (0, 0, 0))])]), ([o3.2.1, 0, o4.2.1, o5.2.1], (l21, ()))))) else none)
 else
 (some ((o22.1.1, ()), (o2.2.1, ([o3.2.1, 0, o4.2.1, o5.2.1], (l21, ())))))))))))
  N 0 o6.1.1 o6.2.1))))))
end Go.Sx
