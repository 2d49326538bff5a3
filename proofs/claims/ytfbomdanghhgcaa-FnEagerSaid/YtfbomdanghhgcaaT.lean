/- What each Go function computes, as a Lean function. -/
import Derived.Test.YtfbomdanghhgcaaM3
namespace Go.Sx
set_option linter.unusedVariables false

noncomputable def T_spec_l1In (N : Nat) (x1 : Int) (low2 : Int) (high3 : Int) : Option (Unit × (Bool × Unit)) :=
    (bif decide (x1 ≥ low2) then
 (some ((), (decide (x1 ≤ high3), ())))
 else
 (some ((), (false, ()))))

noncomputable def T_impl_within (N : Nat) (x1 : Int) (lo2 : Int) (hi3 : Int) : Option (Unit × (Bool × Unit)) :=
    (bif decide (x1 ≥ lo2) then
 (some ((), (decide (x1 ≤ hi3), ())))
 else
 (some ((), (false, ()))))

noncomputable def T_spec_l3Val (N : Nat) (v1 : Int) : Option (Unit × (Bool × Unit)) :=
    ((T_spec_l1In N v1 (0 : Int) (65535 : Int)).bind fun o2 =>
 (some ((), (o2.2.1, ()))))

noncomputable def T_impl_isValue (N : Nat) (v1 : Int) : Option (Unit × (Bool × Unit)) :=
    ((T_impl_within N v1 (0 : Int) (65535 : Int)).bind fun o2 =>
 (some ((), (o2.2.1, ()))))

noncomputable def T_laws_big (N : Nat) (code1 : List Int) : Option (Unit × (Bool × Unit)) :=
    (some ((), (decide ((ilen code1) > (1048576 : Int)), ())))

noncomputable def T_spec_l1New_lp0 {R : Type} (N : Nat) (code2 : List Int) (K0 : Int → Int → Bool → Option R) : Nat → Int → Int → Option R
  | 0, _, _ => none
  | n + 1, h3, i4 =>
    (bif decide (i4 < (ilen code2)) then
 (bif decide (i4 < (4000 : Int)) then
 (bif inb i4 (List.length code2) then
 (T_spec_l1New_lp0 N code2 K0 n (iand .i64 (iadd .i64 (iadd .i64 (imul .i64 h3 (131 : Int)) (IntKind.wrap .i64 (List.getD code2 (Int.toNat i4) (0 : Int)))) (7 : Int)) (1073741823 : Int)) (iadd .i64 i4 (1 : Int))) else none)
 else
 (K0 h3 i4 (decide (i4 < (4000 : Int)))))
 else
 (K0 h3 i4 false))

noncomputable def T_spec_l1New (N : Nat) (code1 : List Int) : Option (Unit × ((List Int × Int × Int) × Unit)) :=
    (T_spec_l1New_lp0 N code1
 (fun h8 i9 t10 =>
   (some ((), ((code1, ((0 : Int), h8)), ()))))
  N (iadd .i64 (10101 : Int) (ilen code1)) (0 : Int))

noncomputable def T_spec_l1Byte (N : Nat) (c1 : List Int × Int × Int) : Option (((List Int × Int × Int) × Unit) × (Int × Unit)) :=
    (bif inn (33 : Int) then
 (bif inn (45 : Int) then
 (bif decide (c1.2.1 < (ilen c1.1)) then
 (bif inb c1.2.1 (List.length c1.1) then
 (some (((c1.1, (iadd .i64 c1.2.1 (1 : Int), iadd .i64 (imul .i64 c1.2.2 (6364136223846793005 : Int)) (1442695040888963407 : Int))), ()), (iand .i64 (iadd .i64 (iand .i64 (ixor .i64 (ishr .i64 (iadd .i64 (imul .i64 c1.2.2 (6364136223846793005 : Int)) (1442695040888963407 : Int)) (33 : Int)) (ishr .i64 (iadd .i64 (imul .i64 c1.2.2 (6364136223846793005 : Int)) (1442695040888963407 : Int)) (45 : Int))) (255 : Int)) (IntKind.wrap .i64 (List.getD c1.1 (Int.toNat c1.2.1) (0 : Int)))) (255 : Int), ()))) else none)
 else
 (some (((c1.1, (c1.2.1, iadd .i64 (imul .i64 c1.2.2 (6364136223846793005 : Int)) (1442695040888963407 : Int))), ()), (iand .i64 (ixor .i64 (ishr .i64 (iadd .i64 (imul .i64 c1.2.2 (6364136223846793005 : Int)) (1442695040888963407 : Int)) (33 : Int)) (ishr .i64 (iadd .i64 (imul .i64 c1.2.2 (6364136223846793005 : Int)) (1442695040888963407 : Int)) (45 : Int))) (255 : Int), ())))) else none) else none)

noncomputable def T_spec_l1Below (N : Nat) (c1 : List Int × Int × Int) (n2 : Int) : Option (((List Int × Int × Int) × Unit) × (Int × Unit)) :=
    (bif decide (n2 ≤ (0 : Int)) then
 (some ((c1, ()), ((0 : Int), ())))
 else
 (bif decide (n2 ≤ (256 : Int)) then
 ((T_spec_l1Byte N c1).bind fun o3 =>
 (bif inz n2 then
 (some ((o3.1.1, ()), (irem o3.2.1 n2, ()))) else none))
 else
 ((T_spec_l1Byte N c1).bind fun o4 =>
 ((T_spec_l1Byte N o4.1.1).bind fun o5 =>
 ((T_spec_l1Byte N o5.1.1).bind fun o6 =>
 ((T_spec_l1Byte N o6.1.1).bind fun o7 =>
 (bif inz n2 then
 (some ((o7.1.1, ()), (irem (iadd .i64 (iadd .i64 (iadd .i64 (imul .i64 o4.2.1 (16777216 : Int)) (imul .i64 o5.2.1 (65536 : Int))) (imul .i64 o6.2.1 (256 : Int))) o7.2.1) n2, ()))) else none)))))))

noncomputable def T_spec_l1Once (N : Nat) (c1 : List Int × Int × Int) (n2 : Int) : Option (((List Int × Int × Int) × Unit) × (Bool × Unit)) :=
    ((T_spec_l1Below N c1 n2).bind fun o3 =>
 (some ((o3.1.1, ()), (o3.2.1 == (0 : Int), ()))))

noncomputable def T_spec_l1PickInt (N : Nat) (c1 : List Int × Int × Int) (list2 : List Int) : Option (((List Int × Int × Int) × Unit) × (Int × Unit)) :=
    ((T_spec_l1Below N c1 (ilen list2)).bind fun o3 =>
 (bif inb o3.2.1 (List.length list2) then
 (some ((o3.1.1, ()), (List.getD list2 (Int.toNat o3.2.1) (0 : Int), ()))) else none))

noncomputable def T_spec_l3Vals_lp0 {R : Type} (N : Nat) (l2 : List Int) (K0 : Option R) (K1 : Int → Bool → Option R) : Nat → Int → Option R
  | 0, _ => none
  | n + 1, i3 =>
    (bif decide (i3 < (ilen l2)) then
 (bif inb i3 (List.length l2) then
 ((T_spec_l3Val N (List.getD l2 (Int.toNat i3) (0 : Int))).bind fun o7 =>
 (bif !o7.2.1 then
 K0
 else
 (T_spec_l3Vals_lp0 N l2 K0 K1 n (iadd .i64 i3 (1 : Int))))) else none)
 else
 (K1 i3 (decide (i3 < (ilen l2)))))

noncomputable def T_spec_l3Vals (N : Nat) (l1 : List Int) : Option (Unit × (Bool × Unit)) :=
    (bif (ilen l1) != (8 : Int) then
 (some ((), (false, ())))
 else
 (T_spec_l3Vals_lp0 N l1
 (some ((), (false, ())))
 (fun i8 t9 =>
   (some ((), (true, ()))))
  N (0 : Int)))

noncomputable def T_spec_l3Cell (N : Nat) (i1 : Int) : Option (Unit × (Bool × Unit)) :=
    ((T_spec_l1In N i1 (0 : Int) (7 : Int)).bind fun o2 =>
 (some ((), (o2.2.1, ()))))

noncomputable def T_spec_RowsOk_lp0 {R : Type} (N : Nat) (l2 : List (Int × Int)) (K0 : Option R) (K1 : Int → Bool → Option R) : Nat → Int → Option R
  | 0, _ => none
  | n + 1, i3 =>
    (bif decide (i3 < (ilen l2)) then
 (bif inb i3 (List.length l2) then
 ((T_spec_l3Cell N (List.getD l2 (Int.toNat i3) ((0 : Int), (0 : Int))).1).bind fun o8 =>
 (bif !o8.2.1 then
 K0
 else
 (bif inb i3 (List.length l2) then
 ((T_spec_l3Val N (List.getD l2 (Int.toNat i3) ((0 : Int), (0 : Int))).2).bind fun o9 =>
 (bif !o9.2.1 then
 K0
 else
 (T_spec_RowsOk_lp0 N l2 K0 K1 n (iadd .i64 i3 (1 : Int))))) else none))) else none)
 else
 (K1 i3 (decide (i3 < (ilen l2)))))

noncomputable def T_spec_RowsOk (N : Nat) (l1 : List (Int × Int)) : Option (Unit × (Bool × Unit)) :=
    (bif decide ((ilen l1) > (300 : Int)) then
 (some ((), (false, ())))
 else
 (T_spec_RowsOk_lp0 N l1
 (some ((), (false, ())))
 (fun i10 t11 =>
   (some ((), (true, ()))))
  N (0 : Int)))

noncomputable def T_spec_l15Ints (N : Nat) (l1 : List Int) : Option (Unit × ((List Int) × Unit)) :=
    (bif room ((List.length ([] : List Int)) + (List.length l1)) then
 (some ((), (List.append ([] : List Int) l1, ()))) else none)

noncomputable def T_spec_Cut (N : Nat) (l1 : List (Int × Int)) (n2 : Int) : Option (Unit × ((List (Int × Int)) × Unit)) :=
    ((T_spec_RowsOk N l1).bind fun o3 =>
 (bif !o3.2.1 then
 (some ((), (([] : List (Int × Int)), ())))
 else
 (bif decide (n2 ≤ (0 : Int)) then
 (some ((), (([] : List (Int × Int)), ())))
 else
 (bif decide (n2 > (ilen l1)) then
 (bif (decide ((0 : Int) ≤ (ilen l1))) && (decide ((ilen l1) ≤ ((List.length l1) : Int))) then
 (bif room ((List.length ([] : List (Int × Int))) + (List.length (List.take (Int.toNat (ilen l1)) l1))) then
 (some ((), (List.append ([] : List (Int × Int)) (List.take (Int.toNat (ilen l1)) l1), ()))) else none) else none)
 else
 (bif (decide ((0 : Int) ≤ n2)) && (decide (n2 ≤ ((List.length l1) : Int))) then
 (bif room ((List.length ([] : List (Int × Int))) + (List.length (List.take (Int.toNat n2) l1))) then
 (some ((), (List.append ([] : List (Int × Int)) (List.take (Int.toNat n2) l1), ()))) else none) else none)))))

noncomputable def T_spec_EagerCut_lp0 {R : Type} (N : Nat) (log7 : List (Int × Int)) (n8 : Int) (K0 : Int → Bool → (List Int) → Option R) : Nat → Int → (List Int) → Option R
  | 0, _, _ => none
  | n + 1, i9, l10 =>
    (bif decide (i9 ≥ n8) then
 (bif inb i9 (List.length log7) then
 (bif inb i9 (List.length log7) then
 (bif inb (List.getD log7 (Int.toNat i9) ((0 : Int), (0 : Int))).1 (List.length l10) then
 (T_spec_EagerCut_lp0 N log7 n8 K0 n (isub .i64 i9 (1 : Int)) (List.set l10 (Int.toNat (List.getD log7 (Int.toNat i9) ((0 : Int), (0 : Int))).1) (List.getD log7 (Int.toNat i9) ((0 : Int), (0 : Int))).2)) else none) else none) else none)
 else
 (K0 i9 (decide (i9 ≥ n8)) l10))

noncomputable def T_spec_EagerCut (N : Nat) (cells1 : List Int) (log2 : List (Int × Int)) (n3 : Int) : Option (Unit × ((List Int) × ((List (Int × Int)) × Unit))) :=
    ((T_spec_l3Vals N cells1).bind fun o4 =>
 (bif !o4.2.1 then
 (some ((), (([] : List Int), (([] : List (Int × Int)), ()))))
 else
 ((T_spec_RowsOk N log2).bind fun o5 =>
 (bif !o5.2.1 then
 (some ((), (([] : List Int), (([] : List (Int × Int)), ()))))
 else
 (bif decide (n3 < (0 : Int)) then
 (some ((), (([] : List Int), (([] : List (Int × Int)), ()))))
 else
 ((T_spec_l15Ints N cells1).bind fun o6 =>
 (T_spec_EagerCut_lp0 N log2 n3
 (fun i14 t15 l16 =>
   ((T_spec_Cut N log2 n3).bind fun o17 =>
 (some ((), (l16, (o17.2.1, ()))))))
  N (isub .i64 (ilen log2) (1 : Int)) o6.2.1)))))))

noncomputable def T_impl_areValues_lp0 {R : Type} (N : Nat) (l3 : List Int) (n4 : Int) (K0 : Option R) (K1 : Int → Bool → Option R) : Nat → Int → Option R
  | 0, _ => none
  | n + 1, t7 =>
    (bif decide (t7 < (ilen l3)) then
 (bif inb t7 (List.length l3) then
 ((T_impl_isValue N (List.getD l3 (Int.toNat t7) (0 : Int))).bind fun o12 =>
 (bif !o12.2.1 then
 K0
 else
 (T_impl_areValues_lp0 N l3 n4 K0 K1 n (iadd .i64 t7 (1 : Int))))) else none)
 else
 (K1 t7 (decide (t7 < (ilen l3)))))

noncomputable def T_impl_areValues (N : Nat) (l1 : List Int) (n2 : Int) : Option (Unit × (Bool × Unit)) :=
    (T_impl_areValues_lp0 N l1 n2
 (some ((), (false, ())))
 (fun t13 t14 =>
   (some ((), ((ilen l1) == n2, ()))))
  N (0 : Int))

noncomputable def T_impl_isCell (N : Nat) (i1 : Int) : Option (Unit × (Bool × Unit)) :=
    ((T_impl_within N i1 (0 : Int) (7 : Int)).bind fun o2 =>
 (some ((), (o2.2.1, ()))))

noncomputable def T_impl_RowsOk_lp0 {R : Type} (N : Nat) (l2 : List (Int × Int)) (K0 : Option R) (K1 : Int → Bool → Option R) : Nat → Int → Option R
  | 0, _ => none
  | n + 1, t5 =>
    (bif decide (t5 < (ilen l2)) then
 (bif inb t5 (List.length l2) then
 ((T_impl_isCell N (List.getD l2 (Int.toNat t5) ((0 : Int), (0 : Int))).1).bind fun o12 =>
 (bif !o12.2.1 then
 K0
 else
 ((T_impl_isValue N (List.getD l2 (Int.toNat t5) ((0 : Int), (0 : Int))).2).bind fun o13 =>
 (bif !o13.2.1 then
 K0
 else
 (T_impl_RowsOk_lp0 N l2 K0 K1 n (iadd .i64 t5 (1 : Int))))))) else none)
 else
 (K1 t5 (decide (t5 < (ilen l2)))))

noncomputable def T_impl_RowsOk (N : Nat) (l1 : List (Int × Int)) : Option (Unit × (Bool × Unit)) :=
    (T_impl_RowsOk_lp0 N l1
 (some ((), (false, ())))
 (fun t14 t15 =>
   (some ((), (decide ((ilen l1) ≤ (300 : Int)), ()))))
  N (0 : Int))

noncomputable def T_impl_copyInts (N : Nat) (l1 : List Int) : Option (Unit × ((List Int) × Unit)) :=
    (bif room (List.length l1) then
 (some ((), (l1, ()))) else none)

noncomputable def T_impl_copyRows (N : Nat) (l1 : List (Int × Int)) : Option (Unit × ((List (Int × Int)) × Unit)) :=
    (bif room (List.length l1) then
 (some ((), (l1, ()))) else none)

noncomputable def T_impl_EagerCut_lp0 {R : Type} (N : Nat) (log7 : List (Int × Int)) (n8 : Int) (K0 : Int → Bool → (List Int) → Option R) : Nat → Int → (List Int) → Option R
  | 0, _, _ => none
  | n + 1, i9, l10 =>
    (bif decide (i9 ≥ n8) then
 (bif inb i9 (List.length log7) then
 (bif inb i9 (List.length log7) then
 (bif inb (List.getD log7 (Int.toNat i9) ((0 : Int), (0 : Int))).1 (List.length l10) then
 (T_impl_EagerCut_lp0 N log7 n8 K0 n (isub .i64 i9 (1 : Int)) (List.set l10 (Int.toNat (List.getD log7 (Int.toNat i9) ((0 : Int), (0 : Int))).1) (List.getD log7 (Int.toNat i9) ((0 : Int), (0 : Int))).2)) else none) else none) else none)
 else
 (K0 i9 (decide (i9 ≥ n8)) l10))

noncomputable def T_impl_EagerCut (N : Nat) (cells1 : List Int) (log2 : List (Int × Int)) (n3 : Int) : Option (Unit × ((List Int) × ((List (Int × Int)) × Unit))) :=
    ((T_impl_areValues N cells1 (8 : Int)).bind fun o4 =>
 (bif !o4.2.1 then
 (some ((), (([] : List Int), (([] : List (Int × Int)), ()))))
 else
 ((T_impl_RowsOk N log2).bind fun o5 =>
 (bif !o5.2.1 then
 (some ((), (([] : List Int), (([] : List (Int × Int)), ()))))
 else
 (bif decide (n3 < (0 : Int)) then
 (some ((), (([] : List Int), (([] : List (Int × Int)), ()))))
 else
 ((T_impl_copyInts N cells1).bind fun o6 =>
 (T_impl_EagerCut_lp0 N log2 n3
 (fun i14 t15 l16 =>
   (bif (decide ((0 : Int) ≤ (minI n3 (ilen log2)))) && (decide ((minI n3 (ilen log2)) ≤ ((List.length log2) : Int))) then
 ((T_impl_copyRows N (List.take (Int.toNat (minI n3 (ilen log2))) log2)).bind fun o17 =>
 (some ((), (l16, (o17.2.1, ()))))) else none))
  N (isub .i64 (ilen log2) (1 : Int)) o6.2.1)))))))

noncomputable def T_impl_EagerBack (N : Nat) (cells1 : List Int) (log2 : List (Int × Int)) : Option (Unit × ((List Int) × Unit)) :=
    ((T_impl_EagerCut N cells1 log2 (0 : Int)).bind fun o3 =>
 (some ((), (o3.2.1, ()))))

noncomputable def T_spec_l3Draw (N : Nat) (c1 : List Int × Int × Int) : Option (((List Int × Int × Int) × Unit) × (Int × Unit)) :=
    ((T_spec_l1Once N c1 (6 : Int)).bind fun o2 =>
 (bif o2.2.1 then
 ((T_spec_l1PickInt N o2.1.1 ([(0 : Int), (65535 : Int), (65534 : Int), (256 : Int)])).bind fun o3 =>
 (some ((o3.1.1, ()), (o3.2.1, ()))))
 else
 ((T_spec_l1Below N o2.1.1 (9 : Int)).bind fun o4 =>
 (some ((o4.1.1, ()), (o4.2.1, ()))))))

noncomputable def T_spec_l4Regs_lp0 {R : Type} (N : Nat) (l2 : List Int) (K0 : Option R) (K1 : Int → Bool → Option R) : Nat → Int → Option R
  | 0, _ => none
  | n + 1, i3 =>
    (bif decide (i3 < (ilen l2)) then
 (bif inb i3 (List.length l2) then
 ((T_spec_l3Val N (List.getD l2 (Int.toNat i3) (0 : Int))).bind fun o7 =>
 (bif !o7.2.1 then
 K0
 else
 (T_spec_l4Regs_lp0 N l2 K0 K1 n (iadd .i64 i3 (1 : Int))))) else none)
 else
 (K1 i3 (decide (i3 < (ilen l2)))))

noncomputable def T_spec_l4Regs (N : Nat) (l1 : List Int) : Option (Unit × (Bool × Unit)) :=
    (bif (ilen l1) != (4 : Int) then
 (some ((), (false, ())))
 else
 (T_spec_l4Regs_lp0 N l1
 (some ((), (false, ())))
 (fun i8 t9 =>
   (some ((), (true, ()))))
  N (0 : Int)))

noncomputable def T_spec_l4Reg (N : Nat) (i1 : Int) : Option (Unit × (Bool × Unit)) :=
    ((T_spec_l1In N i1 (0 : Int) (3 : Int)).bind fun o2 =>
 (some ((), (o2.2.1, ()))))

noncomputable def T_spec_OpOk (N : Nat) (o1 : Int × Int × Int × Int) : Option (Unit × (Bool × Unit)) :=
    (bif o1.1 == (1 : Int) then
 ((T_spec_l4Reg N o1.2.1).bind fun o2 =>
 (bif o2.2.1 then
 ((T_spec_l3Val N o1.2.2.1).bind fun o3 =>
 (bif o3.2.1 then
 (some ((), (o1.2.2.2 == (0 : Int), ())))
 else
 (some ((), (false, ())))))
 else
 (some ((), (false, ())))))
 else
 (bif o1.1 == (2 : Int) then
 (bif o1.1 == (2 : Int) then
 ((T_spec_l4Reg N o1.2.1).bind fun o4 =>
 (bif o4.2.1 then
 ((T_spec_l4Reg N o1.2.2.1).bind fun o5 =>
 (bif o5.2.1 then
 ((T_spec_l4Reg N o1.2.2.2).bind fun o6 =>
 (some ((), (o6.2.1, ()))))
 else
 (some ((), (false, ())))))
 else
 (some ((), (false, ())))))
 else
 (bif o1.1 == (5 : Int) then
 ((T_spec_l4Reg N o1.2.1).bind fun o7 =>
 (bif o7.2.1 then
 ((T_spec_l3Cell N o1.2.2.1).bind fun o8 =>
 (bif o8.2.1 then
 (some ((), (o1.2.2.2 == (0 : Int), ())))
 else
 (some ((), (false, ())))))
 else
 (some ((), (false, ())))))
 else
 (bif o1.1 == (6 : Int) then
 ((T_spec_l3Cell N o1.2.1).bind fun o9 =>
 (bif o9.2.1 then
 ((T_spec_l4Reg N o1.2.2.1).bind fun o10 =>
 (bif o10.2.1 then
 (some ((), (o1.2.2.2 == (0 : Int), ())))
 else
 (some ((), (false, ())))))
 else
 (some ((), (false, ())))))
 else
 (bif o1.1 == (7 : Int) then
 ((T_spec_l4Reg N o1.2.1).bind fun o11 =>
 (bif o11.2.1 then
 ((T_spec_l1In N o1.2.2.1 (1 : Int) (20 : Int)).bind fun o12 =>
 (bif o12.2.1 then
 (some ((), (o1.2.2.2 == (0 : Int), ())))
 else
 (some ((), (false, ())))))
 else
 (some ((), (false, ())))))
 else
 (bif o1.1 == (8 : Int) then
 (bif o1.1 == (8 : Int) then
 ((T_spec_l4Reg N o1.2.1).bind fun o13 =>
 (bif o13.2.1 then
 (bif o1.2.2.1 == (0 : Int) then
 (some ((), (o1.2.2.2 == (0 : Int), ())))
 else
 (some ((), (false, ()))))
 else
 (some ((), (false, ())))))
 else
 (bif o1.1 == (9 : Int) then
 (bif o1.1 == (9 : Int) then
 (bif o1.2.1 == (0 : Int) then
 (bif o1.2.2.1 == (0 : Int) then
 (some ((), (o1.2.2.2 == (0 : Int), ())))
 else
 (some ((), (false, ()))))
 else
 (some ((), (false, ()))))
 else
 (bif o1.1 == (12 : Int) then
 ((T_spec_l1In N o1.2.1 (0 : Int) (7 : Int)).bind fun o14 =>
 (bif o14.2.1 then
 ((T_spec_l4Reg N o1.2.2.1).bind fun o15 =>
 (bif o15.2.1 then
 ((T_spec_l4Reg N o1.2.2.2).bind fun o16 =>
 (some ((), (o16.2.1, ()))))
 else
 (some ((), (false, ())))))
 else
 (some ((), (false, ())))))
 else
 (bif o1.1 == (13 : Int) then
 ((T_spec_l4Reg N o1.2.1).bind fun o17 =>
 (bif o17.2.1 then
 ((T_spec_l1In N o1.2.2.1 (0 : Int) (7 : Int)).bind fun o18 =>
 (bif o18.2.1 then
 (some ((), (o1.2.2.2 == (0 : Int), ())))
 else
 (some ((), (false, ())))))
 else
 (some ((), (false, ())))))
 else
 (bif o1.1 == (14 : Int) then
 ((T_spec_l1In N o1.2.1 (0 : Int) (7 : Int)).bind fun o19 =>
 (bif o19.2.1 then
 ((T_spec_l4Reg N o1.2.2.1).bind fun o20 =>
 (bif o20.2.1 then
 (some ((), (o1.2.2.2 == (0 : Int), ())))
 else
 (some ((), (false, ())))))
 else
 (some ((), (false, ())))))
 else
 (some ((), (false, ())))))))
 else
 (bif o1.1 == (10 : Int) then
 (bif o1.1 == (10 : Int) then
 (bif o1.2.1 == (0 : Int) then
 (bif o1.2.2.1 == (0 : Int) then
 (some ((), (o1.2.2.2 == (0 : Int), ())))
 else
 (some ((), (false, ()))))
 else
 (some ((), (false, ()))))
 else
 (bif o1.1 == (12 : Int) then
 ((T_spec_l1In N o1.2.1 (0 : Int) (7 : Int)).bind fun o21 =>
 (bif o21.2.1 then
 ((T_spec_l4Reg N o1.2.2.1).bind fun o22 =>
 (bif o22.2.1 then
 ((T_spec_l4Reg N o1.2.2.2).bind fun o23 =>
 (some ((), (o23.2.1, ()))))
 else
 (some ((), (false, ())))))
 else
 (some ((), (false, ())))))
 else
 (bif o1.1 == (13 : Int) then
 ((T_spec_l4Reg N o1.2.1).bind fun o24 =>
 (bif o24.2.1 then
 ((T_spec_l1In N o1.2.2.1 (0 : Int) (7 : Int)).bind fun o25 =>
 (bif o25.2.1 then
 (some ((), (o1.2.2.2 == (0 : Int), ())))
 else
 (some ((), (false, ())))))
 else
 (some ((), (false, ())))))
 else
 (bif o1.1 == (14 : Int) then
 ((T_spec_l1In N o1.2.1 (0 : Int) (7 : Int)).bind fun o26 =>
 (bif o26.2.1 then
 ((T_spec_l4Reg N o1.2.2.1).bind fun o27 =>
 (bif o27.2.1 then
 (some ((), (o1.2.2.2 == (0 : Int), ())))
 else
 (some ((), (false, ())))))
 else
 (some ((), (false, ())))))
 else
 (some ((), (false, ())))))))
 else
 (bif o1.1 == (11 : Int) then
 (bif o1.2.1 == (0 : Int) then
 (bif o1.2.2.1 == (0 : Int) then
 (some ((), (o1.2.2.2 == (0 : Int), ())))
 else
 (some ((), (false, ()))))
 else
 (some ((), (false, ()))))
 else
 (bif o1.1 == (12 : Int) then
 ((T_spec_l1In N o1.2.1 (0 : Int) (7 : Int)).bind fun o28 =>
 (bif o28.2.1 then
 ((T_spec_l4Reg N o1.2.2.1).bind fun o29 =>
 (bif o29.2.1 then
 ((T_spec_l4Reg N o1.2.2.2).bind fun o30 =>
 (some ((), (o30.2.1, ()))))
 else
 (some ((), (false, ())))))
 else
 (some ((), (false, ())))))
 else
 (bif o1.1 == (13 : Int) then
 ((T_spec_l4Reg N o1.2.1).bind fun o31 =>
 (bif o31.2.1 then
 ((T_spec_l1In N o1.2.2.1 (0 : Int) (7 : Int)).bind fun o32 =>
 (bif o32.2.1 then
 (some ((), (o1.2.2.2 == (0 : Int), ())))
 else
 (some ((), (false, ())))))
 else
 (some ((), (false, ())))))
 else
 (bif o1.1 == (14 : Int) then
 ((T_spec_l1In N o1.2.1 (0 : Int) (7 : Int)).bind fun o33 =>
 (bif o33.2.1 then
 ((T_spec_l4Reg N o1.2.2.1).bind fun o34 =>
 (bif o34.2.1 then
 (some ((), (o1.2.2.2 == (0 : Int), ())))
 else
 (some ((), (false, ())))))
 else
 (some ((), (false, ())))))
 else
 (some ((), (false, ()))))))))))
 else
 (bif o1.1 == (15 : Int) then
 (bif o1.1 == (15 : Int) then
 ((T_spec_l4Reg N o1.2.1).bind fun o35 =>
 (bif o35.2.1 then
 (bif o1.2.2.1 == (0 : Int) then
 (some ((), (o1.2.2.2 == (0 : Int), ())))
 else
 (some ((), (false, ()))))
 else
 (some ((), (false, ())))))
 else
 (bif o1.1 == (9 : Int) then
 (bif o1.1 == (9 : Int) then
 (bif o1.2.1 == (0 : Int) then
 (bif o1.2.2.1 == (0 : Int) then
 (some ((), (o1.2.2.2 == (0 : Int), ())))
 else
 (some ((), (false, ()))))
 else
 (some ((), (false, ()))))
 else
 (bif o1.1 == (12 : Int) then
 ((T_spec_l1In N o1.2.1 (0 : Int) (7 : Int)).bind fun o36 =>
 (bif o36.2.1 then
 ((T_spec_l4Reg N o1.2.2.1).bind fun o37 =>
 (bif o37.2.1 then
 ((T_spec_l4Reg N o1.2.2.2).bind fun o38 =>
 (some ((), (o38.2.1, ()))))
 else
 (some ((), (false, ())))))
 else
 (some ((), (false, ())))))
 else
 (bif o1.1 == (13 : Int) then
 ((T_spec_l4Reg N o1.2.1).bind fun o39 =>
 (bif o39.2.1 then
 ((T_spec_l1In N o1.2.2.1 (0 : Int) (7 : Int)).bind fun o40 =>
 (bif o40.2.1 then
 (some ((), (o1.2.2.2 == (0 : Int), ())))
 else
 (some ((), (false, ())))))
 else
 (some ((), (false, ())))))
 else
 (bif o1.1 == (14 : Int) then
 ((T_spec_l1In N o1.2.1 (0 : Int) (7 : Int)).bind fun o41 =>
 (bif o41.2.1 then
 ((T_spec_l4Reg N o1.2.2.1).bind fun o42 =>
 (bif o42.2.1 then
 (some ((), (o1.2.2.2 == (0 : Int), ())))
 else
 (some ((), (false, ())))))
 else
 (some ((), (false, ())))))
 else
 (some ((), (false, ())))))))
 else
 (bif o1.1 == (10 : Int) then
 (bif o1.1 == (10 : Int) then
 (bif o1.2.1 == (0 : Int) then
 (bif o1.2.2.1 == (0 : Int) then
 (some ((), (o1.2.2.2 == (0 : Int), ())))
 else
 (some ((), (false, ()))))
 else
 (some ((), (false, ()))))
 else
 (bif o1.1 == (12 : Int) then
 ((T_spec_l1In N o1.2.1 (0 : Int) (7 : Int)).bind fun o43 =>
 (bif o43.2.1 then
 ((T_spec_l4Reg N o1.2.2.1).bind fun o44 =>
 (bif o44.2.1 then
 ((T_spec_l4Reg N o1.2.2.2).bind fun o45 =>
 (some ((), (o45.2.1, ()))))
 else
 (some ((), (false, ())))))
 else
 (some ((), (false, ())))))
 else
 (bif o1.1 == (13 : Int) then
 ((T_spec_l4Reg N o1.2.1).bind fun o46 =>
 (bif o46.2.1 then
 ((T_spec_l1In N o1.2.2.1 (0 : Int) (7 : Int)).bind fun o47 =>
 (bif o47.2.1 then
 (some ((), (o1.2.2.2 == (0 : Int), ())))
 else
 (some ((), (false, ())))))
 else
 (some ((), (false, ())))))
 else
 (bif o1.1 == (14 : Int) then
 ((T_spec_l1In N o1.2.1 (0 : Int) (7 : Int)).bind fun o48 =>
 (bif o48.2.1 then
 ((T_spec_l4Reg N o1.2.2.1).bind fun o49 =>
 (bif o49.2.1 then
 (some ((), (o1.2.2.2 == (0 : Int), ())))
 else
 (some ((), (false, ())))))
 else
 (some ((), (false, ())))))
 else
 (some ((), (false, ())))))))
 else
 (bif o1.1 == (11 : Int) then
 (bif o1.2.1 == (0 : Int) then
 (bif o1.2.2.1 == (0 : Int) then
 (some ((), (o1.2.2.2 == (0 : Int), ())))
 else
 (some ((), (false, ()))))
 else
 (some ((), (false, ()))))
 else
 (bif o1.1 == (12 : Int) then
 ((T_spec_l1In N o1.2.1 (0 : Int) (7 : Int)).bind fun o50 =>
 (bif o50.2.1 then
 ((T_spec_l4Reg N o1.2.2.1).bind fun o51 =>
 (bif o51.2.1 then
 ((T_spec_l4Reg N o1.2.2.2).bind fun o52 =>
 (some ((), (o52.2.1, ()))))
 else
 (some ((), (false, ())))))
 else
 (some ((), (false, ())))))
 else
 (bif o1.1 == (13 : Int) then
 ((T_spec_l4Reg N o1.2.1).bind fun o53 =>
 (bif o53.2.1 then
 ((T_spec_l1In N o1.2.2.1 (0 : Int) (7 : Int)).bind fun o54 =>
 (bif o54.2.1 then
 (some ((), (o1.2.2.2 == (0 : Int), ())))
 else
 (some ((), (false, ())))))
 else
 (some ((), (false, ())))))
 else
 (bif o1.1 == (14 : Int) then
 ((T_spec_l1In N o1.2.1 (0 : Int) (7 : Int)).bind fun o55 =>
 (bif o55.2.1 then
 ((T_spec_l4Reg N o1.2.2.1).bind fun o56 =>
 (bif o56.2.1 then
 (some ((), (o1.2.2.2 == (0 : Int), ())))
 else
 (some ((), (false, ())))))
 else
 (some ((), (false, ())))))
 else
 (some ((), (false, ()))))))))))
 else
 (bif o1.1 == (16 : Int) then
 ((T_spec_l4Reg N o1.2.1).bind fun o57 =>
 (bif o57.2.1 then
 (bif o1.2.2.1 == (0 : Int) then
 (some ((), (o1.2.2.2 == (0 : Int), ())))
 else
 (some ((), (false, ()))))
 else
 (some ((), (false, ())))))
 else
 (bif o1.1 == (9 : Int) then
 (bif o1.1 == (9 : Int) then
 (bif o1.2.1 == (0 : Int) then
 (bif o1.2.2.1 == (0 : Int) then
 (some ((), (o1.2.2.2 == (0 : Int), ())))
 else
 (some ((), (false, ()))))
 else
 (some ((), (false, ()))))
 else
 (bif o1.1 == (12 : Int) then
 ((T_spec_l1In N o1.2.1 (0 : Int) (7 : Int)).bind fun o58 =>
 (bif o58.2.1 then
 ((T_spec_l4Reg N o1.2.2.1).bind fun o59 =>
 (bif o59.2.1 then
 ((T_spec_l4Reg N o1.2.2.2).bind fun o60 =>
 (some ((), (o60.2.1, ()))))
 else
 (some ((), (false, ())))))
 else
 (some ((), (false, ())))))
 else
 (bif o1.1 == (13 : Int) then
 ((T_spec_l4Reg N o1.2.1).bind fun o61 =>
 (bif o61.2.1 then
 ((T_spec_l1In N o1.2.2.1 (0 : Int) (7 : Int)).bind fun o62 =>
 (bif o62.2.1 then
 (some ((), (o1.2.2.2 == (0 : Int), ())))
 else
 (some ((), (false, ())))))
 else
 (some ((), (false, ())))))
 else
 (bif o1.1 == (14 : Int) then
 ((T_spec_l1In N o1.2.1 (0 : Int) (7 : Int)).bind fun o63 =>
 (bif o63.2.1 then
 ((T_spec_l4Reg N o1.2.2.1).bind fun o64 =>
 (bif o64.2.1 then
 (some ((), (o1.2.2.2 == (0 : Int), ())))
 else
 (some ((), (false, ())))))
 else
 (some ((), (false, ())))))
 else
 (some ((), (false, ())))))))
 else
 (bif o1.1 == (10 : Int) then
 (bif o1.1 == (10 : Int) then
 (bif o1.2.1 == (0 : Int) then
 (bif o1.2.2.1 == (0 : Int) then
 (some ((), (o1.2.2.2 == (0 : Int), ())))
 else
 (some ((), (false, ()))))
 else
 (some ((), (false, ()))))
 else
 (bif o1.1 == (12 : Int) then
 ((T_spec_l1In N o1.2.1 (0 : Int) (7 : Int)).bind fun o65 =>
 (bif o65.2.1 then
 ((T_spec_l4Reg N o1.2.2.1).bind fun o66 =>
 (bif o66.2.1 then
 ((T_spec_l4Reg N o1.2.2.2).bind fun o67 =>
 (some ((), (o67.2.1, ()))))
 else
 (some ((), (false, ())))))
 else
 (some ((), (false, ())))))
 else
 (bif o1.1 == (13 : Int) then
 ((T_spec_l4Reg N o1.2.1).bind fun o68 =>
 (bif o68.2.1 then
 ((T_spec_l1In N o1.2.2.1 (0 : Int) (7 : Int)).bind fun o69 =>
 (bif o69.2.1 then
 (some ((), (o1.2.2.2 == (0 : Int), ())))
 else
 (some ((), (false, ())))))
 else
 (some ((), (false, ())))))
 else
 (bif o1.1 == (14 : Int) then
 ((T_spec_l1In N o1.2.1 (0 : Int) (7 : Int)).bind fun o70 =>
 (bif o70.2.1 then
 ((T_spec_l4Reg N o1.2.2.1).bind fun o71 =>
 (bif o71.2.1 then
 (some ((), (o1.2.2.2 == (0 : Int), ())))
 else
 (some ((), (false, ())))))
 else
 (some ((), (false, ())))))
 else
 (some ((), (false, ())))))))
 else
 (bif o1.1 == (11 : Int) then
 (bif o1.2.1 == (0 : Int) then
 (bif o1.2.2.1 == (0 : Int) then
 (some ((), (o1.2.2.2 == (0 : Int), ())))
 else
 (some ((), (false, ()))))
 else
 (some ((), (false, ()))))
 else
 (bif o1.1 == (12 : Int) then
 ((T_spec_l1In N o1.2.1 (0 : Int) (7 : Int)).bind fun o72 =>
 (bif o72.2.1 then
 ((T_spec_l4Reg N o1.2.2.1).bind fun o73 =>
 (bif o73.2.1 then
 ((T_spec_l4Reg N o1.2.2.2).bind fun o74 =>
 (some ((), (o74.2.1, ()))))
 else
 (some ((), (false, ())))))
 else
 (some ((), (false, ())))))
 else
 (bif o1.1 == (13 : Int) then
 ((T_spec_l4Reg N o1.2.1).bind fun o75 =>
 (bif o75.2.1 then
 ((T_spec_l1In N o1.2.2.1 (0 : Int) (7 : Int)).bind fun o76 =>
 (bif o76.2.1 then
 (some ((), (o1.2.2.2 == (0 : Int), ())))
 else
 (some ((), (false, ())))))
 else
 (some ((), (false, ())))))
 else
 (bif o1.1 == (14 : Int) then
 ((T_spec_l1In N o1.2.1 (0 : Int) (7 : Int)).bind fun o77 =>
 (bif o77.2.1 then
 ((T_spec_l4Reg N o1.2.2.1).bind fun o78 =>
 (bif o78.2.1 then
 (some ((), (o1.2.2.2 == (0 : Int), ())))
 else
 (some ((), (false, ())))))
 else
 (some ((), (false, ())))))
 else
 (some ((), (false, ()))))))))))))))))
 else
 (bif o1.1 == (3 : Int) then
 (bif o1.1 == (3 : Int) then
 ((T_spec_l4Reg N o1.2.1).bind fun o79 =>
 (bif o79.2.1 then
 ((T_spec_l4Reg N o1.2.2.1).bind fun o80 =>
 (bif o80.2.1 then
 ((T_spec_l4Reg N o1.2.2.2).bind fun o81 =>
 (some ((), (o81.2.1, ()))))
 else
 (some ((), (false, ())))))
 else
 (some ((), (false, ())))))
 else
 (bif o1.1 == (5 : Int) then
 ((T_spec_l4Reg N o1.2.1).bind fun o82 =>
 (bif o82.2.1 then
 ((T_spec_l3Cell N o1.2.2.1).bind fun o83 =>
 (bif o83.2.1 then
 (some ((), (o1.2.2.2 == (0 : Int), ())))
 else
 (some ((), (false, ())))))
 else
 (some ((), (false, ())))))
 else
 (bif o1.1 == (6 : Int) then
 ((T_spec_l3Cell N o1.2.1).bind fun o84 =>
 (bif o84.2.1 then
 ((T_spec_l4Reg N o1.2.2.1).bind fun o85 =>
 (bif o85.2.1 then
 (some ((), (o1.2.2.2 == (0 : Int), ())))
 else
 (some ((), (false, ())))))
 else
 (some ((), (false, ())))))
 else
 (bif o1.1 == (7 : Int) then
 ((T_spec_l4Reg N o1.2.1).bind fun o86 =>
 (bif o86.2.1 then
 ((T_spec_l1In N o1.2.2.1 (1 : Int) (20 : Int)).bind fun o87 =>
 (bif o87.2.1 then
 (some ((), (o1.2.2.2 == (0 : Int), ())))
 else
 (some ((), (false, ())))))
 else
 (some ((), (false, ())))))
 else
 (bif o1.1 == (8 : Int) then
 (bif o1.1 == (8 : Int) then
 ((T_spec_l4Reg N o1.2.1).bind fun o88 =>
 (bif o88.2.1 then
 (bif o1.2.2.1 == (0 : Int) then
 (some ((), (o1.2.2.2 == (0 : Int), ())))
 else
 (some ((), (false, ()))))
 else
 (some ((), (false, ())))))
 else
 (bif o1.1 == (9 : Int) then
 (bif o1.1 == (9 : Int) then
 (bif o1.2.1 == (0 : Int) then
 (bif o1.2.2.1 == (0 : Int) then
 (some ((), (o1.2.2.2 == (0 : Int), ())))
 else
 (some ((), (false, ()))))
 else
 (some ((), (false, ()))))
 else
 (bif o1.1 == (12 : Int) then
 ((T_spec_l1In N o1.2.1 (0 : Int) (7 : Int)).bind fun o89 =>
 (bif o89.2.1 then
 ((T_spec_l4Reg N o1.2.2.1).bind fun o90 =>
 (bif o90.2.1 then
 ((T_spec_l4Reg N o1.2.2.2).bind fun o91 =>
 (some ((), (o91.2.1, ()))))
 else
 (some ((), (false, ())))))
 else
 (some ((), (false, ())))))
 else
 (bif o1.1 == (13 : Int) then
 ((T_spec_l4Reg N o1.2.1).bind fun o92 =>
 (bif o92.2.1 then
 ((T_spec_l1In N o1.2.2.1 (0 : Int) (7 : Int)).bind fun o93 =>
 (bif o93.2.1 then
 (some ((), (o1.2.2.2 == (0 : Int), ())))
 else
 (some ((), (false, ())))))
 else
 (some ((), (false, ())))))
 else
 (bif o1.1 == (14 : Int) then
 ((T_spec_l1In N o1.2.1 (0 : Int) (7 : Int)).bind fun o94 =>
 (bif o94.2.1 then
 ((T_spec_l4Reg N o1.2.2.1).bind fun o95 =>
 (bif o95.2.1 then
 (some ((), (o1.2.2.2 == (0 : Int), ())))
 else
 (some ((), (false, ())))))
 else
 (some ((), (false, ())))))
 else
 (some ((), (false, ())))))))
 else
 (bif o1.1 == (10 : Int) then
 (bif o1.1 == (10 : Int) then
 (bif o1.2.1 == (0 : Int) then
 (bif o1.2.2.1 == (0 : Int) then
 (some ((), (o1.2.2.2 == (0 : Int), ())))
 else
 (some ((), (false, ()))))
 else
 (some ((), (false, ()))))
 else
 (bif o1.1 == (12 : Int) then
 ((T_spec_l1In N o1.2.1 (0 : Int) (7 : Int)).bind fun o96 =>
 (bif o96.2.1 then
 ((T_spec_l4Reg N o1.2.2.1).bind fun o97 =>
 (bif o97.2.1 then
 ((T_spec_l4Reg N o1.2.2.2).bind fun o98 =>
 (some ((), (o98.2.1, ()))))
 else
 (some ((), (false, ())))))
 else
 (some ((), (false, ())))))
 else
 (bif o1.1 == (13 : Int) then
 ((T_spec_l4Reg N o1.2.1).bind fun o99 =>
 (bif o99.2.1 then
 ((T_spec_l1In N o1.2.2.1 (0 : Int) (7 : Int)).bind fun o100 =>
 (bif o100.2.1 then
 (some ((), (o1.2.2.2 == (0 : Int), ())))
 else
 (some ((), (false, ())))))
 else
 (some ((), (false, ())))))
 else
 (bif o1.1 == (14 : Int) then
 ((T_spec_l1In N o1.2.1 (0 : Int) (7 : Int)).bind fun o101 =>
 (bif o101.2.1 then
 ((T_spec_l4Reg N o1.2.2.1).bind fun o102 =>
 (bif o102.2.1 then
 (some ((), (o1.2.2.2 == (0 : Int), ())))
 else
 (some ((), (false, ())))))
 else
 (some ((), (false, ())))))
 else
 (some ((), (false, ())))))))
 else
 (bif o1.1 == (11 : Int) then
 (bif o1.2.1 == (0 : Int) then
 (bif o1.2.2.1 == (0 : Int) then
 (some ((), (o1.2.2.2 == (0 : Int), ())))
 else
 (some ((), (false, ()))))
 else
 (some ((), (false, ()))))
 else
 (bif o1.1 == (12 : Int) then
 ((T_spec_l1In N o1.2.1 (0 : Int) (7 : Int)).bind fun o103 =>
 (bif o103.2.1 then
 ((T_spec_l4Reg N o1.2.2.1).bind fun o104 =>
 (bif o104.2.1 then
 ((T_spec_l4Reg N o1.2.2.2).bind fun o105 =>
 (some ((), (o105.2.1, ()))))
 else
 (some ((), (false, ())))))
 else
 (some ((), (false, ())))))
 else
 (bif o1.1 == (13 : Int) then
 ((T_spec_l4Reg N o1.2.1).bind fun o106 =>
 (bif o106.2.1 then
 ((T_spec_l1In N o1.2.2.1 (0 : Int) (7 : Int)).bind fun o107 =>
 (bif o107.2.1 then
 (some ((), (o1.2.2.2 == (0 : Int), ())))
 else
 (some ((), (false, ())))))
 else
 (some ((), (false, ())))))
 else
 (bif o1.1 == (14 : Int) then
 ((T_spec_l1In N o1.2.1 (0 : Int) (7 : Int)).bind fun o108 =>
 (bif o108.2.1 then
 ((T_spec_l4Reg N o1.2.2.1).bind fun o109 =>
 (bif o109.2.1 then
 (some ((), (o1.2.2.2 == (0 : Int), ())))
 else
 (some ((), (false, ())))))
 else
 (some ((), (false, ())))))
 else
 (some ((), (false, ()))))))))))
 else
 (bif o1.1 == (15 : Int) then
 (bif o1.1 == (15 : Int) then
 ((T_spec_l4Reg N o1.2.1).bind fun o110 =>
 (bif o110.2.1 then
 (bif o1.2.2.1 == (0 : Int) then
 (some ((), (o1.2.2.2 == (0 : Int), ())))
 else
 (some ((), (false, ()))))
 else
 (some ((), (false, ())))))
 else
 (bif o1.1 == (9 : Int) then
 (bif o1.1 == (9 : Int) then
 (bif o1.2.1 == (0 : Int) then
 (bif o1.2.2.1 == (0 : Int) then
 (some ((), (o1.2.2.2 == (0 : Int), ())))
 else
 (some ((), (false, ()))))
 else
 (some ((), (false, ()))))
 else
 (bif o1.1 == (12 : Int) then
 ((T_spec_l1In N o1.2.1 (0 : Int) (7 : Int)).bind fun o111 =>
 (bif o111.2.1 then
 ((T_spec_l4Reg N o1.2.2.1).bind fun o112 =>
 (bif o112.2.1 then
 ((T_spec_l4Reg N o1.2.2.2).bind fun o113 =>
 (some ((), (o113.2.1, ()))))
 else
 (some ((), (false, ())))))
 else
 (some ((), (false, ())))))
 else
 (bif o1.1 == (13 : Int) then
 ((T_spec_l4Reg N o1.2.1).bind fun o114 =>
 (bif o114.2.1 then
 ((T_spec_l1In N o1.2.2.1 (0 : Int) (7 : Int)).bind fun o115 =>
 (bif o115.2.1 then
 (some ((), (o1.2.2.2 == (0 : Int), ())))
 else
 (some ((), (false, ())))))
 else
 (some ((), (false, ())))))
 else
 (bif o1.1 == (14 : Int) then
 ((T_spec_l1In N o1.2.1 (0 : Int) (7 : Int)).bind fun o116 =>
 (bif o116.2.1 then
 ((T_spec_l4Reg N o1.2.2.1).bind fun o117 =>
 (bif o117.2.1 then
 (some ((), (o1.2.2.2 == (0 : Int), ())))
 else
 (some ((), (false, ())))))
 else
 (some ((), (false, ())))))
 else
 (some ((), (false, ())))))))
 else
 (bif o1.1 == (10 : Int) then
 (bif o1.1 == (10 : Int) then
 (bif o1.2.1 == (0 : Int) then
 (bif o1.2.2.1 == (0 : Int) then
 (some ((), (o1.2.2.2 == (0 : Int), ())))
 else
 (some ((), (false, ()))))
 else
 (some ((), (false, ()))))
 else
 (bif o1.1 == (12 : Int) then
 ((T_spec_l1In N o1.2.1 (0 : Int) (7 : Int)).bind fun o118 =>
 (bif o118.2.1 then
 ((T_spec_l4Reg N o1.2.2.1).bind fun o119 =>
 (bif o119.2.1 then
 ((T_spec_l4Reg N o1.2.2.2).bind fun o120 =>
 (some ((), (o120.2.1, ()))))
 else
 (some ((), (false, ())))))
 else
 (some ((), (false, ())))))
 else
 (bif o1.1 == (13 : Int) then
 ((T_spec_l4Reg N o1.2.1).bind fun o121 =>
 (bif o121.2.1 then
 ((T_spec_l1In N o1.2.2.1 (0 : Int) (7 : Int)).bind fun o122 =>
 (bif o122.2.1 then
 (some ((), (o1.2.2.2 == (0 : Int), ())))
 else
 (some ((), (false, ())))))
 else
 (some ((), (false, ())))))
 else
 (bif o1.1 == (14 : Int) then
 ((T_spec_l1In N o1.2.1 (0 : Int) (7 : Int)).bind fun o123 =>
 (bif o123.2.1 then
 ((T_spec_l4Reg N o1.2.2.1).bind fun o124 =>
 (bif o124.2.1 then
 (some ((), (o1.2.2.2 == (0 : Int), ())))
 else
 (some ((), (false, ())))))
 else
 (some ((), (false, ())))))
 else
 (some ((), (false, ())))))))
 else
 (bif o1.1 == (11 : Int) then
 (bif o1.2.1 == (0 : Int) then
 (bif o1.2.2.1 == (0 : Int) then
 (some ((), (o1.2.2.2 == (0 : Int), ())))
 else
 (some ((), (false, ()))))
 else
 (some ((), (false, ()))))
 else
 (bif o1.1 == (12 : Int) then
 ((T_spec_l1In N o1.2.1 (0 : Int) (7 : Int)).bind fun o125 =>
 (bif o125.2.1 then
 ((T_spec_l4Reg N o1.2.2.1).bind fun o126 =>
 (bif o126.2.1 then
 ((T_spec_l4Reg N o1.2.2.2).bind fun o127 =>
 (some ((), (o127.2.1, ()))))
 else
 (some ((), (false, ())))))
 else
 (some ((), (false, ())))))
 else
 (bif o1.1 == (13 : Int) then
 ((T_spec_l4Reg N o1.2.1).bind fun o128 =>
 (bif o128.2.1 then
 ((T_spec_l1In N o1.2.2.1 (0 : Int) (7 : Int)).bind fun o129 =>
 (bif o129.2.1 then
 (some ((), (o1.2.2.2 == (0 : Int), ())))
 else
 (some ((), (false, ())))))
 else
 (some ((), (false, ())))))
 else
 (bif o1.1 == (14 : Int) then
 ((T_spec_l1In N o1.2.1 (0 : Int) (7 : Int)).bind fun o130 =>
 (bif o130.2.1 then
 ((T_spec_l4Reg N o1.2.2.1).bind fun o131 =>
 (bif o131.2.1 then
 (some ((), (o1.2.2.2 == (0 : Int), ())))
 else
 (some ((), (false, ())))))
 else
 (some ((), (false, ())))))
 else
 (some ((), (false, ()))))))))))
 else
 (bif o1.1 == (16 : Int) then
 ((T_spec_l4Reg N o1.2.1).bind fun o132 =>
 (bif o132.2.1 then
 (bif o1.2.2.1 == (0 : Int) then
 (some ((), (o1.2.2.2 == (0 : Int), ())))
 else
 (some ((), (false, ()))))
 else
 (some ((), (false, ())))))
 else
 (bif o1.1 == (9 : Int) then
 (bif o1.1 == (9 : Int) then
 (bif o1.2.1 == (0 : Int) then
 (bif o1.2.2.1 == (0 : Int) then
 (some ((), (o1.2.2.2 == (0 : Int), ())))
 else
 (some ((), (false, ()))))
 else
 (some ((), (false, ()))))
 else
 (bif o1.1 == (12 : Int) then
 ((T_spec_l1In N o1.2.1 (0 : Int) (7 : Int)).bind fun o133 =>
 (bif o133.2.1 then
 ((T_spec_l4Reg N o1.2.2.1).bind fun o134 =>
 (bif o134.2.1 then
 ((T_spec_l4Reg N o1.2.2.2).bind fun o135 =>
 (some ((), (o135.2.1, ()))))
 else
 (some ((), (false, ())))))
 else
 (some ((), (false, ())))))
 else
 (bif o1.1 == (13 : Int) then
 ((T_spec_l4Reg N o1.2.1).bind fun o136 =>
 (bif o136.2.1 then
 ((T_spec_l1In N o1.2.2.1 (0 : Int) (7 : Int)).bind fun o137 =>
 (bif o137.2.1 then
 (some ((), (o1.2.2.2 == (0 : Int), ())))
 else
 (some ((), (false, ())))))
 else
 (some ((), (false, ())))))
 else
 (bif o1.1 == (14 : Int) then
 ((T_spec_l1In N o1.2.1 (0 : Int) (7 : Int)).bind fun o138 =>
 (bif o138.2.1 then
 ((T_spec_l4Reg N o1.2.2.1).bind fun o139 =>
 (bif o139.2.1 then
 (some ((), (o1.2.2.2 == (0 : Int), ())))
 else
 (some ((), (false, ())))))
 else
 (some ((), (false, ())))))
 else
 (some ((), (false, ())))))))
 else
 (bif o1.1 == (10 : Int) then
 (bif o1.1 == (10 : Int) then
 (bif o1.2.1 == (0 : Int) then
 (bif o1.2.2.1 == (0 : Int) then
 (some ((), (o1.2.2.2 == (0 : Int), ())))
 else
 (some ((), (false, ()))))
 else
 (some ((), (false, ()))))
 else
 (bif o1.1 == (12 : Int) then
 ((T_spec_l1In N o1.2.1 (0 : Int) (7 : Int)).bind fun o140 =>
 (bif o140.2.1 then
 ((T_spec_l4Reg N o1.2.2.1).bind fun o141 =>
 (bif o141.2.1 then
 ((T_spec_l4Reg N o1.2.2.2).bind fun o142 =>
 (some ((), (o142.2.1, ()))))
 else
 (some ((), (false, ())))))
 else
 (some ((), (false, ())))))
 else
 (bif o1.1 == (13 : Int) then
 ((T_spec_l4Reg N o1.2.1).bind fun o143 =>
 (bif o143.2.1 then
 ((T_spec_l1In N o1.2.2.1 (0 : Int) (7 : Int)).bind fun o144 =>
 (bif o144.2.1 then
 (some ((), (o1.2.2.2 == (0 : Int), ())))
 else
 (some ((), (false, ())))))
 else
 (some ((), (false, ())))))
 else
 (bif o1.1 == (14 : Int) then
 ((T_spec_l1In N o1.2.1 (0 : Int) (7 : Int)).bind fun o145 =>
 (bif o145.2.1 then
 ((T_spec_l4Reg N o1.2.2.1).bind fun o146 =>
 (bif o146.2.1 then
 (some ((), (o1.2.2.2 == (0 : Int), ())))
 else
 (some ((), (false, ())))))
 else
 (some ((), (false, ())))))
 else
 (some ((), (false, ())))))))
 else
 (bif o1.1 == (11 : Int) then
 (bif o1.2.1 == (0 : Int) then
 (bif o1.2.2.1 == (0 : Int) then
 (some ((), (o1.2.2.2 == (0 : Int), ())))
 else
 (some ((), (false, ()))))
 else
 (some ((), (false, ()))))
 else
 (bif o1.1 == (12 : Int) then
 ((T_spec_l1In N o1.2.1 (0 : Int) (7 : Int)).bind fun o147 =>
 (bif o147.2.1 then
 ((T_spec_l4Reg N o1.2.2.1).bind fun o148 =>
 (bif o148.2.1 then
 ((T_spec_l4Reg N o1.2.2.2).bind fun o149 =>
 (some ((), (o149.2.1, ()))))
 else
 (some ((), (false, ())))))
 else
 (some ((), (false, ())))))
 else
 (bif o1.1 == (13 : Int) then
 ((T_spec_l4Reg N o1.2.1).bind fun o150 =>
 (bif o150.2.1 then
 ((T_spec_l1In N o1.2.2.1 (0 : Int) (7 : Int)).bind fun o151 =>
 (bif o151.2.1 then
 (some ((), (o1.2.2.2 == (0 : Int), ())))
 else
 (some ((), (false, ())))))
 else
 (some ((), (false, ())))))
 else
 (bif o1.1 == (14 : Int) then
 ((T_spec_l1In N o1.2.1 (0 : Int) (7 : Int)).bind fun o152 =>
 (bif o152.2.1 then
 ((T_spec_l4Reg N o1.2.2.1).bind fun o153 =>
 (bif o153.2.1 then
 (some ((), (o1.2.2.2 == (0 : Int), ())))
 else
 (some ((), (false, ())))))
 else
 (some ((), (false, ())))))
 else
 (some ((), (false, ()))))))))))))))))
 else
 (bif o1.1 == (4 : Int) then
 ((T_spec_l4Reg N o1.2.1).bind fun o154 =>
 (bif o154.2.1 then
 ((T_spec_l4Reg N o1.2.2.1).bind fun o155 =>
 (bif o155.2.1 then
 ((T_spec_l4Reg N o1.2.2.2).bind fun o156 =>
 (some ((), (o156.2.1, ()))))
 else
 (some ((), (false, ())))))
 else
 (some ((), (false, ())))))
 else
 (bif o1.1 == (5 : Int) then
 ((T_spec_l4Reg N o1.2.1).bind fun o157 =>
 (bif o157.2.1 then
 ((T_spec_l3Cell N o1.2.2.1).bind fun o158 =>
 (bif o158.2.1 then
 (some ((), (o1.2.2.2 == (0 : Int), ())))
 else
 (some ((), (false, ())))))
 else
 (some ((), (false, ())))))
 else
 (bif o1.1 == (6 : Int) then
 ((T_spec_l3Cell N o1.2.1).bind fun o159 =>
 (bif o159.2.1 then
 ((T_spec_l4Reg N o1.2.2.1).bind fun o160 =>
 (bif o160.2.1 then
 (some ((), (o1.2.2.2 == (0 : Int), ())))
 else
 (some ((), (false, ())))))
 else
 (some ((), (false, ())))))
 else
 (bif o1.1 == (7 : Int) then
 ((T_spec_l4Reg N o1.2.1).bind fun o161 =>
 (bif o161.2.1 then
 ((T_spec_l1In N o1.2.2.1 (1 : Int) (20 : Int)).bind fun o162 =>
 (bif o162.2.1 then
 (some ((), (o1.2.2.2 == (0 : Int), ())))
 else
 (some ((), (false, ())))))
 else
 (some ((), (false, ())))))
 else
 (bif o1.1 == (8 : Int) then
 (bif o1.1 == (8 : Int) then
 ((T_spec_l4Reg N o1.2.1).bind fun o163 =>
 (bif o163.2.1 then
 (bif o1.2.2.1 == (0 : Int) then
 (some ((), (o1.2.2.2 == (0 : Int), ())))
 else
 (some ((), (false, ()))))
 else
 (some ((), (false, ())))))
 else
 (bif o1.1 == (9 : Int) then
 (bif o1.1 == (9 : Int) then
 (bif o1.2.1 == (0 : Int) then
 (bif o1.2.2.1 == (0 : Int) then
 (some ((), (o1.2.2.2 == (0 : Int), ())))
 else
 (some ((), (false, ()))))
 else
 (some ((), (false, ()))))
 else
 (bif o1.1 == (12 : Int) then
 ((T_spec_l1In N o1.2.1 (0 : Int) (7 : Int)).bind fun o164 =>
 (bif o164.2.1 then
 ((T_spec_l4Reg N o1.2.2.1).bind fun o165 =>
 (bif o165.2.1 then
 ((T_spec_l4Reg N o1.2.2.2).bind fun o166 =>
 (some ((), (o166.2.1, ()))))
 else
 (some ((), (false, ())))))
 else
 (some ((), (false, ())))))
 else
 (bif o1.1 == (13 : Int) then
 ((T_spec_l4Reg N o1.2.1).bind fun o167 =>
 (bif o167.2.1 then
 ((T_spec_l1In N o1.2.2.1 (0 : Int) (7 : Int)).bind fun o168 =>
 (bif o168.2.1 then
 (some ((), (o1.2.2.2 == (0 : Int), ())))
 else
 (some ((), (false, ())))))
 else
 (some ((), (false, ())))))
 else
 (bif o1.1 == (14 : Int) then
 ((T_spec_l1In N o1.2.1 (0 : Int) (7 : Int)).bind fun o169 =>
 (bif o169.2.1 then
 ((T_spec_l4Reg N o1.2.2.1).bind fun o170 =>
 (bif o170.2.1 then
 (some ((), (o1.2.2.2 == (0 : Int), ())))
 else
 (some ((), (false, ())))))
 else
 (some ((), (false, ())))))
 else
 (some ((), (false, ())))))))
 else
 (bif o1.1 == (10 : Int) then
 (bif o1.1 == (10 : Int) then
 (bif o1.2.1 == (0 : Int) then
 (bif o1.2.2.1 == (0 : Int) then
 (some ((), (o1.2.2.2 == (0 : Int), ())))
 else
 (some ((), (false, ()))))
 else
 (some ((), (false, ()))))
 else
 (bif o1.1 == (12 : Int) then
 ((T_spec_l1In N o1.2.1 (0 : Int) (7 : Int)).bind fun o171 =>
 (bif o171.2.1 then
 ((T_spec_l4Reg N o1.2.2.1).bind fun o172 =>
 (bif o172.2.1 then
 ((T_spec_l4Reg N o1.2.2.2).bind fun o173 =>
 (some ((), (o173.2.1, ()))))
 else
 (some ((), (false, ())))))
 else
 (some ((), (false, ())))))
 else
 (bif o1.1 == (13 : Int) then
 ((T_spec_l4Reg N o1.2.1).bind fun o174 =>
 (bif o174.2.1 then
 ((T_spec_l1In N o1.2.2.1 (0 : Int) (7 : Int)).bind fun o175 =>
 (bif o175.2.1 then
 (some ((), (o1.2.2.2 == (0 : Int), ())))
 else
 (some ((), (false, ())))))
 else
 (some ((), (false, ())))))
 else
 (bif o1.1 == (14 : Int) then
 ((T_spec_l1In N o1.2.1 (0 : Int) (7 : Int)).bind fun o176 =>
 (bif o176.2.1 then
 ((T_spec_l4Reg N o1.2.2.1).bind fun o177 =>
 (bif o177.2.1 then
 (some ((), (o1.2.2.2 == (0 : Int), ())))
 else
 (some ((), (false, ())))))
 else
 (some ((), (false, ())))))
 else
 (some ((), (false, ())))))))
 else
 (bif o1.1 == (11 : Int) then
 (bif o1.2.1 == (0 : Int) then
 (bif o1.2.2.1 == (0 : Int) then
 (some ((), (o1.2.2.2 == (0 : Int), ())))
 else
 (some ((), (false, ()))))
 else
 (some ((), (false, ()))))
 else
 (bif o1.1 == (12 : Int) then
 ((T_spec_l1In N o1.2.1 (0 : Int) (7 : Int)).bind fun o178 =>
 (bif o178.2.1 then
 ((T_spec_l4Reg N o1.2.2.1).bind fun o179 =>
 (bif o179.2.1 then
 ((T_spec_l4Reg N o1.2.2.2).bind fun o180 =>
 (some ((), (o180.2.1, ()))))
 else
 (some ((), (false, ())))))
 else
 (some ((), (false, ())))))
 else
 (bif o1.1 == (13 : Int) then
 ((T_spec_l4Reg N o1.2.1).bind fun o181 =>
 (bif o181.2.1 then
 ((T_spec_l1In N o1.2.2.1 (0 : Int) (7 : Int)).bind fun o182 =>
 (bif o182.2.1 then
 (some ((), (o1.2.2.2 == (0 : Int), ())))
 else
 (some ((), (false, ())))))
 else
 (some ((), (false, ())))))
 else
 (bif o1.1 == (14 : Int) then
 ((T_spec_l1In N o1.2.1 (0 : Int) (7 : Int)).bind fun o183 =>
 (bif o183.2.1 then
 ((T_spec_l4Reg N o1.2.2.1).bind fun o184 =>
 (bif o184.2.1 then
 (some ((), (o1.2.2.2 == (0 : Int), ())))
 else
 (some ((), (false, ())))))
 else
 (some ((), (false, ())))))
 else
 (some ((), (false, ()))))))))))
 else
 (bif o1.1 == (15 : Int) then
 (bif o1.1 == (15 : Int) then
 ((T_spec_l4Reg N o1.2.1).bind fun o185 =>
 (bif o185.2.1 then
 (bif o1.2.2.1 == (0 : Int) then
 (some ((), (o1.2.2.2 == (0 : Int), ())))
 else
 (some ((), (false, ()))))
 else
 (some ((), (false, ())))))
 else
 (bif o1.1 == (9 : Int) then
 (bif o1.1 == (9 : Int) then
 (bif o1.2.1 == (0 : Int) then
 (bif o1.2.2.1 == (0 : Int) then
 (some ((), (o1.2.2.2 == (0 : Int), ())))
 else
 (some ((), (false, ()))))
 else
 (some ((), (false, ()))))
 else
 (bif o1.1 == (12 : Int) then
 ((T_spec_l1In N o1.2.1 (0 : Int) (7 : Int)).bind fun o186 =>
 (bif o186.2.1 then
 ((T_spec_l4Reg N o1.2.2.1).bind fun o187 =>
 (bif o187.2.1 then
 ((T_spec_l4Reg N o1.2.2.2).bind fun o188 =>
 (some ((), (o188.2.1, ()))))
 else
 (some ((), (false, ())))))
 else
 (some ((), (false, ())))))
 else
 (bif o1.1 == (13 : Int) then
 ((T_spec_l4Reg N o1.2.1).bind fun o189 =>
 (bif o189.2.1 then
 ((T_spec_l1In N o1.2.2.1 (0 : Int) (7 : Int)).bind fun o190 =>
 (bif o190.2.1 then
 (some ((), (o1.2.2.2 == (0 : Int), ())))
 else
 (some ((), (false, ())))))
 else
 (some ((), (false, ())))))
 else
 (bif o1.1 == (14 : Int) then
 ((T_spec_l1In N o1.2.1 (0 : Int) (7 : Int)).bind fun o191 =>
 (bif o191.2.1 then
 ((T_spec_l4Reg N o1.2.2.1).bind fun o192 =>
 (bif o192.2.1 then
 (some ((), (o1.2.2.2 == (0 : Int), ())))
 else
 (some ((), (false, ())))))
 else
 (some ((), (false, ())))))
 else
 (some ((), (false, ())))))))
 else
 (bif o1.1 == (10 : Int) then
 (bif o1.1 == (10 : Int) then
 (bif o1.2.1 == (0 : Int) then
 (bif o1.2.2.1 == (0 : Int) then
 (some ((), (o1.2.2.2 == (0 : Int), ())))
 else
 (some ((), (false, ()))))
 else
 (some ((), (false, ()))))
 else
 (bif o1.1 == (12 : Int) then
 ((T_spec_l1In N o1.2.1 (0 : Int) (7 : Int)).bind fun o193 =>
 (bif o193.2.1 then
 ((T_spec_l4Reg N o1.2.2.1).bind fun o194 =>
 (bif o194.2.1 then
 ((T_spec_l4Reg N o1.2.2.2).bind fun o195 =>
 (some ((), (o195.2.1, ()))))
 else
 (some ((), (false, ())))))
 else
 (some ((), (false, ())))))
 else
 (bif o1.1 == (13 : Int) then
 ((T_spec_l4Reg N o1.2.1).bind fun o196 =>
 (bif o196.2.1 then
 ((T_spec_l1In N o1.2.2.1 (0 : Int) (7 : Int)).bind fun o197 =>
 (bif o197.2.1 then
 (some ((), (o1.2.2.2 == (0 : Int), ())))
 else
 (some ((), (false, ())))))
 else
 (some ((), (false, ())))))
 else
 (bif o1.1 == (14 : Int) then
 ((T_spec_l1In N o1.2.1 (0 : Int) (7 : Int)).bind fun o198 =>
 (bif o198.2.1 then
 ((T_spec_l4Reg N o1.2.2.1).bind fun o199 =>
 (bif o199.2.1 then
 (some ((), (o1.2.2.2 == (0 : Int), ())))
 else
 (some ((), (false, ())))))
 else
 (some ((), (false, ())))))
 else
 (some ((), (false, ())))))))
 else
 (bif o1.1 == (11 : Int) then
 (bif o1.2.1 == (0 : Int) then
 (bif o1.2.2.1 == (0 : Int) then
 (some ((), (o1.2.2.2 == (0 : Int), ())))
 else
 (some ((), (false, ()))))
 else
 (some ((), (false, ()))))
 else
 (bif o1.1 == (12 : Int) then
 ((T_spec_l1In N o1.2.1 (0 : Int) (7 : Int)).bind fun o200 =>
 (bif o200.2.1 then
 ((T_spec_l4Reg N o1.2.2.1).bind fun o201 =>
 (bif o201.2.1 then
 ((T_spec_l4Reg N o1.2.2.2).bind fun o202 =>
 (some ((), (o202.2.1, ()))))
 else
 (some ((), (false, ())))))
 else
 (some ((), (false, ())))))
 else
 (bif o1.1 == (13 : Int) then
 ((T_spec_l4Reg N o1.2.1).bind fun o203 =>
 (bif o203.2.1 then
 ((T_spec_l1In N o1.2.2.1 (0 : Int) (7 : Int)).bind fun o204 =>
 (bif o204.2.1 then
 (some ((), (o1.2.2.2 == (0 : Int), ())))
 else
 (some ((), (false, ())))))
 else
 (some ((), (false, ())))))
 else
 (bif o1.1 == (14 : Int) then
 ((T_spec_l1In N o1.2.1 (0 : Int) (7 : Int)).bind fun o205 =>
 (bif o205.2.1 then
 ((T_spec_l4Reg N o1.2.2.1).bind fun o206 =>
 (bif o206.2.1 then
 (some ((), (o1.2.2.2 == (0 : Int), ())))
 else
 (some ((), (false, ())))))
 else
 (some ((), (false, ())))))
 else
 (some ((), (false, ()))))))))))
 else
 (bif o1.1 == (16 : Int) then
 ((T_spec_l4Reg N o1.2.1).bind fun o207 =>
 (bif o207.2.1 then
 (bif o1.2.2.1 == (0 : Int) then
 (some ((), (o1.2.2.2 == (0 : Int), ())))
 else
 (some ((), (false, ()))))
 else
 (some ((), (false, ())))))
 else
 (bif o1.1 == (9 : Int) then
 (bif o1.1 == (9 : Int) then
 (bif o1.2.1 == (0 : Int) then
 (bif o1.2.2.1 == (0 : Int) then
 (some ((), (o1.2.2.2 == (0 : Int), ())))
 else
 (some ((), (false, ()))))
 else
 (some ((), (false, ()))))
 else
 (bif o1.1 == (12 : Int) then
 ((T_spec_l1In N o1.2.1 (0 : Int) (7 : Int)).bind fun o208 =>
 (bif o208.2.1 then
 ((T_spec_l4Reg N o1.2.2.1).bind fun o209 =>
 (bif o209.2.1 then
 ((T_spec_l4Reg N o1.2.2.2).bind fun o210 =>
 (some ((), (o210.2.1, ()))))
 else
 (some ((), (false, ())))))
 else
 (some ((), (false, ())))))
 else
 (bif o1.1 == (13 : Int) then
 ((T_spec_l4Reg N o1.2.1).bind fun o211 =>
 (bif o211.2.1 then
 ((T_spec_l1In N o1.2.2.1 (0 : Int) (7 : Int)).bind fun o212 =>
 (bif o212.2.1 then
 (some ((), (o1.2.2.2 == (0 : Int), ())))
 else
 (some ((), (false, ())))))
 else
 (some ((), (false, ())))))
 else
 (bif o1.1 == (14 : Int) then
 ((T_spec_l1In N o1.2.1 (0 : Int) (7 : Int)).bind fun o213 =>
 (bif o213.2.1 then
 ((T_spec_l4Reg N o1.2.2.1).bind fun o214 =>
 (bif o214.2.1 then
 (some ((), (o1.2.2.2 == (0 : Int), ())))
 else
 (some ((), (false, ())))))
 else
 (some ((), (false, ())))))
 else
 (some ((), (false, ())))))))
 else
 (bif o1.1 == (10 : Int) then
 (bif o1.1 == (10 : Int) then
 (bif o1.2.1 == (0 : Int) then
 (bif o1.2.2.1 == (0 : Int) then
 (some ((), (o1.2.2.2 == (0 : Int), ())))
 else
 (some ((), (false, ()))))
 else
 (some ((), (false, ()))))
 else
 (bif o1.1 == (12 : Int) then
 ((T_spec_l1In N o1.2.1 (0 : Int) (7 : Int)).bind fun o215 =>
 (bif o215.2.1 then
 ((T_spec_l4Reg N o1.2.2.1).bind fun o216 =>
 (bif o216.2.1 then
 ((T_spec_l4Reg N o1.2.2.2).bind fun o217 =>
 (some ((), (o217.2.1, ()))))
 else
 (some ((), (false, ())))))
 else
 (some ((), (false, ())))))
 else
 (bif o1.1 == (13 : Int) then
 ((T_spec_l4Reg N o1.2.1).bind fun o218 =>
 (bif o218.2.1 then
 ((T_spec_l1In N o1.2.2.1 (0 : Int) (7 : Int)).bind fun o219 =>
 (bif o219.2.1 then
 (some ((), (o1.2.2.2 == (0 : Int), ())))
 else
 (some ((), (false, ())))))
 else
 (some ((), (false, ())))))
 else
 (bif o1.1 == (14 : Int) then
 ((T_spec_l1In N o1.2.1 (0 : Int) (7 : Int)).bind fun o220 =>
 (bif o220.2.1 then
 ((T_spec_l4Reg N o1.2.2.1).bind fun o221 =>
 (bif o221.2.1 then
 (some ((), (o1.2.2.2 == (0 : Int), ())))
 else
 (some ((), (false, ())))))
 else
 (some ((), (false, ())))))
 else
 (some ((), (false, ())))))))
 else
 (bif o1.1 == (11 : Int) then
 (bif o1.2.1 == (0 : Int) then
 (bif o1.2.2.1 == (0 : Int) then
 (some ((), (o1.2.2.2 == (0 : Int), ())))
 else
 (some ((), (false, ()))))
 else
 (some ((), (false, ()))))
 else
 (bif o1.1 == (12 : Int) then
 ((T_spec_l1In N o1.2.1 (0 : Int) (7 : Int)).bind fun o222 =>
 (bif o222.2.1 then
 ((T_spec_l4Reg N o1.2.2.1).bind fun o223 =>
 (bif o223.2.1 then
 ((T_spec_l4Reg N o1.2.2.2).bind fun o224 =>
 (some ((), (o224.2.1, ()))))
 else
 (some ((), (false, ())))))
 else
 (some ((), (false, ())))))
 else
 (bif o1.1 == (13 : Int) then
 ((T_spec_l4Reg N o1.2.1).bind fun o225 =>
 (bif o225.2.1 then
 ((T_spec_l1In N o1.2.2.1 (0 : Int) (7 : Int)).bind fun o226 =>
 (bif o226.2.1 then
 (some ((), (o1.2.2.2 == (0 : Int), ())))
 else
 (some ((), (false, ())))))
 else
 (some ((), (false, ())))))
 else
 (bif o1.1 == (14 : Int) then
 ((T_spec_l1In N o1.2.1 (0 : Int) (7 : Int)).bind fun o227 =>
 (bif o227.2.1 then
 ((T_spec_l4Reg N o1.2.2.1).bind fun o228 =>
 (bif o228.2.1 then
 (some ((), (o1.2.2.2 == (0 : Int), ())))
 else
 (some ((), (false, ())))))
 else
 (some ((), (false, ())))))
 else
 (some ((), (false, ())))))))))))))))))))

noncomputable def T_spec_l5Skip_lp0 {R : Type} (N : Nat) (code3 : List (Int × Int × Int × Int)) (to4 : Int) (K0 : Option R) (K1 : Int → Int → Bool → Option R) : Nat → Int → Int → Option R
  | 0, _, _ => none
  | n + 1, d5, k6 =>
    (bif decide (k6 < to4) then
 (bif inb k6 (List.length code3) then
 (bif (List.getD code3 (Int.toNat k6) ((0 : Int), ((0 : Int), ((0 : Int), (0 : Int))))).1 == (8 : Int) then
 (bif inb k6 (List.length code3) then
 (bif (List.getD code3 (Int.toNat k6) ((0 : Int), ((0 : Int), ((0 : Int), (0 : Int))))).1 == (9 : Int) then
 (bif decide ((isub .i64 (iadd .i64 d5 (1 : Int)) (1 : Int)) < (0 : Int)) then
 K0
 else
 (T_spec_l5Skip_lp0 N code3 to4 K0 K1 n (isub .i64 (iadd .i64 d5 (1 : Int)) (1 : Int)) (iadd .i64 k6 (1 : Int))))
 else
 (bif decide ((iadd .i64 d5 (1 : Int)) < (0 : Int)) then
 K0
 else
 (T_spec_l5Skip_lp0 N code3 to4 K0 K1 n (iadd .i64 d5 (1 : Int)) (iadd .i64 k6 (1 : Int))))) else none)
 else
 (bif inb k6 (List.length code3) then
 (bif (List.getD code3 (Int.toNat k6) ((0 : Int), ((0 : Int), ((0 : Int), (0 : Int))))).1 == (9 : Int) then
 (bif decide ((isub .i64 d5 (1 : Int)) < (0 : Int)) then
 K0
 else
 (T_spec_l5Skip_lp0 N code3 to4 K0 K1 n (isub .i64 d5 (1 : Int)) (iadd .i64 k6 (1 : Int))))
 else
 (bif decide (d5 < (0 : Int)) then
 K0
 else
 (T_spec_l5Skip_lp0 N code3 to4 K0 K1 n d5 (iadd .i64 k6 (1 : Int))))) else none)) else none)
 else
 (K1 d5 k6 (decide (k6 < to4))))

noncomputable def T_spec_l5Skip (N : Nat) (code1 : List (Int × Int × Int × Int)) (i2 : Int) : Option (Unit × (Bool × Unit)) :=
    (bif inb i2 (List.length code1) then
 (bif decide ((iadd .i64 (iadd .i64 i2 (1 : Int)) (List.getD code1 (Int.toNat i2) ((0 : Int), ((0 : Int), ((0 : Int), (0 : Int))))).2.2.1) > (ilen code1)) then
 (some ((), (false, ())))
 else
 (T_spec_l5Skip_lp0 N code1 (iadd .i64 (iadd .i64 i2 (1 : Int)) (List.getD code1 (Int.toNat i2) ((0 : Int), ((0 : Int), ((0 : Int), (0 : Int))))).2.2.1)
 (some ((), (false, ())))
 (fun d10 k11 t12 =>
   (some ((), (d10 == (0 : Int), ()))))
  N (0 : Int) (iadd .i64 i2 (1 : Int)))) else none)

noncomputable def T_spec_CodeOk_lp0 {R : Type} (N : Nat) (code2 : List (Int × Int × Int × Int)) (K0 : Option R) (K1 : Int → Int → Int → Bool → Option R) : Nat → Int → Int → Int → Option R
  | 0, _, _, _ => none
  | n + 1, d3, forks4, i5 =>
    (bif decide (i5 < (ilen code2)) then
 (bif inb i5 (List.length code2) then
 ((T_spec_OpOk N (List.getD code2 (Int.toNat i5) ((0 : Int), ((0 : Int), ((0 : Int), (0 : Int)))))).bind fun o12 =>
 (bif !o12.2.1 then
 K0
 else
 (bif inb i5 (List.length code2) then
 (bif (List.getD code2 (Int.toNat i5) ((0 : Int), ((0 : Int), ((0 : Int), (0 : Int))))).1 == (8 : Int) then
 (bif decide ((iadd .i64 d3 (1 : Int)) < (0 : Int)) then
 K0
 else
 (T_spec_CodeOk_lp0 N code2 K0 K1 n (iadd .i64 d3 (1 : Int)) forks4 (iadd .i64 i5 (1 : Int))))
 else
 (bif (List.getD code2 (Int.toNat i5) ((0 : Int), ((0 : Int), ((0 : Int), (0 : Int))))).1 == (9 : Int) then
 (bif decide ((isub .i64 d3 (1 : Int)) < (0 : Int)) then
 K0
 else
 (T_spec_CodeOk_lp0 N code2 K0 K1 n (isub .i64 d3 (1 : Int)) forks4 (iadd .i64 i5 (1 : Int))))
 else
 (bif (List.getD code2 (Int.toNat i5) ((0 : Int), ((0 : Int), ((0 : Int), (0 : Int))))).1 == (7 : Int) then
 ((T_spec_l5Skip N code2 i5).bind fun o13 =>
 (bif !o13.2.1 then
 K0
 else
 (bif decide (d3 < (0 : Int)) then
 K0
 else
 (T_spec_CodeOk_lp0 N code2 K0 K1 n d3 forks4 (iadd .i64 i5 (1 : Int))))))
 else
 (bif (List.getD code2 (Int.toNat i5) ((0 : Int), ((0 : Int), ((0 : Int), (0 : Int))))).1 == (11 : Int) then
 (bif decide (d3 > (0 : Int)) then
 K0
 else
 (bif decide ((iadd .i64 forks4 (1 : Int)) > (1 : Int)) then
 K0
 else
 (bif decide (d3 < (0 : Int)) then
 K0
 else
 (T_spec_CodeOk_lp0 N code2 K0 K1 n d3 (iadd .i64 forks4 (1 : Int)) (iadd .i64 i5 (1 : Int))))))
 else
 (bif decide (d3 < (0 : Int)) then
 K0
 else
 (T_spec_CodeOk_lp0 N code2 K0 K1 n d3 forks4 (iadd .i64 i5 (1 : Int)))))))) else none))) else none)
 else
 (K1 d3 forks4 i5 (decide (i5 < (ilen code2)))))

noncomputable def T_spec_CodeOk (N : Nat) (code1 : List (Int × Int × Int × Int)) : Option (Unit × (Bool × Unit)) :=
    (bif decide ((ilen code1) > (24 : Int)) then
 (some ((), (false, ())))
 else
 (T_spec_CodeOk_lp0 N code1
 (some ((), (false, ())))
 (fun d14 forks15 i16 t17 =>
   (some ((), (d14 == (0 : Int), ()))))
  N (0 : Int) (0 : Int) (0 : Int)))

noncomputable def T_spec_HasFork_lp0 {R : Type} (N : Nat) (code2 : List (Int × Int × Int × Int)) (K0 : Option R) (K1 : Int → Bool → Option R) : Nat → Int → Option R
  | 0, _ => none
  | n + 1, i3 =>
    (bif decide (i3 < (ilen code2)) then
 (bif inb i3 (List.length code2) then
 (bif (List.getD code2 (Int.toNat i3) ((0 : Int), ((0 : Int), ((0 : Int), (0 : Int))))).1 == (11 : Int) then
 K0
 else
 (T_spec_HasFork_lp0 N code2 K0 K1 n (iadd .i64 i3 (1 : Int)))) else none)
 else
 (K1 i3 (decide (i3 < (ilen code2)))))

noncomputable def T_spec_HasFork (N : Nat) (code1 : List (Int × Int × Int × Int)) : Option (Unit × (Bool × Unit)) :=
    (T_spec_HasFork_lp0 N code1
 (some ((), (true, ())))
 (fun i6 t7 =>
   (some ((), (false, ()))))
  N (0 : Int))

noncomputable def T_spec_Touches (N : Nat) (o1 : Int × Int × Int × Int) : Option (Unit × (Int × Unit)) :=
    ((T_spec_OpOk N o1).bind fun o2 =>
 (bif !o2.2.1 then
 (some ((), ((0 : Int), ())))
 else
 (bif o1.1 == (5 : Int) then
 (bif o1.1 == (5 : Int) then
 (some ((), ((1 : Int), ())))
 else
 (bif o1.1 == (12 : Int) then
 (bif o1.1 == (12 : Int) then
 (some ((), ((2 : Int), ())))
 else
 (some ((), ((0 : Int), ()))))
 else
 (bif o1.1 == (13 : Int) then
 (bif o1.1 == (13 : Int) then
 (some ((), ((2 : Int), ())))
 else
 (some ((), ((0 : Int), ()))))
 else
 (bif o1.1 == (14 : Int) then
 (bif o1.1 == (14 : Int) then
 (some ((), ((2 : Int), ())))
 else
 (some ((), ((0 : Int), ()))))
 else
 (bif o1.1 == (15 : Int) then
 (bif o1.1 == (15 : Int) then
 (some ((), ((2 : Int), ())))
 else
 (some ((), ((0 : Int), ()))))
 else
 (bif o1.1 == (16 : Int) then
 (some ((), ((2 : Int), ())))
 else
 (some ((), ((0 : Int), ())))))))))
 else
 (bif o1.1 == (6 : Int) then
 (some ((), ((1 : Int), ())))
 else
 (bif o1.1 == (12 : Int) then
 (bif o1.1 == (12 : Int) then
 (some ((), ((2 : Int), ())))
 else
 (some ((), ((0 : Int), ()))))
 else
 (bif o1.1 == (13 : Int) then
 (bif o1.1 == (13 : Int) then
 (some ((), ((2 : Int), ())))
 else
 (some ((), ((0 : Int), ()))))
 else
 (bif o1.1 == (14 : Int) then
 (bif o1.1 == (14 : Int) then
 (some ((), ((2 : Int), ())))
 else
 (some ((), ((0 : Int), ()))))
 else
 (bif o1.1 == (15 : Int) then
 (bif o1.1 == (15 : Int) then
 (some ((), ((2 : Int), ())))
 else
 (some ((), ((0 : Int), ()))))
 else
 (bif o1.1 == (16 : Int) then
 (some ((), ((2 : Int), ())))
 else
 (some ((), ((0 : Int), ()))))))))))))

noncomputable def T_spec_KidOk_lp0 {R : Type} (N : Nat) (code4 : List (Int × Int × Int × Int)) (K0 : Option R) (K1 : Int → Bool → Option R) : Nat → Int → Option R
  | 0, _ => none
  | n + 1, i5 =>
    (bif decide (i5 < (ilen code4)) then
 (bif inb i5 (List.length code4) then
 ((T_spec_Touches N (List.getD code4 (Int.toNat i5) ((0 : Int), ((0 : Int), ((0 : Int), (0 : Int)))))).bind fun o9 =>
 (bif o9.2.1 == (2 : Int) then
 K0
 else
 (T_spec_KidOk_lp0 N code4 K0 K1 n (iadd .i64 i5 (1 : Int))))) else none)
 else
 (K1 i5 (decide (i5 < (ilen code4)))))

noncomputable def T_spec_KidOk (N : Nat) (code1 : List (Int × Int × Int × Int)) : Option (Unit × (Bool × Unit)) :=
    ((T_spec_CodeOk N code1).bind fun o2 =>
 (bif !o2.2.1 then
 (some ((), (false, ())))
 else
 ((T_spec_HasFork N code1).bind fun o3 =>
 (bif o3.2.1 then
 (some ((), (false, ())))
 else
 (T_spec_KidOk_lp0 N code1
 (some ((), (false, ())))
 (fun i10 t11 =>
   (some ((), (true, ()))))
  N (0 : Int))))))

noncomputable def T_impl_isReg (N : Nat) (r1 : Int) : Option (Unit × (Bool × Unit)) :=
    ((T_impl_within N r1 (0 : Int) (3 : Int)).bind fun o2 =>
 (some ((), (o2.2.1, ()))))

noncomputable def T_impl_isKey (N : Nat) (k1 : Int) : Option (Unit × (Bool × Unit)) :=
    ((T_impl_within N k1 (0 : Int) (7 : Int)).bind fun o2 =>
 (some ((), (o2.2.1, ()))))

noncomputable def T_impl_OpOk (N : Nat) (o1 : Int × Int × Int × Int) : Option (Unit × (Bool × Unit)) :=
    (bif o1.1 == (1 : Int) then
 ((T_impl_isReg N o1.2.1).bind fun o2 =>
 (bif o2.2.1 then
 ((T_impl_isValue N o1.2.2.1).bind fun o3 =>
 (bif o3.2.1 then
 (some ((), (o1.2.2.2 == (0 : Int), ())))
 else
 (some ((), (false, ())))))
 else
 (some ((), (false, ())))))
 else
 (bif o1.1 == (2 : Int) then
 (bif o1.1 == (2 : Int) then
 ((T_impl_isReg N o1.2.1).bind fun o4 =>
 (bif o4.2.1 then
 ((T_impl_isReg N o1.2.2.1).bind fun o5 =>
 (bif o5.2.1 then
 ((T_impl_isReg N o1.2.2.2).bind fun o6 =>
 (some ((), (o6.2.1, ()))))
 else
 (some ((), (false, ())))))
 else
 (some ((), (false, ())))))
 else
 (bif o1.1 == (5 : Int) then
 ((T_impl_isReg N o1.2.1).bind fun o7 =>
 (bif o7.2.1 then
 ((T_impl_isCell N o1.2.2.1).bind fun o8 =>
 (bif o8.2.1 then
 (some ((), (o1.2.2.2 == (0 : Int), ())))
 else
 (some ((), (false, ())))))
 else
 (some ((), (false, ())))))
 else
 (bif o1.1 == (6 : Int) then
 ((T_impl_isCell N o1.2.1).bind fun o9 =>
 (bif o9.2.1 then
 ((T_impl_isReg N o1.2.2.1).bind fun o10 =>
 (bif o10.2.1 then
 (some ((), (o1.2.2.2 == (0 : Int), ())))
 else
 (some ((), (false, ())))))
 else
 (some ((), (false, ())))))
 else
 (bif o1.1 == (7 : Int) then
 ((T_impl_isReg N o1.2.1).bind fun o11 =>
 (bif o11.2.1 then
 ((T_impl_within N o1.2.2.1 (1 : Int) (20 : Int)).bind fun o12 =>
 (bif o12.2.1 then
 (some ((), (o1.2.2.2 == (0 : Int), ())))
 else
 (some ((), (false, ())))))
 else
 (some ((), (false, ())))))
 else
 (bif o1.1 == (8 : Int) then
 (bif o1.1 == (8 : Int) then
 ((T_impl_isReg N o1.2.1).bind fun o13 =>
 (bif o13.2.1 then
 (bif o1.2.2.1 == (0 : Int) then
 (some ((), (o1.2.2.2 == (0 : Int), ())))
 else
 (some ((), (false, ()))))
 else
 (some ((), (false, ())))))
 else
 (bif o1.1 == (9 : Int) then
 (bif o1.1 == (9 : Int) then
 (bif o1.2.1 == (0 : Int) then
 (bif o1.2.2.1 == (0 : Int) then
 (some ((), (o1.2.2.2 == (0 : Int), ())))
 else
 (some ((), (false, ()))))
 else
 (some ((), (false, ()))))
 else
 (bif o1.1 == (12 : Int) then
 ((T_impl_isKey N o1.2.1).bind fun o14 =>
 (bif o14.2.1 then
 ((T_impl_isReg N o1.2.2.1).bind fun o15 =>
 (bif o15.2.1 then
 ((T_impl_isReg N o1.2.2.2).bind fun o16 =>
 (some ((), (o16.2.1, ()))))
 else
 (some ((), (false, ())))))
 else
 (some ((), (false, ())))))
 else
 (bif o1.1 == (13 : Int) then
 ((T_impl_isReg N o1.2.1).bind fun o17 =>
 (bif o17.2.1 then
 ((T_impl_isKey N o1.2.2.1).bind fun o18 =>
 (bif o18.2.1 then
 (some ((), (o1.2.2.2 == (0 : Int), ())))
 else
 (some ((), (false, ())))))
 else
 (some ((), (false, ())))))
 else
 (bif o1.1 == (14 : Int) then
 ((T_impl_isKey N o1.2.1).bind fun o19 =>
 (bif o19.2.1 then
 ((T_impl_isReg N o1.2.2.1).bind fun o20 =>
 (bif o20.2.1 then
 (some ((), (o1.2.2.2 == (0 : Int), ())))
 else
 (some ((), (false, ())))))
 else
 (some ((), (false, ())))))
 else
 (some ((), (false, ())))))))
 else
 (bif o1.1 == (10 : Int) then
 (bif o1.1 == (10 : Int) then
 (bif o1.2.1 == (0 : Int) then
 (bif o1.2.2.1 == (0 : Int) then
 (some ((), (o1.2.2.2 == (0 : Int), ())))
 else
 (some ((), (false, ()))))
 else
 (some ((), (false, ()))))
 else
 (bif o1.1 == (12 : Int) then
 ((T_impl_isKey N o1.2.1).bind fun o21 =>
 (bif o21.2.1 then
 ((T_impl_isReg N o1.2.2.1).bind fun o22 =>
 (bif o22.2.1 then
 ((T_impl_isReg N o1.2.2.2).bind fun o23 =>
 (some ((), (o23.2.1, ()))))
 else
 (some ((), (false, ())))))
 else
 (some ((), (false, ())))))
 else
 (bif o1.1 == (13 : Int) then
 ((T_impl_isReg N o1.2.1).bind fun o24 =>
 (bif o24.2.1 then
 ((T_impl_isKey N o1.2.2.1).bind fun o25 =>
 (bif o25.2.1 then
 (some ((), (o1.2.2.2 == (0 : Int), ())))
 else
 (some ((), (false, ())))))
 else
 (some ((), (false, ())))))
 else
 (bif o1.1 == (14 : Int) then
 ((T_impl_isKey N o1.2.1).bind fun o26 =>
 (bif o26.2.1 then
 ((T_impl_isReg N o1.2.2.1).bind fun o27 =>
 (bif o27.2.1 then
 (some ((), (o1.2.2.2 == (0 : Int), ())))
 else
 (some ((), (false, ())))))
 else
 (some ((), (false, ())))))
 else
 (some ((), (false, ())))))))
 else
 (bif o1.1 == (11 : Int) then
 (bif o1.2.1 == (0 : Int) then
 (bif o1.2.2.1 == (0 : Int) then
 (some ((), (o1.2.2.2 == (0 : Int), ())))
 else
 (some ((), (false, ()))))
 else
 (some ((), (false, ()))))
 else
 (bif o1.1 == (12 : Int) then
 ((T_impl_isKey N o1.2.1).bind fun o28 =>
 (bif o28.2.1 then
 ((T_impl_isReg N o1.2.2.1).bind fun o29 =>
 (bif o29.2.1 then
 ((T_impl_isReg N o1.2.2.2).bind fun o30 =>
 (some ((), (o30.2.1, ()))))
 else
 (some ((), (false, ())))))
 else
 (some ((), (false, ())))))
 else
 (bif o1.1 == (13 : Int) then
 ((T_impl_isReg N o1.2.1).bind fun o31 =>
 (bif o31.2.1 then
 ((T_impl_isKey N o1.2.2.1).bind fun o32 =>
 (bif o32.2.1 then
 (some ((), (o1.2.2.2 == (0 : Int), ())))
 else
 (some ((), (false, ())))))
 else
 (some ((), (false, ())))))
 else
 (bif o1.1 == (14 : Int) then
 ((T_impl_isKey N o1.2.1).bind fun o33 =>
 (bif o33.2.1 then
 ((T_impl_isReg N o1.2.2.1).bind fun o34 =>
 (bif o34.2.1 then
 (some ((), (o1.2.2.2 == (0 : Int), ())))
 else
 (some ((), (false, ())))))
 else
 (some ((), (false, ())))))
 else
 (some ((), (false, ()))))))))))
 else
 (bif o1.1 == (15 : Int) then
 (bif o1.1 == (15 : Int) then
 ((T_impl_isReg N o1.2.1).bind fun o35 =>
 (bif o35.2.1 then
 (bif o1.2.2.1 == (0 : Int) then
 (some ((), (o1.2.2.2 == (0 : Int), ())))
 else
 (some ((), (false, ()))))
 else
 (some ((), (false, ())))))
 else
 (bif o1.1 == (9 : Int) then
 (bif o1.1 == (9 : Int) then
 (bif o1.2.1 == (0 : Int) then
 (bif o1.2.2.1 == (0 : Int) then
 (some ((), (o1.2.2.2 == (0 : Int), ())))
 else
 (some ((), (false, ()))))
 else
 (some ((), (false, ()))))
 else
 (bif o1.1 == (12 : Int) then
 ((T_impl_isKey N o1.2.1).bind fun o36 =>
 (bif o36.2.1 then
 ((T_impl_isReg N o1.2.2.1).bind fun o37 =>
 (bif o37.2.1 then
 ((T_impl_isReg N o1.2.2.2).bind fun o38 =>
 (some ((), (o38.2.1, ()))))
 else
 (some ((), (false, ())))))
 else
 (some ((), (false, ())))))
 else
 (bif o1.1 == (13 : Int) then
 ((T_impl_isReg N o1.2.1).bind fun o39 =>
 (bif o39.2.1 then
 ((T_impl_isKey N o1.2.2.1).bind fun o40 =>
 (bif o40.2.1 then
 (some ((), (o1.2.2.2 == (0 : Int), ())))
 else
 (some ((), (false, ())))))
 else
 (some ((), (false, ())))))
 else
 (bif o1.1 == (14 : Int) then
 ((T_impl_isKey N o1.2.1).bind fun o41 =>
 (bif o41.2.1 then
 ((T_impl_isReg N o1.2.2.1).bind fun o42 =>
 (bif o42.2.1 then
 (some ((), (o1.2.2.2 == (0 : Int), ())))
 else
 (some ((), (false, ())))))
 else
 (some ((), (false, ())))))
 else
 (some ((), (false, ())))))))
 else
 (bif o1.1 == (10 : Int) then
 (bif o1.1 == (10 : Int) then
 (bif o1.2.1 == (0 : Int) then
 (bif o1.2.2.1 == (0 : Int) then
 (some ((), (o1.2.2.2 == (0 : Int), ())))
 else
 (some ((), (false, ()))))
 else
 (some ((), (false, ()))))
 else
 (bif o1.1 == (12 : Int) then
 ((T_impl_isKey N o1.2.1).bind fun o43 =>
 (bif o43.2.1 then
 ((T_impl_isReg N o1.2.2.1).bind fun o44 =>
 (bif o44.2.1 then
 ((T_impl_isReg N o1.2.2.2).bind fun o45 =>
 (some ((), (o45.2.1, ()))))
 else
 (some ((), (false, ())))))
 else
 (some ((), (false, ())))))
 else
 (bif o1.1 == (13 : Int) then
 ((T_impl_isReg N o1.2.1).bind fun o46 =>
 (bif o46.2.1 then
 ((T_impl_isKey N o1.2.2.1).bind fun o47 =>
 (bif o47.2.1 then
 (some ((), (o1.2.2.2 == (0 : Int), ())))
 else
 (some ((), (false, ())))))
 else
 (some ((), (false, ())))))
 else
 (bif o1.1 == (14 : Int) then
 ((T_impl_isKey N o1.2.1).bind fun o48 =>
 (bif o48.2.1 then
 ((T_impl_isReg N o1.2.2.1).bind fun o49 =>
 (bif o49.2.1 then
 (some ((), (o1.2.2.2 == (0 : Int), ())))
 else
 (some ((), (false, ())))))
 else
 (some ((), (false, ())))))
 else
 (some ((), (false, ())))))))
 else
 (bif o1.1 == (11 : Int) then
 (bif o1.2.1 == (0 : Int) then
 (bif o1.2.2.1 == (0 : Int) then
 (some ((), (o1.2.2.2 == (0 : Int), ())))
 else
 (some ((), (false, ()))))
 else
 (some ((), (false, ()))))
 else
 (bif o1.1 == (12 : Int) then
 ((T_impl_isKey N o1.2.1).bind fun o50 =>
 (bif o50.2.1 then
 ((T_impl_isReg N o1.2.2.1).bind fun o51 =>
 (bif o51.2.1 then
 ((T_impl_isReg N o1.2.2.2).bind fun o52 =>
 (some ((), (o52.2.1, ()))))
 else
 (some ((), (false, ())))))
 else
 (some ((), (false, ())))))
 else
 (bif o1.1 == (13 : Int) then
 ((T_impl_isReg N o1.2.1).bind fun o53 =>
 (bif o53.2.1 then
 ((T_impl_isKey N o1.2.2.1).bind fun o54 =>
 (bif o54.2.1 then
 (some ((), (o1.2.2.2 == (0 : Int), ())))
 else
 (some ((), (false, ())))))
 else
 (some ((), (false, ())))))
 else
 (bif o1.1 == (14 : Int) then
 ((T_impl_isKey N o1.2.1).bind fun o55 =>
 (bif o55.2.1 then
 ((T_impl_isReg N o1.2.2.1).bind fun o56 =>
 (bif o56.2.1 then
 (some ((), (o1.2.2.2 == (0 : Int), ())))
 else
 (some ((), (false, ())))))
 else
 (some ((), (false, ())))))
 else
 (some ((), (false, ()))))))))))
 else
 (bif o1.1 == (16 : Int) then
 ((T_impl_isReg N o1.2.1).bind fun o57 =>
 (bif o57.2.1 then
 (bif o1.2.2.1 == (0 : Int) then
 (some ((), (o1.2.2.2 == (0 : Int), ())))
 else
 (some ((), (false, ()))))
 else
 (some ((), (false, ())))))
 else
 (bif o1.1 == (9 : Int) then
 (bif o1.1 == (9 : Int) then
 (bif o1.2.1 == (0 : Int) then
 (bif o1.2.2.1 == (0 : Int) then
 (some ((), (o1.2.2.2 == (0 : Int), ())))
 else
 (some ((), (false, ()))))
 else
 (some ((), (false, ()))))
 else
 (bif o1.1 == (12 : Int) then
 ((T_impl_isKey N o1.2.1).bind fun o58 =>
 (bif o58.2.1 then
 ((T_impl_isReg N o1.2.2.1).bind fun o59 =>
 (bif o59.2.1 then
 ((T_impl_isReg N o1.2.2.2).bind fun o60 =>
 (some ((), (o60.2.1, ()))))
 else
 (some ((), (false, ())))))
 else
 (some ((), (false, ())))))
 else
 (bif o1.1 == (13 : Int) then
 ((T_impl_isReg N o1.2.1).bind fun o61 =>
 (bif o61.2.1 then
 ((T_impl_isKey N o1.2.2.1).bind fun o62 =>
 (bif o62.2.1 then
 (some ((), (o1.2.2.2 == (0 : Int), ())))
 else
 (some ((), (false, ())))))
 else
 (some ((), (false, ())))))
 else
 (bif o1.1 == (14 : Int) then
 ((T_impl_isKey N o1.2.1).bind fun o63 =>
 (bif o63.2.1 then
 ((T_impl_isReg N o1.2.2.1).bind fun o64 =>
 (bif o64.2.1 then
 (some ((), (o1.2.2.2 == (0 : Int), ())))
 else
 (some ((), (false, ())))))
 else
 (some ((), (false, ())))))
 else
 (some ((), (false, ())))))))
 else
 (bif o1.1 == (10 : Int) then
 (bif o1.1 == (10 : Int) then
 (bif o1.2.1 == (0 : Int) then
 (bif o1.2.2.1 == (0 : Int) then
 (some ((), (o1.2.2.2 == (0 : Int), ())))
 else
 (some ((), (false, ()))))
 else
 (some ((), (false, ()))))
 else
 (bif o1.1 == (12 : Int) then
 ((T_impl_isKey N o1.2.1).bind fun o65 =>
 (bif o65.2.1 then
 ((T_impl_isReg N o1.2.2.1).bind fun o66 =>
 (bif o66.2.1 then
 ((T_impl_isReg N o1.2.2.2).bind fun o67 =>
 (some ((), (o67.2.1, ()))))
 else
 (some ((), (false, ())))))
 else
 (some ((), (false, ())))))
 else
 (bif o1.1 == (13 : Int) then
 ((T_impl_isReg N o1.2.1).bind fun o68 =>
 (bif o68.2.1 then
 ((T_impl_isKey N o1.2.2.1).bind fun o69 =>
 (bif o69.2.1 then
 (some ((), (o1.2.2.2 == (0 : Int), ())))
 else
 (some ((), (false, ())))))
 else
 (some ((), (false, ())))))
 else
 (bif o1.1 == (14 : Int) then
 ((T_impl_isKey N o1.2.1).bind fun o70 =>
 (bif o70.2.1 then
 ((T_impl_isReg N o1.2.2.1).bind fun o71 =>
 (bif o71.2.1 then
 (some ((), (o1.2.2.2 == (0 : Int), ())))
 else
 (some ((), (false, ())))))
 else
 (some ((), (false, ())))))
 else
 (some ((), (false, ())))))))
 else
 (bif o1.1 == (11 : Int) then
 (bif o1.2.1 == (0 : Int) then
 (bif o1.2.2.1 == (0 : Int) then
 (some ((), (o1.2.2.2 == (0 : Int), ())))
 else
 (some ((), (false, ()))))
 else
 (some ((), (false, ()))))
 else
 (bif o1.1 == (12 : Int) then
 ((T_impl_isKey N o1.2.1).bind fun o72 =>
 (bif o72.2.1 then
 ((T_impl_isReg N o1.2.2.1).bind fun o73 =>
 (bif o73.2.1 then
 ((T_impl_isReg N o1.2.2.2).bind fun o74 =>
 (some ((), (o74.2.1, ()))))
 else
 (some ((), (false, ())))))
 else
 (some ((), (false, ())))))
 else
 (bif o1.1 == (13 : Int) then
 ((T_impl_isReg N o1.2.1).bind fun o75 =>
 (bif o75.2.1 then
 ((T_impl_isKey N o1.2.2.1).bind fun o76 =>
 (bif o76.2.1 then
 (some ((), (o1.2.2.2 == (0 : Int), ())))
 else
 (some ((), (false, ())))))
 else
 (some ((), (false, ())))))
 else
 (bif o1.1 == (14 : Int) then
 ((T_impl_isKey N o1.2.1).bind fun o77 =>
 (bif o77.2.1 then
 ((T_impl_isReg N o1.2.2.1).bind fun o78 =>
 (bif o78.2.1 then
 (some ((), (o1.2.2.2 == (0 : Int), ())))
 else
 (some ((), (false, ())))))
 else
 (some ((), (false, ())))))
 else
 (some ((), (false, ()))))))))))))))))
 else
 (bif o1.1 == (3 : Int) then
 (bif o1.1 == (3 : Int) then
 ((T_impl_isReg N o1.2.1).bind fun o79 =>
 (bif o79.2.1 then
 ((T_impl_isReg N o1.2.2.1).bind fun o80 =>
 (bif o80.2.1 then
 ((T_impl_isReg N o1.2.2.2).bind fun o81 =>
 (some ((), (o81.2.1, ()))))
 else
 (some ((), (false, ())))))
 else
 (some ((), (false, ())))))
 else
 (bif o1.1 == (5 : Int) then
 ((T_impl_isReg N o1.2.1).bind fun o82 =>
 (bif o82.2.1 then
 ((T_impl_isCell N o1.2.2.1).bind fun o83 =>
 (bif o83.2.1 then
 (some ((), (o1.2.2.2 == (0 : Int), ())))
 else
 (some ((), (false, ())))))
 else
 (some ((), (false, ())))))
 else
 (bif o1.1 == (6 : Int) then
 ((T_impl_isCell N o1.2.1).bind fun o84 =>
 (bif o84.2.1 then
 ((T_impl_isReg N o1.2.2.1).bind fun o85 =>
 (bif o85.2.1 then
 (some ((), (o1.2.2.2 == (0 : Int), ())))
 else
 (some ((), (false, ())))))
 else
 (some ((), (false, ())))))
 else
 (bif o1.1 == (7 : Int) then
 ((T_impl_isReg N o1.2.1).bind fun o86 =>
 (bif o86.2.1 then
 ((T_impl_within N o1.2.2.1 (1 : Int) (20 : Int)).bind fun o87 =>
 (bif o87.2.1 then
 (some ((), (o1.2.2.2 == (0 : Int), ())))
 else
 (some ((), (false, ())))))
 else
 (some ((), (false, ())))))
 else
 (bif o1.1 == (8 : Int) then
 (bif o1.1 == (8 : Int) then
 ((T_impl_isReg N o1.2.1).bind fun o88 =>
 (bif o88.2.1 then
 (bif o1.2.2.1 == (0 : Int) then
 (some ((), (o1.2.2.2 == (0 : Int), ())))
 else
 (some ((), (false, ()))))
 else
 (some ((), (false, ())))))
 else
 (bif o1.1 == (9 : Int) then
 (bif o1.1 == (9 : Int) then
 (bif o1.2.1 == (0 : Int) then
 (bif o1.2.2.1 == (0 : Int) then
 (some ((), (o1.2.2.2 == (0 : Int), ())))
 else
 (some ((), (false, ()))))
 else
 (some ((), (false, ()))))
 else
 (bif o1.1 == (12 : Int) then
 ((T_impl_isKey N o1.2.1).bind fun o89 =>
 (bif o89.2.1 then
 ((T_impl_isReg N o1.2.2.1).bind fun o90 =>
 (bif o90.2.1 then
 ((T_impl_isReg N o1.2.2.2).bind fun o91 =>
 (some ((), (o91.2.1, ()))))
 else
 (some ((), (false, ())))))
 else
 (some ((), (false, ())))))
 else
 (bif o1.1 == (13 : Int) then
 ((T_impl_isReg N o1.2.1).bind fun o92 =>
 (bif o92.2.1 then
 ((T_impl_isKey N o1.2.2.1).bind fun o93 =>
 (bif o93.2.1 then
 (some ((), (o1.2.2.2 == (0 : Int), ())))
 else
 (some ((), (false, ())))))
 else
 (some ((), (false, ())))))
 else
 (bif o1.1 == (14 : Int) then
 ((T_impl_isKey N o1.2.1).bind fun o94 =>
 (bif o94.2.1 then
 ((T_impl_isReg N o1.2.2.1).bind fun o95 =>
 (bif o95.2.1 then
 (some ((), (o1.2.2.2 == (0 : Int), ())))
 else
 (some ((), (false, ())))))
 else
 (some ((), (false, ())))))
 else
 (some ((), (false, ())))))))
 else
 (bif o1.1 == (10 : Int) then
 (bif o1.1 == (10 : Int) then
 (bif o1.2.1 == (0 : Int) then
 (bif o1.2.2.1 == (0 : Int) then
 (some ((), (o1.2.2.2 == (0 : Int), ())))
 else
 (some ((), (false, ()))))
 else
 (some ((), (false, ()))))
 else
 (bif o1.1 == (12 : Int) then
 ((T_impl_isKey N o1.2.1).bind fun o96 =>
 (bif o96.2.1 then
 ((T_impl_isReg N o1.2.2.1).bind fun o97 =>
 (bif o97.2.1 then
 ((T_impl_isReg N o1.2.2.2).bind fun o98 =>
 (some ((), (o98.2.1, ()))))
 else
 (some ((), (false, ())))))
 else
 (some ((), (false, ())))))
 else
 (bif o1.1 == (13 : Int) then
 ((T_impl_isReg N o1.2.1).bind fun o99 =>
 (bif o99.2.1 then
 ((T_impl_isKey N o1.2.2.1).bind fun o100 =>
 (bif o100.2.1 then
 (some ((), (o1.2.2.2 == (0 : Int), ())))
 else
 (some ((), (false, ())))))
 else
 (some ((), (false, ())))))
 else
 (bif o1.1 == (14 : Int) then
 ((T_impl_isKey N o1.2.1).bind fun o101 =>
 (bif o101.2.1 then
 ((T_impl_isReg N o1.2.2.1).bind fun o102 =>
 (bif o102.2.1 then
 (some ((), (o1.2.2.2 == (0 : Int), ())))
 else
 (some ((), (false, ())))))
 else
 (some ((), (false, ())))))
 else
 (some ((), (false, ())))))))
 else
 (bif o1.1 == (11 : Int) then
 (bif o1.2.1 == (0 : Int) then
 (bif o1.2.2.1 == (0 : Int) then
 (some ((), (o1.2.2.2 == (0 : Int), ())))
 else
 (some ((), (false, ()))))
 else
 (some ((), (false, ()))))
 else
 (bif o1.1 == (12 : Int) then
 ((T_impl_isKey N o1.2.1).bind fun o103 =>
 (bif o103.2.1 then
 ((T_impl_isReg N o1.2.2.1).bind fun o104 =>
 (bif o104.2.1 then
 ((T_impl_isReg N o1.2.2.2).bind fun o105 =>
 (some ((), (o105.2.1, ()))))
 else
 (some ((), (false, ())))))
 else
 (some ((), (false, ())))))
 else
 (bif o1.1 == (13 : Int) then
 ((T_impl_isReg N o1.2.1).bind fun o106 =>
 (bif o106.2.1 then
 ((T_impl_isKey N o1.2.2.1).bind fun o107 =>
 (bif o107.2.1 then
 (some ((), (o1.2.2.2 == (0 : Int), ())))
 else
 (some ((), (false, ())))))
 else
 (some ((), (false, ())))))
 else
 (bif o1.1 == (14 : Int) then
 ((T_impl_isKey N o1.2.1).bind fun o108 =>
 (bif o108.2.1 then
 ((T_impl_isReg N o1.2.2.1).bind fun o109 =>
 (bif o109.2.1 then
 (some ((), (o1.2.2.2 == (0 : Int), ())))
 else
 (some ((), (false, ())))))
 else
 (some ((), (false, ())))))
 else
 (some ((), (false, ()))))))))))
 else
 (bif o1.1 == (15 : Int) then
 (bif o1.1 == (15 : Int) then
 ((T_impl_isReg N o1.2.1).bind fun o110 =>
 (bif o110.2.1 then
 (bif o1.2.2.1 == (0 : Int) then
 (some ((), (o1.2.2.2 == (0 : Int), ())))
 else
 (some ((), (false, ()))))
 else
 (some ((), (false, ())))))
 else
 (bif o1.1 == (9 : Int) then
 (bif o1.1 == (9 : Int) then
 (bif o1.2.1 == (0 : Int) then
 (bif o1.2.2.1 == (0 : Int) then
 (some ((), (o1.2.2.2 == (0 : Int), ())))
 else
 (some ((), (false, ()))))
 else
 (some ((), (false, ()))))
 else
 (bif o1.1 == (12 : Int) then
 ((T_impl_isKey N o1.2.1).bind fun o111 =>
 (bif o111.2.1 then
 ((T_impl_isReg N o1.2.2.1).bind fun o112 =>
 (bif o112.2.1 then
 ((T_impl_isReg N o1.2.2.2).bind fun o113 =>
 (some ((), (o113.2.1, ()))))
 else
 (some ((), (false, ())))))
 else
 (some ((), (false, ())))))
 else
 (bif o1.1 == (13 : Int) then
 ((T_impl_isReg N o1.2.1).bind fun o114 =>
 (bif o114.2.1 then
 ((T_impl_isKey N o1.2.2.1).bind fun o115 =>
 (bif o115.2.1 then
 (some ((), (o1.2.2.2 == (0 : Int), ())))
 else
 (some ((), (false, ())))))
 else
 (some ((), (false, ())))))
 else
 (bif o1.1 == (14 : Int) then
 ((T_impl_isKey N o1.2.1).bind fun o116 =>
 (bif o116.2.1 then
 ((T_impl_isReg N o1.2.2.1).bind fun o117 =>
 (bif o117.2.1 then
 (some ((), (o1.2.2.2 == (0 : Int), ())))
 else
 (some ((), (false, ())))))
 else
 (some ((), (false, ())))))
 else
 (some ((), (false, ())))))))
 else
 (bif o1.1 == (10 : Int) then
 (bif o1.1 == (10 : Int) then
 (bif o1.2.1 == (0 : Int) then
 (bif o1.2.2.1 == (0 : Int) then
 (some ((), (o1.2.2.2 == (0 : Int), ())))
 else
 (some ((), (false, ()))))
 else
 (some ((), (false, ()))))
 else
 (bif o1.1 == (12 : Int) then
 ((T_impl_isKey N o1.2.1).bind fun o118 =>
 (bif o118.2.1 then
 ((T_impl_isReg N o1.2.2.1).bind fun o119 =>
 (bif o119.2.1 then
 ((T_impl_isReg N o1.2.2.2).bind fun o120 =>
 (some ((), (o120.2.1, ()))))
 else
 (some ((), (false, ())))))
 else
 (some ((), (false, ())))))
 else
 (bif o1.1 == (13 : Int) then
 ((T_impl_isReg N o1.2.1).bind fun o121 =>
 (bif o121.2.1 then
 ((T_impl_isKey N o1.2.2.1).bind fun o122 =>
 (bif o122.2.1 then
 (some ((), (o1.2.2.2 == (0 : Int), ())))
 else
 (some ((), (false, ())))))
 else
 (some ((), (false, ())))))
 else
 (bif o1.1 == (14 : Int) then
 ((T_impl_isKey N o1.2.1).bind fun o123 =>
 (bif o123.2.1 then
 ((T_impl_isReg N o1.2.2.1).bind fun o124 =>
 (bif o124.2.1 then
 (some ((), (o1.2.2.2 == (0 : Int), ())))
 else
 (some ((), (false, ())))))
 else
 (some ((), (false, ())))))
 else
 (some ((), (false, ())))))))
 else
 (bif o1.1 == (11 : Int) then
 (bif o1.2.1 == (0 : Int) then
 (bif o1.2.2.1 == (0 : Int) then
 (some ((), (o1.2.2.2 == (0 : Int), ())))
 else
 (some ((), (false, ()))))
 else
 (some ((), (false, ()))))
 else
 (bif o1.1 == (12 : Int) then
 ((T_impl_isKey N o1.2.1).bind fun o125 =>
 (bif o125.2.1 then
 ((T_impl_isReg N o1.2.2.1).bind fun o126 =>
 (bif o126.2.1 then
 ((T_impl_isReg N o1.2.2.2).bind fun o127 =>
 (some ((), (o127.2.1, ()))))
 else
 (some ((), (false, ())))))
 else
 (some ((), (false, ())))))
 else
 (bif o1.1 == (13 : Int) then
 ((T_impl_isReg N o1.2.1).bind fun o128 =>
 (bif o128.2.1 then
 ((T_impl_isKey N o1.2.2.1).bind fun o129 =>
 (bif o129.2.1 then
 (some ((), (o1.2.2.2 == (0 : Int), ())))
 else
 (some ((), (false, ())))))
 else
 (some ((), (false, ())))))
 else
 (bif o1.1 == (14 : Int) then
 ((T_impl_isKey N o1.2.1).bind fun o130 =>
 (bif o130.2.1 then
 ((T_impl_isReg N o1.2.2.1).bind fun o131 =>
 (bif o131.2.1 then
 (some ((), (o1.2.2.2 == (0 : Int), ())))
 else
 (some ((), (false, ())))))
 else
 (some ((), (false, ())))))
 else
 (some ((), (false, ()))))))))))
 else
 (bif o1.1 == (16 : Int) then
 ((T_impl_isReg N o1.2.1).bind fun o132 =>
 (bif o132.2.1 then
 (bif o1.2.2.1 == (0 : Int) then
 (some ((), (o1.2.2.2 == (0 : Int), ())))
 else
 (some ((), (false, ()))))
 else
 (some ((), (false, ())))))
 else
 (bif o1.1 == (9 : Int) then
 (bif o1.1 == (9 : Int) then
 (bif o1.2.1 == (0 : Int) then
 (bif o1.2.2.1 == (0 : Int) then
 (some ((), (o1.2.2.2 == (0 : Int), ())))
 else
 (some ((), (false, ()))))
 else
 (some ((), (false, ()))))
 else
 (bif o1.1 == (12 : Int) then
 ((T_impl_isKey N o1.2.1).bind fun o133 =>
 (bif o133.2.1 then
 ((T_impl_isReg N o1.2.2.1).bind fun o134 =>
 (bif o134.2.1 then
 ((T_impl_isReg N o1.2.2.2).bind fun o135 =>
 (some ((), (o135.2.1, ()))))
 else
 (some ((), (false, ())))))
 else
 (some ((), (false, ())))))
 else
 (bif o1.1 == (13 : Int) then
 ((T_impl_isReg N o1.2.1).bind fun o136 =>
 (bif o136.2.1 then
 ((T_impl_isKey N o1.2.2.1).bind fun o137 =>
 (bif o137.2.1 then
 (some ((), (o1.2.2.2 == (0 : Int), ())))
 else
 (some ((), (false, ())))))
 else
 (some ((), (false, ())))))
 else
 (bif o1.1 == (14 : Int) then
 ((T_impl_isKey N o1.2.1).bind fun o138 =>
 (bif o138.2.1 then
 ((T_impl_isReg N o1.2.2.1).bind fun o139 =>
 (bif o139.2.1 then
 (some ((), (o1.2.2.2 == (0 : Int), ())))
 else
 (some ((), (false, ())))))
 else
 (some ((), (false, ())))))
 else
 (some ((), (false, ())))))))
 else
 (bif o1.1 == (10 : Int) then
 (bif o1.1 == (10 : Int) then
 (bif o1.2.1 == (0 : Int) then
 (bif o1.2.2.1 == (0 : Int) then
 (some ((), (o1.2.2.2 == (0 : Int), ())))
 else
 (some ((), (false, ()))))
 else
 (some ((), (false, ()))))
 else
 (bif o1.1 == (12 : Int) then
 ((T_impl_isKey N o1.2.1).bind fun o140 =>
 (bif o140.2.1 then
 ((T_impl_isReg N o1.2.2.1).bind fun o141 =>
 (bif o141.2.1 then
 ((T_impl_isReg N o1.2.2.2).bind fun o142 =>
 (some ((), (o142.2.1, ()))))
 else
 (some ((), (false, ())))))
 else
 (some ((), (false, ())))))
 else
 (bif o1.1 == (13 : Int) then
 ((T_impl_isReg N o1.2.1).bind fun o143 =>
 (bif o143.2.1 then
 ((T_impl_isKey N o1.2.2.1).bind fun o144 =>
 (bif o144.2.1 then
 (some ((), (o1.2.2.2 == (0 : Int), ())))
 else
 (some ((), (false, ())))))
 else
 (some ((), (false, ())))))
 else
 (bif o1.1 == (14 : Int) then
 ((T_impl_isKey N o1.2.1).bind fun o145 =>
 (bif o145.2.1 then
 ((T_impl_isReg N o1.2.2.1).bind fun o146 =>
 (bif o146.2.1 then
 (some ((), (o1.2.2.2 == (0 : Int), ())))
 else
 (some ((), (false, ())))))
 else
 (some ((), (false, ())))))
 else
 (some ((), (false, ())))))))
 else
 (bif o1.1 == (11 : Int) then
 (bif o1.2.1 == (0 : Int) then
 (bif o1.2.2.1 == (0 : Int) then
 (some ((), (o1.2.2.2 == (0 : Int), ())))
 else
 (some ((), (false, ()))))
 else
 (some ((), (false, ()))))
 else
 (bif o1.1 == (12 : Int) then
 ((T_impl_isKey N o1.2.1).bind fun o147 =>
 (bif o147.2.1 then
 ((T_impl_isReg N o1.2.2.1).bind fun o148 =>
 (bif o148.2.1 then
 ((T_impl_isReg N o1.2.2.2).bind fun o149 =>
 (some ((), (o149.2.1, ()))))
 else
 (some ((), (false, ())))))
 else
 (some ((), (false, ())))))
 else
 (bif o1.1 == (13 : Int) then
 ((T_impl_isReg N o1.2.1).bind fun o150 =>
 (bif o150.2.1 then
 ((T_impl_isKey N o1.2.2.1).bind fun o151 =>
 (bif o151.2.1 then
 (some ((), (o1.2.2.2 == (0 : Int), ())))
 else
 (some ((), (false, ())))))
 else
 (some ((), (false, ())))))
 else
 (bif o1.1 == (14 : Int) then
 ((T_impl_isKey N o1.2.1).bind fun o152 =>
 (bif o152.2.1 then
 ((T_impl_isReg N o1.2.2.1).bind fun o153 =>
 (bif o153.2.1 then
 (some ((), (o1.2.2.2 == (0 : Int), ())))
 else
 (some ((), (false, ())))))
 else
 (some ((), (false, ())))))
 else
 (some ((), (false, ()))))))))))))))))
 else
 (bif o1.1 == (4 : Int) then
 ((T_impl_isReg N o1.2.1).bind fun o154 =>
 (bif o154.2.1 then
 ((T_impl_isReg N o1.2.2.1).bind fun o155 =>
 (bif o155.2.1 then
 ((T_impl_isReg N o1.2.2.2).bind fun o156 =>
 (some ((), (o156.2.1, ()))))
 else
 (some ((), (false, ())))))
 else
 (some ((), (false, ())))))
 else
 (bif o1.1 == (5 : Int) then
 ((T_impl_isReg N o1.2.1).bind fun o157 =>
 (bif o157.2.1 then
 ((T_impl_isCell N o1.2.2.1).bind fun o158 =>
 (bif o158.2.1 then
 (some ((), (o1.2.2.2 == (0 : Int), ())))
 else
 (some ((), (false, ())))))
 else
 (some ((), (false, ())))))
 else
 (bif o1.1 == (6 : Int) then
 ((T_impl_isCell N o1.2.1).bind fun o159 =>
 (bif o159.2.1 then
 ((T_impl_isReg N o1.2.2.1).bind fun o160 =>
 (bif o160.2.1 then
 (some ((), (o1.2.2.2 == (0 : Int), ())))
 else
 (some ((), (false, ())))))
 else
 (some ((), (false, ())))))
 else
 (bif o1.1 == (7 : Int) then
 ((T_impl_isReg N o1.2.1).bind fun o161 =>
 (bif o161.2.1 then
 ((T_impl_within N o1.2.2.1 (1 : Int) (20 : Int)).bind fun o162 =>
 (bif o162.2.1 then
 (some ((), (o1.2.2.2 == (0 : Int), ())))
 else
 (some ((), (false, ())))))
 else
 (some ((), (false, ())))))
 else
 (bif o1.1 == (8 : Int) then
 (bif o1.1 == (8 : Int) then
 ((T_impl_isReg N o1.2.1).bind fun o163 =>
 (bif o163.2.1 then
 (bif o1.2.2.1 == (0 : Int) then
 (some ((), (o1.2.2.2 == (0 : Int), ())))
 else
 (some ((), (false, ()))))
 else
 (some ((), (false, ())))))
 else
 (bif o1.1 == (9 : Int) then
 (bif o1.1 == (9 : Int) then
 (bif o1.2.1 == (0 : Int) then
 (bif o1.2.2.1 == (0 : Int) then
 (some ((), (o1.2.2.2 == (0 : Int), ())))
 else
 (some ((), (false, ()))))
 else
 (some ((), (false, ()))))
 else
 (bif o1.1 == (12 : Int) then
 ((T_impl_isKey N o1.2.1).bind fun o164 =>
 (bif o164.2.1 then
 ((T_impl_isReg N o1.2.2.1).bind fun o165 =>
 (bif o165.2.1 then
 ((T_impl_isReg N o1.2.2.2).bind fun o166 =>
 (some ((), (o166.2.1, ()))))
 else
 (some ((), (false, ())))))
 else
 (some ((), (false, ())))))
 else
 (bif o1.1 == (13 : Int) then
 ((T_impl_isReg N o1.2.1).bind fun o167 =>
 (bif o167.2.1 then
 ((T_impl_isKey N o1.2.2.1).bind fun o168 =>
 (bif o168.2.1 then
 (some ((), (o1.2.2.2 == (0 : Int), ())))
 else
 (some ((), (false, ())))))
 else
 (some ((), (false, ())))))
 else
 (bif o1.1 == (14 : Int) then
 ((T_impl_isKey N o1.2.1).bind fun o169 =>
 (bif o169.2.1 then
 ((T_impl_isReg N o1.2.2.1).bind fun o170 =>
 (bif o170.2.1 then
 (some ((), (o1.2.2.2 == (0 : Int), ())))
 else
 (some ((), (false, ())))))
 else
 (some ((), (false, ())))))
 else
 (some ((), (false, ())))))))
 else
 (bif o1.1 == (10 : Int) then
 (bif o1.1 == (10 : Int) then
 (bif o1.2.1 == (0 : Int) then
 (bif o1.2.2.1 == (0 : Int) then
 (some ((), (o1.2.2.2 == (0 : Int), ())))
 else
 (some ((), (false, ()))))
 else
 (some ((), (false, ()))))
 else
 (bif o1.1 == (12 : Int) then
 ((T_impl_isKey N o1.2.1).bind fun o171 =>
 (bif o171.2.1 then
 ((T_impl_isReg N o1.2.2.1).bind fun o172 =>
 (bif o172.2.1 then
 ((T_impl_isReg N o1.2.2.2).bind fun o173 =>
 (some ((), (o173.2.1, ()))))
 else
 (some ((), (false, ())))))
 else
 (some ((), (false, ())))))
 else
 (bif o1.1 == (13 : Int) then
 ((T_impl_isReg N o1.2.1).bind fun o174 =>
 (bif o174.2.1 then
 ((T_impl_isKey N o1.2.2.1).bind fun o175 =>
 (bif o175.2.1 then
 (some ((), (o1.2.2.2 == (0 : Int), ())))
 else
 (some ((), (false, ())))))
 else
 (some ((), (false, ())))))
 else
 (bif o1.1 == (14 : Int) then
 ((T_impl_isKey N o1.2.1).bind fun o176 =>
 (bif o176.2.1 then
 ((T_impl_isReg N o1.2.2.1).bind fun o177 =>
 (bif o177.2.1 then
 (some ((), (o1.2.2.2 == (0 : Int), ())))
 else
 (some ((), (false, ())))))
 else
 (some ((), (false, ())))))
 else
 (some ((), (false, ())))))))
 else
 (bif o1.1 == (11 : Int) then
 (bif o1.2.1 == (0 : Int) then
 (bif o1.2.2.1 == (0 : Int) then
 (some ((), (o1.2.2.2 == (0 : Int), ())))
 else
 (some ((), (false, ()))))
 else
 (some ((), (false, ()))))
 else
 (bif o1.1 == (12 : Int) then
 ((T_impl_isKey N o1.2.1).bind fun o178 =>
 (bif o178.2.1 then
 ((T_impl_isReg N o1.2.2.1).bind fun o179 =>
 (bif o179.2.1 then
 ((T_impl_isReg N o1.2.2.2).bind fun o180 =>
 (some ((), (o180.2.1, ()))))
 else
 (some ((), (false, ())))))
 else
 (some ((), (false, ())))))
 else
 (bif o1.1 == (13 : Int) then
 ((T_impl_isReg N o1.2.1).bind fun o181 =>
 (bif o181.2.1 then
 ((T_impl_isKey N o1.2.2.1).bind fun o182 =>
 (bif o182.2.1 then
 (some ((), (o1.2.2.2 == (0 : Int), ())))
 else
 (some ((), (false, ())))))
 else
 (some ((), (false, ())))))
 else
 (bif o1.1 == (14 : Int) then
 ((T_impl_isKey N o1.2.1).bind fun o183 =>
 (bif o183.2.1 then
 ((T_impl_isReg N o1.2.2.1).bind fun o184 =>
 (bif o184.2.1 then
 (some ((), (o1.2.2.2 == (0 : Int), ())))
 else
 (some ((), (false, ())))))
 else
 (some ((), (false, ())))))
 else
 (some ((), (false, ()))))))))))
 else
 (bif o1.1 == (15 : Int) then
 (bif o1.1 == (15 : Int) then
 ((T_impl_isReg N o1.2.1).bind fun o185 =>
 (bif o185.2.1 then
 (bif o1.2.2.1 == (0 : Int) then
 (some ((), (o1.2.2.2 == (0 : Int), ())))
 else
 (some ((), (false, ()))))
 else
 (some ((), (false, ())))))
 else
 (bif o1.1 == (9 : Int) then
 (bif o1.1 == (9 : Int) then
 (bif o1.2.1 == (0 : Int) then
 (bif o1.2.2.1 == (0 : Int) then
 (some ((), (o1.2.2.2 == (0 : Int), ())))
 else
 (some ((), (false, ()))))
 else
 (some ((), (false, ()))))
 else
 (bif o1.1 == (12 : Int) then
 ((T_impl_isKey N o1.2.1).bind fun o186 =>
 (bif o186.2.1 then
 ((T_impl_isReg N o1.2.2.1).bind fun o187 =>
 (bif o187.2.1 then
 ((T_impl_isReg N o1.2.2.2).bind fun o188 =>
 (some ((), (o188.2.1, ()))))
 else
 (some ((), (false, ())))))
 else
 (some ((), (false, ())))))
 else
 (bif o1.1 == (13 : Int) then
 ((T_impl_isReg N o1.2.1).bind fun o189 =>
 (bif o189.2.1 then
 ((T_impl_isKey N o1.2.2.1).bind fun o190 =>
 (bif o190.2.1 then
 (some ((), (o1.2.2.2 == (0 : Int), ())))
 else
 (some ((), (false, ())))))
 else
 (some ((), (false, ())))))
 else
 (bif o1.1 == (14 : Int) then
 ((T_impl_isKey N o1.2.1).bind fun o191 =>
 (bif o191.2.1 then
 ((T_impl_isReg N o1.2.2.1).bind fun o192 =>
 (bif o192.2.1 then
 (some ((), (o1.2.2.2 == (0 : Int), ())))
 else
 (some ((), (false, ())))))
 else
 (some ((), (false, ())))))
 else
 (some ((), (false, ())))))))
 else
 (bif o1.1 == (10 : Int) then
 (bif o1.1 == (10 : Int) then
 (bif o1.2.1 == (0 : Int) then
 (bif o1.2.2.1 == (0 : Int) then
 (some ((), (o1.2.2.2 == (0 : Int), ())))
 else
 (some ((), (false, ()))))
 else
 (some ((), (false, ()))))
 else
 (bif o1.1 == (12 : Int) then
 ((T_impl_isKey N o1.2.1).bind fun o193 =>
 (bif o193.2.1 then
 ((T_impl_isReg N o1.2.2.1).bind fun o194 =>
 (bif o194.2.1 then
 ((T_impl_isReg N o1.2.2.2).bind fun o195 =>
 (some ((), (o195.2.1, ()))))
 else
 (some ((), (false, ())))))
 else
 (some ((), (false, ())))))
 else
 (bif o1.1 == (13 : Int) then
 ((T_impl_isReg N o1.2.1).bind fun o196 =>
 (bif o196.2.1 then
 ((T_impl_isKey N o1.2.2.1).bind fun o197 =>
 (bif o197.2.1 then
 (some ((), (o1.2.2.2 == (0 : Int), ())))
 else
 (some ((), (false, ())))))
 else
 (some ((), (false, ())))))
 else
 (bif o1.1 == (14 : Int) then
 ((T_impl_isKey N o1.2.1).bind fun o198 =>
 (bif o198.2.1 then
 ((T_impl_isReg N o1.2.2.1).bind fun o199 =>
 (bif o199.2.1 then
 (some ((), (o1.2.2.2 == (0 : Int), ())))
 else
 (some ((), (false, ())))))
 else
 (some ((), (false, ())))))
 else
 (some ((), (false, ())))))))
 else
 (bif o1.1 == (11 : Int) then
 (bif o1.2.1 == (0 : Int) then
 (bif o1.2.2.1 == (0 : Int) then
 (some ((), (o1.2.2.2 == (0 : Int), ())))
 else
 (some ((), (false, ()))))
 else
 (some ((), (false, ()))))
 else
 (bif o1.1 == (12 : Int) then
 ((T_impl_isKey N o1.2.1).bind fun o200 =>
 (bif o200.2.1 then
 ((T_impl_isReg N o1.2.2.1).bind fun o201 =>
 (bif o201.2.1 then
 ((T_impl_isReg N o1.2.2.2).bind fun o202 =>
 (some ((), (o202.2.1, ()))))
 else
 (some ((), (false, ())))))
 else
 (some ((), (false, ())))))
 else
 (bif o1.1 == (13 : Int) then
 ((T_impl_isReg N o1.2.1).bind fun o203 =>
 (bif o203.2.1 then
 ((T_impl_isKey N o1.2.2.1).bind fun o204 =>
 (bif o204.2.1 then
 (some ((), (o1.2.2.2 == (0 : Int), ())))
 else
 (some ((), (false, ())))))
 else
 (some ((), (false, ())))))
 else
 (bif o1.1 == (14 : Int) then
 ((T_impl_isKey N o1.2.1).bind fun o205 =>
 (bif o205.2.1 then
 ((T_impl_isReg N o1.2.2.1).bind fun o206 =>
 (bif o206.2.1 then
 (some ((), (o1.2.2.2 == (0 : Int), ())))
 else
 (some ((), (false, ())))))
 else
 (some ((), (false, ())))))
 else
 (some ((), (false, ()))))))))))
 else
 (bif o1.1 == (16 : Int) then
 ((T_impl_isReg N o1.2.1).bind fun o207 =>
 (bif o207.2.1 then
 (bif o1.2.2.1 == (0 : Int) then
 (some ((), (o1.2.2.2 == (0 : Int), ())))
 else
 (some ((), (false, ()))))
 else
 (some ((), (false, ())))))
 else
 (bif o1.1 == (9 : Int) then
 (bif o1.1 == (9 : Int) then
 (bif o1.2.1 == (0 : Int) then
 (bif o1.2.2.1 == (0 : Int) then
 (some ((), (o1.2.2.2 == (0 : Int), ())))
 else
 (some ((), (false, ()))))
 else
 (some ((), (false, ()))))
 else
 (bif o1.1 == (12 : Int) then
 ((T_impl_isKey N o1.2.1).bind fun o208 =>
 (bif o208.2.1 then
 ((T_impl_isReg N o1.2.2.1).bind fun o209 =>
 (bif o209.2.1 then
 ((T_impl_isReg N o1.2.2.2).bind fun o210 =>
 (some ((), (o210.2.1, ()))))
 else
 (some ((), (false, ())))))
 else
 (some ((), (false, ())))))
 else
 (bif o1.1 == (13 : Int) then
 ((T_impl_isReg N o1.2.1).bind fun o211 =>
 (bif o211.2.1 then
 ((T_impl_isKey N o1.2.2.1).bind fun o212 =>
 (bif o212.2.1 then
 (some ((), (o1.2.2.2 == (0 : Int), ())))
 else
 (some ((), (false, ())))))
 else
 (some ((), (false, ())))))
 else
 (bif o1.1 == (14 : Int) then
 ((T_impl_isKey N o1.2.1).bind fun o213 =>
 (bif o213.2.1 then
 ((T_impl_isReg N o1.2.2.1).bind fun o214 =>
 (bif o214.2.1 then
 (some ((), (o1.2.2.2 == (0 : Int), ())))
 else
 (some ((), (false, ())))))
 else
 (some ((), (false, ())))))
 else
 (some ((), (false, ())))))))
 else
 (bif o1.1 == (10 : Int) then
 (bif o1.1 == (10 : Int) then
 (bif o1.2.1 == (0 : Int) then
 (bif o1.2.2.1 == (0 : Int) then
 (some ((), (o1.2.2.2 == (0 : Int), ())))
 else
 (some ((), (false, ()))))
 else
 (some ((), (false, ()))))
 else
 (bif o1.1 == (12 : Int) then
 ((T_impl_isKey N o1.2.1).bind fun o215 =>
 (bif o215.2.1 then
 ((T_impl_isReg N o1.2.2.1).bind fun o216 =>
 (bif o216.2.1 then
 ((T_impl_isReg N o1.2.2.2).bind fun o217 =>
 (some ((), (o217.2.1, ()))))
 else
 (some ((), (false, ())))))
 else
 (some ((), (false, ())))))
 else
 (bif o1.1 == (13 : Int) then
 ((T_impl_isReg N o1.2.1).bind fun o218 =>
 (bif o218.2.1 then
 ((T_impl_isKey N o1.2.2.1).bind fun o219 =>
 (bif o219.2.1 then
 (some ((), (o1.2.2.2 == (0 : Int), ())))
 else
 (some ((), (false, ())))))
 else
 (some ((), (false, ())))))
 else
 (bif o1.1 == (14 : Int) then
 ((T_impl_isKey N o1.2.1).bind fun o220 =>
 (bif o220.2.1 then
 ((T_impl_isReg N o1.2.2.1).bind fun o221 =>
 (bif o221.2.1 then
 (some ((), (o1.2.2.2 == (0 : Int), ())))
 else
 (some ((), (false, ())))))
 else
 (some ((), (false, ())))))
 else
 (some ((), (false, ())))))))
 else
 (bif o1.1 == (11 : Int) then
 (bif o1.2.1 == (0 : Int) then
 (bif o1.2.2.1 == (0 : Int) then
 (some ((), (o1.2.2.2 == (0 : Int), ())))
 else
 (some ((), (false, ()))))
 else
 (some ((), (false, ()))))
 else
 (bif o1.1 == (12 : Int) then
 ((T_impl_isKey N o1.2.1).bind fun o222 =>
 (bif o222.2.1 then
 ((T_impl_isReg N o1.2.2.1).bind fun o223 =>
 (bif o223.2.1 then
 ((T_impl_isReg N o1.2.2.2).bind fun o224 =>
 (some ((), (o224.2.1, ()))))
 else
 (some ((), (false, ())))))
 else
 (some ((), (false, ())))))
 else
 (bif o1.1 == (13 : Int) then
 ((T_impl_isReg N o1.2.1).bind fun o225 =>
 (bif o225.2.1 then
 ((T_impl_isKey N o1.2.2.1).bind fun o226 =>
 (bif o226.2.1 then
 (some ((), (o1.2.2.2 == (0 : Int), ())))
 else
 (some ((), (false, ())))))
 else
 (some ((), (false, ())))))
 else
 (bif o1.1 == (14 : Int) then
 ((T_impl_isKey N o1.2.1).bind fun o227 =>
 (bif o227.2.1 then
 ((T_impl_isReg N o1.2.2.1).bind fun o228 =>
 (bif o228.2.1 then
 (some ((), (o1.2.2.2 == (0 : Int), ())))
 else
 (some ((), (false, ())))))
 else
 (some ((), (false, ())))))
 else
 (some ((), (false, ())))))))))))))))))))

noncomputable def T_impl_Touches (N : Nat) (o1 : Int × Int × Int × Int) : Option (Unit × (Int × Unit)) :=
    ((T_impl_OpOk N o1).bind fun o2 =>
 (bif !o2.2.1 then
 (some ((), ((0 : Int), ())))
 else
 (bif o1.1 == (5 : Int) then
 (bif o1.1 == (5 : Int) then
 (some ((), ((1 : Int), ())))
 else
 (bif o1.1 == (12 : Int) then
 (bif o1.1 == (12 : Int) then
 (some ((), ((2 : Int), ())))
 else
 (some ((), ((0 : Int), ()))))
 else
 (bif o1.1 == (13 : Int) then
 (bif o1.1 == (13 : Int) then
 (some ((), ((2 : Int), ())))
 else
 (some ((), ((0 : Int), ()))))
 else
 (bif o1.1 == (14 : Int) then
 (bif o1.1 == (14 : Int) then
 (some ((), ((2 : Int), ())))
 else
 (some ((), ((0 : Int), ()))))
 else
 (bif o1.1 == (15 : Int) then
 (bif o1.1 == (15 : Int) then
 (some ((), ((2 : Int), ())))
 else
 (some ((), ((0 : Int), ()))))
 else
 (bif o1.1 == (16 : Int) then
 (some ((), ((2 : Int), ())))
 else
 (some ((), ((0 : Int), ())))))))))
 else
 (bif o1.1 == (6 : Int) then
 (some ((), ((1 : Int), ())))
 else
 (bif o1.1 == (12 : Int) then
 (bif o1.1 == (12 : Int) then
 (some ((), ((2 : Int), ())))
 else
 (some ((), ((0 : Int), ()))))
 else
 (bif o1.1 == (13 : Int) then
 (bif o1.1 == (13 : Int) then
 (some ((), ((2 : Int), ())))
 else
 (some ((), ((0 : Int), ()))))
 else
 (bif o1.1 == (14 : Int) then
 (bif o1.1 == (14 : Int) then
 (some ((), ((2 : Int), ())))
 else
 (some ((), ((0 : Int), ()))))
 else
 (bif o1.1 == (15 : Int) then
 (bif o1.1 == (15 : Int) then
 (some ((), ((2 : Int), ())))
 else
 (some ((), ((0 : Int), ()))))
 else
 (bif o1.1 == (16 : Int) then
 (some ((), ((2 : Int), ())))
 else
 (some ((), ((0 : Int), ()))))))))))))

noncomputable def T_impl_opens (N : Nat) (o1 : Int × Int × Int × Int) : Option (Unit × (Int × Unit)) :=
    (bif o1.1 == (8 : Int) then
 (some ((), ((1 : Int), ())))
 else
 (bif o1.1 == (9 : Int) then
 (some ((), ((-1 : Int), ())))
 else
 (some ((), ((0 : Int), ())))))

noncomputable def T_impl_isBalanced_lp0 {R : Type} (N : Nat) (t3 : List (Int × Int × Int × Int)) (K0 : Option R) (K1 : Int → Int → Bool → Option R) : Nat → Int → Int → Option R
  | 0, _, _ => none
  | n + 1, n2, t5 =>
    (bif decide (t5 < (ilen t3)) then
 (bif inb t5 (List.length t3) then
 ((T_impl_opens N (List.getD t3 (Int.toNat t5) ((0 : Int), ((0 : Int), ((0 : Int), (0 : Int)))))).bind fun o11 =>
 (bif decide ((iadd .i64 n2 o11.2.1) < (0 : Int)) then
 K0
 else
 (T_impl_isBalanced_lp0 N t3 K0 K1 n (iadd .i64 n2 o11.2.1) (iadd .i64 t5 (1 : Int))))) else none)
 else
 (K1 n2 t5 (decide (t5 < (ilen t3)))))

noncomputable def T_impl_isBalanced (N : Nat) (code1 : List (Int × Int × Int × Int)) : Option (Unit × (Bool × Unit)) :=
    (T_impl_isBalanced_lp0 N code1
 (some ((), (false, ())))
 (fun n12 t13 t14 =>
   (some ((), (n12 == (0 : Int), ()))))
  N (0 : Int) (0 : Int))

noncomputable def T_impl_DepthAt_lp0 {R : Type} (N : Nat) (i3 : Int) (t5 : List (Int × Int × Int × Int)) (K0 : Int → Int → Bool → Option R) : Nat → Int → Int → Option R
  | 0, _, _ => none
  | n + 1, n4, t7 =>
    (bif decide (t7 < (ilen t5)) then
 (bif inb t7 (List.length t5) then
 (bif decide (t7 < i3) then
 ((T_impl_opens N (List.getD t5 (Int.toNat t7) ((0 : Int), ((0 : Int), ((0 : Int), (0 : Int)))))).bind fun o13 =>
 (T_impl_DepthAt_lp0 N i3 t5 K0 n (iadd .i64 n4 o13.2.1) (iadd .i64 t7 (1 : Int))))
 else
 (T_impl_DepthAt_lp0 N i3 t5 K0 n n4 (iadd .i64 t7 (1 : Int)))) else none)
 else
 (K0 n4 t7 (decide (t7 < (ilen t5)))))

noncomputable def T_impl_DepthAt (N : Nat) (code1 : List (Int × Int × Int × Int)) (i2 : Int) : Option (Unit × (Int × Unit)) :=
    (T_impl_DepthAt_lp0 N i2 code1
 (fun n14 t15 t16 =>
   (some ((), (n14, ()))))
  N (0 : Int) (0 : Int))

noncomputable def T_impl_CodeOk_lp0 {R : Type} (N : Nat) (code3 : List (Int × Int × Int × Int)) (K0 : Option R) (K1 : Int → Int → Bool → Option R) : Nat → Int → Int → Option R
  | 0, _, _ => none
  | n + 1, forks4, t7 =>
    (bif decide (t7 < (ilen code3)) then
 (bif inb t7 (List.length code3) then
 ((T_impl_OpOk N (List.getD code3 (Int.toNat t7) ((0 : Int), ((0 : Int), ((0 : Int), (0 : Int)))))).bind fun o17 =>
 (bif !o17.2.1 then
 K0
 else
 (bif (List.getD code3 (Int.toNat t7) ((0 : Int), ((0 : Int), ((0 : Int), (0 : Int))))).1 == (7 : Int) then
 (bif decide ((iadd .i64 (iadd .i64 t7 (1 : Int)) (List.getD code3 (Int.toNat t7) ((0 : Int), ((0 : Int), ((0 : Int), (0 : Int))))).2.2.1) > (ilen code3)) then
 K0
 else
 (bif (((decide ((0 : Int) ≤ (iadd .i64 (iadd .i64 t7 (1 : Int)) (List.getD code3 (Int.toNat t7) ((0 : Int), ((0 : Int), ((0 : Int), (0 : Int))))).2.2.1))) && (decide ((iadd .i64 (iadd .i64 t7 (1 : Int)) (List.getD code3 (Int.toNat t7) ((0 : Int), ((0 : Int), ((0 : Int), (0 : Int))))).2.2.1) ≤ ((List.length code3) : Int)))) && (decide ((0 : Int) ≤ (iadd .i64 t7 (1 : Int))))) && (decide ((iadd .i64 t7 (1 : Int)) ≤ (iadd .i64 (iadd .i64 t7 (1 : Int)) (List.getD code3 (Int.toNat t7) ((0 : Int), ((0 : Int), ((0 : Int), (0 : Int))))).2.2.1))) then
 ((T_impl_isBalanced N (List.drop (Int.toNat (iadd .i64 t7 (1 : Int))) (List.take (Int.toNat (iadd .i64 (iadd .i64 t7 (1 : Int)) (List.getD code3 (Int.toNat t7) ((0 : Int), ((0 : Int), ((0 : Int), (0 : Int))))).2.2.1)) code3))).bind fun o18 =>
 (bif !o18.2.1 then
 K0
 else
 (T_impl_CodeOk_lp0 N code3 K0 K1 n forks4 (iadd .i64 t7 (1 : Int))))) else none))
 else
 (bif (List.getD code3 (Int.toNat t7) ((0 : Int), ((0 : Int), ((0 : Int), (0 : Int))))).1 == (11 : Int) then
 (bif decide ((iadd .i64 forks4 (1 : Int)) > (1 : Int)) then
 K0
 else
 ((T_impl_DepthAt N code3 t7).bind fun o19 =>
 (bif o19.2.1 != (0 : Int) then
 K0
 else
 (T_impl_CodeOk_lp0 N code3 K0 K1 n (iadd .i64 forks4 (1 : Int)) (iadd .i64 t7 (1 : Int))))))
 else
 (T_impl_CodeOk_lp0 N code3 K0 K1 n forks4 (iadd .i64 t7 (1 : Int))))))) else none)
 else
 (K1 forks4 t7 (decide (t7 < (ilen code3)))))

noncomputable def T_impl_CodeOk (N : Nat) (code1 : List (Int × Int × Int × Int)) : Option (Unit × (Bool × Unit)) :=
    (bif decide ((ilen code1) > (24 : Int)) then
 (some ((), (false, ())))
 else
 ((T_impl_isBalanced N code1).bind fun o2 =>
 (bif !o2.2.1 then
 (some ((), (false, ())))
 else
 (T_impl_CodeOk_lp0 N code1
 (some ((), (false, ())))
 (fun forks20 t21 t22 =>
   (some ((), (true, ()))))
  N (0 : Int) (0 : Int)))))

noncomputable def T_impl_KidOk_lp0 {R : Type} (N : Nat) (code2 : List (Int × Int × Int × Int)) (K0 : Option R) (K1 : Int → Bool → Option R) : Nat → Int → Option R
  | 0, _ => none
  | n + 1, t5 =>
    (bif decide (t5 < (ilen code2)) then
 (bif inb t5 (List.length code2) then
 (bif (List.getD code2 (Int.toNat t5) ((0 : Int), ((0 : Int), ((0 : Int), (0 : Int))))).1 == (11 : Int) then
 K0
 else
 ((T_impl_Touches N (List.getD code2 (Int.toNat t5) ((0 : Int), ((0 : Int), ((0 : Int), (0 : Int)))))).bind fun o10 =>
 (bif o10.2.1 == (2 : Int) then
 K0
 else
 (T_impl_KidOk_lp0 N code2 K0 K1 n (iadd .i64 t5 (1 : Int)))))) else none)
 else
 (K1 t5 (decide (t5 < (ilen code2)))))

noncomputable def T_impl_KidOk (N : Nat) (code1 : List (Int × Int × Int × Int)) : Option (Unit × (Bool × Unit)) :=
    (T_impl_KidOk_lp0 N code1
 (some ((), (false, ())))
 (fun t11 t12 =>
   ((T_impl_CodeOk N code1).bind fun o13 =>
 (some ((), (o13.2.1, ())))))
  N (0 : Int))

noncomputable def T_spec_l4DrawCell (N : Nat) (c1 : List Int × Int × Int) : Option (((List Int × Int × Int) × Unit) × (Int × Unit)) :=
    ((T_spec_l1Once N c1 (8 : Int)).bind fun o2 =>
 (bif o2.2.1 then
 ((T_spec_l1Below N o2.1.1 (8 : Int)).bind fun o3 =>
 (some ((o3.1.1, ()), (o3.2.1, ()))))
 else
 ((T_spec_l1Below N o2.1.1 (3 : Int)).bind fun o4 =>
 (some ((o4.1.1, ()), (o4.2.1, ()))))))

noncomputable def T_laws_at (N : Nat) (code1 : List Int) (i2 : Int) : Option (Unit × (Int × Unit)) :=
    (bif decide (i2 < (ilen code1)) then
 (bif inb i2 (List.length code1) then
 (some ((), (IntKind.wrap .i64 (List.getD code1 (Int.toNat i2) (0 : Int)), ()))) else none)
 else
 (bif inz (256 : Int) then
 (some ((), (irem (iadd .i64 (imul .i64 i2 (37 : Int)) (imul .i64 (ilen code1) (11 : Int))) (256 : Int), ()))) else none))

noncomputable def T_spec_l3DrawVals_lp0 {R : Type} (N : Nat) (K0 : Int → Bool → (List Int × Int × Int) → (List Int) → Option R) : Nat → Int → (List Int × Int × Int) → (List Int) → Option R
  | 0, _, _, _ => none
  | n + 1, i2, b3, l4 =>
    (bif decide (i2 < (8 : Int)) then
 ((T_spec_l3Draw N b3).bind fun o10 =>
 (bif room ((List.length l4) + (List.length ([o10.2.1]))) then
 (T_spec_l3DrawVals_lp0 N K0 n (iadd .i64 i2 (1 : Int)) o10.1.1 (List.append l4 ([o10.2.1]))) else none))
 else
 (K0 i2 (decide (i2 < (8 : Int))) b3 l4))

noncomputable def T_spec_l3DrawVals (N : Nat) (c1 : List Int × Int × Int) : Option (((List Int × Int × Int) × Unit) × ((List Int) × Unit)) :=
    (T_spec_l3DrawVals_lp0 N
 (fun i11 t12 b13 l14 =>
   (some ((b13, ()), (l14, ()))))
  N (0 : Int) c1 ([] : List Int))

noncomputable def T_laws_sameInts_lp0 {R : Type} (N : Nat) (a3 : List Int) (b4 : List Int) (K0 : Option R) (K1 : Int → Bool → Option R) : Nat → Int → Option R
  | 0, _ => none
  | n + 1, i5 =>
    (bif decide (i5 < (ilen a3)) then
 (bif inb i5 (List.length a3) then
 (bif inb i5 (List.length b4) then
 (bif (List.getD a3 (Int.toNat i5) (0 : Int)) != (List.getD b4 (Int.toNat i5) (0 : Int)) then
 K0
 else
 (T_laws_sameInts_lp0 N a3 b4 K0 K1 n (iadd .i64 i5 (1 : Int)))) else none) else none)
 else
 (K1 i5 (decide (i5 < (ilen a3)))))

noncomputable def T_laws_sameInts (N : Nat) (a1 : List Int) (b2 : List Int) : Option (Unit × (Bool × Unit)) :=
    (bif (ilen a1) != (ilen b2) then
 (some ((), (false, ())))
 else
 (T_laws_sameInts_lp0 N a1 b2
 (some ((), (false, ())))
 (fun i8 t9 =>
   (some ((), (true, ()))))
  N (0 : Int)))

noncomputable def T_spec_EndOf_lp0 {R : Type} (N : Nat) (code3 : List (Int × Int × Int × Int)) (K0 : Int → Option R) (K1 : Int → Int → Bool → Option R) : Nat → Int → Int → Option R
  | 0, _, _ => none
  | n + 1, d4, k5 =>
    (bif decide (k5 < (ilen code3)) then
 (bif inb k5 (List.length code3) then
 (bif (List.getD code3 (Int.toNat k5) ((0 : Int), ((0 : Int), ((0 : Int), (0 : Int))))).1 == (8 : Int) then
 (bif inb k5 (List.length code3) then
 (bif (List.getD code3 (Int.toNat k5) ((0 : Int), ((0 : Int), ((0 : Int), (0 : Int))))).1 == (9 : Int) then
 (bif (isub .i64 (iadd .i64 d4 (1 : Int)) (1 : Int)) == (0 : Int) then
 (K0 k5)
 else
 (T_spec_EndOf_lp0 N code3 K0 K1 n (isub .i64 (iadd .i64 d4 (1 : Int)) (1 : Int)) (iadd .i64 k5 (1 : Int))))
 else
 (bif (iadd .i64 d4 (1 : Int)) == (0 : Int) then
 (K0 k5)
 else
 (T_spec_EndOf_lp0 N code3 K0 K1 n (iadd .i64 d4 (1 : Int)) (iadd .i64 k5 (1 : Int))))) else none)
 else
 (bif inb k5 (List.length code3) then
 (bif (List.getD code3 (Int.toNat k5) ((0 : Int), ((0 : Int), ((0 : Int), (0 : Int))))).1 == (9 : Int) then
 (bif (isub .i64 d4 (1 : Int)) == (0 : Int) then
 (K0 k5)
 else
 (T_spec_EndOf_lp0 N code3 K0 K1 n (isub .i64 d4 (1 : Int)) (iadd .i64 k5 (1 : Int))))
 else
 (bif d4 == (0 : Int) then
 (K0 k5)
 else
 (T_spec_EndOf_lp0 N code3 K0 K1 n d4 (iadd .i64 k5 (1 : Int))))) else none)) else none)
 else
 (K1 d4 k5 (decide (k5 < (ilen code3)))))

noncomputable def T_spec_EndOf (N : Nat) (code1 : List (Int × Int × Int × Int)) (i2 : Int) : Option (Unit × (Int × Unit)) :=
    (bif decide (i2 < (0 : Int)) then
 (some ((), ((-1 : Int), ())))
 else
 (bif decide (i2 ≥ (ilen code1)) then
 (some ((), ((-1 : Int), ())))
 else
 (bif inb i2 (List.length code1) then
 (bif (List.getD code1 (Int.toNat i2) ((0 : Int), ((0 : Int), ((0 : Int), (0 : Int))))).1 != (8 : Int) then
 (some ((), ((-1 : Int), ())))
 else
 (T_spec_EndOf_lp0 N code1
 (fun t10 =>
   (some ((), (t10, ()))))
 (fun d11 k12 t13 =>
   (some ((), ((-1 : Int), ()))))
  N (0 : Int) i2)) else none)))

noncomputable def T_spec_Calc (N : Nat) (o1 : Int × Int × Int × Int) (regs2 : List Int) : Option (Unit × ((List Int) × (Bool × Unit))) :=
    (bif room ((List.length ([] : List Int)) + (List.length regs2)) then
 ((T_spec_OpOk N o1).bind fun o3 =>
 (bif !o3.2.1 then
 (some ((), (List.append ([] : List Int) regs2, (false, ()))))
 else
 ((T_spec_l4Regs N regs2).bind fun o4 =>
 (bif !o4.2.1 then
 (some ((), (List.append ([] : List Int) regs2, (false, ()))))
 else
 (bif decide (o1.1 > (4 : Int)) then
 (some ((), (List.append ([] : List Int) regs2, (false, ()))))
 else
 (bif o1.1 == (1 : Int) then
 (bif inb o1.2.1 (List.length (List.append ([] : List Int) regs2)) then
 (some ((), (List.set (List.append ([] : List Int) regs2) (Int.toNat o1.2.1) o1.2.2.1, (true, ())))) else none)
 else
 (bif inb o1.2.2.1 (List.length regs2) then
 (bif inb o1.2.2.2 (List.length regs2) then
 (bif o1.1 == (2 : Int) then
 (bif inz (65536 : Int) then
 (bif inb o1.2.1 (List.length (List.append ([] : List Int) regs2)) then
 (some ((), (List.set (List.append ([] : List Int) regs2) (Int.toNat o1.2.1) (irem (iadd .i64 (List.getD regs2 (Int.toNat o1.2.2.1) (0 : Int)) (List.getD regs2 (Int.toNat o1.2.2.2) (0 : Int))) (65536 : Int)), (true, ())))) else none) else none)
 else
 (bif o1.1 == (3 : Int) then
 (bif inz (65536 : Int) then
 (bif inb o1.2.1 (List.length (List.append ([] : List Int) regs2)) then
 (some ((), (List.set (List.append ([] : List Int) regs2) (Int.toNat o1.2.1) (irem (iadd .i64 (isub .i64 (List.getD regs2 (Int.toNat o1.2.2.1) (0 : Int)) (List.getD regs2 (Int.toNat o1.2.2.2) (0 : Int))) (65536 : Int)) (65536 : Int)), (true, ())))) else none) else none)
 else
 (bif inb o1.2.1 (List.length (List.append ([] : List Int) regs2)) then
 (bif decide ((List.getD regs2 (Int.toNat o1.2.2.1) (0 : Int)) < (List.getD regs2 (Int.toNat o1.2.2.2) (0 : Int))) then
 (bif inb o1.2.1 (List.length (List.set (List.append ([] : List Int) regs2) (Int.toNat o1.2.1) (0 : Int))) then
 (share (List.set (List.append ([] : List Int) regs2) (Int.toNat o1.2.1) (0 : Int)) fun s5 =>
 (some ((), (List.set s5 (Int.toNat o1.2.1) (1 : Int), (true, ()))))) else none)
 else
 (some ((), (List.set (List.append ([] : List Int) regs2) (Int.toNat o1.2.1) (0 : Int), (true, ()))))) else none))) else none) else none))))))) else none)

noncomputable def T_spec_EagerRun_lp0 {R : Type} (N : Nat) (code9 : List (Int × Int × Int × Int)) (K0 : Int → (List Int) → (List Int) → (List (Int × Int)) → Option R) (K1 : Int → Bool → Int → (List (Int × List Int × Int)) → (List Int) → (List Int) → (List (Int × Int)) → Option R) : Nat → Int → Int → (List (Int × List Int × Int)) → (List Int) → (List Int) → (List (Int × Int)) → Option R
  | 0, _, _, _, _, _, _ => none
  | n + 1, pc10, b14, l15, l16, l17, l18 =>
    (bif decide (pc10 < (ilen code9)) then
 (bif inb pc10 (List.length code9) then
 (bif (List.getD code9 (Int.toNat pc10) ((0 : Int), ((0 : Int), ((0 : Int), (0 : Int))))).1 == (5 : Int) then
 (bif inb (List.getD code9 (Int.toNat pc10) ((0 : Int), ((0 : Int), ((0 : Int), (0 : Int))))).2.2.1 (List.length l17) then
 (bif inb (List.getD code9 (Int.toNat pc10) ((0 : Int), ((0 : Int), ((0 : Int), (0 : Int))))).2.1 (List.length l16) then
 (T_spec_EagerRun_lp0 N code9 K0 K1 n (iadd .i64 pc10 (1 : Int)) b14 l15 (List.set l16 (Int.toNat (List.getD code9 (Int.toNat pc10) ((0 : Int), ((0 : Int), ((0 : Int), (0 : Int))))).2.1) (List.getD l17 (Int.toNat (List.getD code9 (Int.toNat pc10) ((0 : Int), ((0 : Int), ((0 : Int), (0 : Int))))).2.2.1) (0 : Int))) l17 l18) else none) else none)
 else
 (bif (List.getD code9 (Int.toNat pc10) ((0 : Int), ((0 : Int), ((0 : Int), (0 : Int))))).1 == (6 : Int) then
 (bif inb (List.getD code9 (Int.toNat pc10) ((0 : Int), ((0 : Int), ((0 : Int), (0 : Int))))).2.1 (List.length l17) then
 (bif room ((List.length l18) + (List.length ([((List.getD code9 (Int.toNat pc10) ((0 : Int), ((0 : Int), ((0 : Int), (0 : Int))))).2.1, List.getD l17 (Int.toNat (List.getD code9 (Int.toNat pc10) ((0 : Int), ((0 : Int), ((0 : Int), (0 : Int))))).2.1) (0 : Int))]))) then
 (bif inb (List.getD code9 (Int.toNat pc10) ((0 : Int), ((0 : Int), ((0 : Int), (0 : Int))))).2.2.1 (List.length l16) then
 (bif inb (List.getD code9 (Int.toNat pc10) ((0 : Int), ((0 : Int), ((0 : Int), (0 : Int))))).2.1 (List.length l17) then
 (T_spec_EagerRun_lp0 N code9 K0 K1 n (iadd .i64 pc10 (1 : Int)) b14 l15 l16 (List.set l17 (Int.toNat (List.getD code9 (Int.toNat pc10) ((0 : Int), ((0 : Int), ((0 : Int), (0 : Int))))).2.1) (List.getD l16 (Int.toNat (List.getD code9 (Int.toNat pc10) ((0 : Int), ((0 : Int), ((0 : Int), (0 : Int))))).2.2.1) (0 : Int))) (List.append l18 ([((List.getD code9 (Int.toNat pc10) ((0 : Int), ((0 : Int), ((0 : Int), (0 : Int))))).2.1, List.getD l17 (Int.toNat (List.getD code9 (Int.toNat pc10) ((0 : Int), ((0 : Int), ((0 : Int), (0 : Int))))).2.1) (0 : Int))]))) else none) else none) else none) else none)
 else
 (bif (List.getD code9 (Int.toNat pc10) ((0 : Int), ((0 : Int), ((0 : Int), (0 : Int))))).1 == (7 : Int) then
 (bif inb (List.getD code9 (Int.toNat pc10) ((0 : Int), ((0 : Int), ((0 : Int), (0 : Int))))).2.1 (List.length l16) then
 (bif (List.getD l16 (Int.toNat (List.getD code9 (Int.toNat pc10) ((0 : Int), ((0 : Int), ((0 : Int), (0 : Int))))).2.1) (0 : Int)) == (0 : Int) then
 (T_spec_EagerRun_lp0 N code9 K0 K1 n (iadd .i64 (iadd .i64 pc10 (1 : Int)) (List.getD code9 (Int.toNat pc10) ((0 : Int), ((0 : Int), ((0 : Int), (0 : Int))))).2.2.1) b14 l15 l16 l17 l18)
 else
 (T_spec_EagerRun_lp0 N code9 K0 K1 n (iadd .i64 pc10 (1 : Int)) b14 l15 l16 l17 l18)) else none)
 else
 (bif (List.getD code9 (Int.toNat pc10) ((0 : Int), ((0 : Int), ((0 : Int), (0 : Int))))).1 == (8 : Int) then
 ((T_spec_l15Ints N l16).bind fun o46 =>
 (bif room ((List.length l15) + (List.length ([(pc10, (o46.2.1, ilen l18))]))) then
 (T_spec_EagerRun_lp0 N code9 K0 K1 n (iadd .i64 pc10 (1 : Int)) b14 (List.append l15 ([(pc10, (o46.2.1, ilen l18))])) l16 l17 l18) else none))
 else
 (bif (List.getD code9 (Int.toNat pc10) ((0 : Int), ((0 : Int), ((0 : Int), (0 : Int))))).1 == (9 : Int) then
 (bif inb (isub .i64 (ilen l15) (1 : Int)) (List.length l15) then
 (bif (decide ((0 : Int) ≤ (isub .i64 (ilen l15) (1 : Int)))) && (decide ((isub .i64 (ilen l15) (1 : Int)) ≤ ((List.length l15) : Int))) then
 (bif inb (List.getD l15 (Int.toNat (isub .i64 (ilen l15) (1 : Int))) ((0 : Int), (([] : List Int), (0 : Int)))).1 (List.length code9) then
 (bif inb (List.getD code9 (Int.toNat (List.getD l15 (Int.toNat (isub .i64 (ilen l15) (1 : Int))) ((0 : Int), (([] : List Int), (0 : Int)))).1) ((0 : Int), ((0 : Int), ((0 : Int), (0 : Int))))).2.1 (List.length l16) then
 (T_spec_EagerRun_lp0 N code9 K0 K1 n (iadd .i64 pc10 (1 : Int)) b14 (List.take (Int.toNat (isub .i64 (ilen l15) (1 : Int))) l15) (List.set l16 (Int.toNat (List.getD code9 (Int.toNat (List.getD l15 (Int.toNat (isub .i64 (ilen l15) (1 : Int))) ((0 : Int), (([] : List Int), (0 : Int)))).1) ((0 : Int), ((0 : Int), ((0 : Int), (0 : Int))))).2.1) (1 : Int)) l17 l18) else none) else none) else none) else none)
 else
 (bif (List.getD code9 (Int.toNat pc10) ((0 : Int), ((0 : Int), ((0 : Int), (0 : Int))))).1 == (10 : Int) then
 (bif decide ((ilen l15) > (0 : Int)) then
 (bif inb (isub .i64 (ilen l15) (1 : Int)) (List.length l15) then
 ((T_spec_EagerCut N l17 l18 (List.getD l15 (Int.toNat (isub .i64 (ilen l15) (1 : Int))) ((0 : Int), (([] : List Int), (0 : Int)))).2.2).bind fun o47 =>
 (bif (ilen l15) == (0 : Int) then
 (K0 (isub .i64 (iadd .i64 b14 (ilen l18)) (List.getD l15 (Int.toNat (isub .i64 (ilen l15) (1 : Int))) ((0 : Int), (([] : List Int), (0 : Int)))).2.2) l16 o47.2.1 o47.2.2.1)
 else
 (bif inb (isub .i64 (ilen l15) (1 : Int)) (List.length l15) then
 (bif (decide ((0 : Int) ≤ (isub .i64 (ilen l15) (1 : Int)))) && (decide ((isub .i64 (ilen l15) (1 : Int)) ≤ ((List.length l15) : Int))) then
 ((T_spec_l15Ints N (List.getD l15 (Int.toNat (isub .i64 (ilen l15) (1 : Int))) ((0 : Int), (([] : List Int), (0 : Int)))).2.1).bind fun o48 =>
 (bif inb (List.getD l15 (Int.toNat (isub .i64 (ilen l15) (1 : Int))) ((0 : Int), (([] : List Int), (0 : Int)))).1 (List.length code9) then
 (bif inb (List.getD code9 (Int.toNat (List.getD l15 (Int.toNat (isub .i64 (ilen l15) (1 : Int))) ((0 : Int), (([] : List Int), (0 : Int)))).1) ((0 : Int), ((0 : Int), ((0 : Int), (0 : Int))))).2.1 (List.length o48.2.1) then
 ((T_spec_EndOf N code9 (List.getD l15 (Int.toNat (isub .i64 (ilen l15) (1 : Int))) ((0 : Int), (([] : List Int), (0 : Int)))).1).bind fun o49 =>
 (T_spec_EagerRun_lp0 N code9 K0 K1 n (iadd .i64 o49.2.1 (1 : Int)) (isub .i64 (iadd .i64 b14 (ilen l18)) (List.getD l15 (Int.toNat (isub .i64 (ilen l15) (1 : Int))) ((0 : Int), (([] : List Int), (0 : Int)))).2.2) (List.take (Int.toNat (isub .i64 (ilen l15) (1 : Int))) l15) (List.set o48.2.1 (Int.toNat (List.getD code9 (Int.toNat (List.getD l15 (Int.toNat (isub .i64 (ilen l15) (1 : Int))) ((0 : Int), (([] : List Int), (0 : Int)))).1) ((0 : Int), ((0 : Int), ((0 : Int), (0 : Int))))).2.1) (0 : Int)) o47.2.1 o47.2.2.1)) else none) else none)) else none) else none))) else none)
 else
 ((T_spec_EagerCut N l17 l18 (0 : Int)).bind fun o50 =>
 (bif (ilen l15) == (0 : Int) then
 (K0 (isub .i64 (iadd .i64 b14 (ilen l18)) (0 : Int)) l16 o50.2.1 o50.2.2.1)
 else
 (bif inb (isub .i64 (ilen l15) (1 : Int)) (List.length l15) then
 (bif (decide ((0 : Int) ≤ (isub .i64 (ilen l15) (1 : Int)))) && (decide ((isub .i64 (ilen l15) (1 : Int)) ≤ ((List.length l15) : Int))) then
 ((T_spec_l15Ints N (List.getD l15 (Int.toNat (isub .i64 (ilen l15) (1 : Int))) ((0 : Int), (([] : List Int), (0 : Int)))).2.1).bind fun o51 =>
 (bif inb (List.getD l15 (Int.toNat (isub .i64 (ilen l15) (1 : Int))) ((0 : Int), (([] : List Int), (0 : Int)))).1 (List.length code9) then
 (bif inb (List.getD code9 (Int.toNat (List.getD l15 (Int.toNat (isub .i64 (ilen l15) (1 : Int))) ((0 : Int), (([] : List Int), (0 : Int)))).1) ((0 : Int), ((0 : Int), ((0 : Int), (0 : Int))))).2.1 (List.length o51.2.1) then
 ((T_spec_EndOf N code9 (List.getD l15 (Int.toNat (isub .i64 (ilen l15) (1 : Int))) ((0 : Int), (([] : List Int), (0 : Int)))).1).bind fun o52 =>
 (T_spec_EagerRun_lp0 N code9 K0 K1 n (iadd .i64 o52.2.1 (1 : Int)) (isub .i64 (iadd .i64 b14 (ilen l18)) (0 : Int)) (List.take (Int.toNat (isub .i64 (ilen l15) (1 : Int))) l15) (List.set o51.2.1 (Int.toNat (List.getD code9 (Int.toNat (List.getD l15 (Int.toNat (isub .i64 (ilen l15) (1 : Int))) ((0 : Int), (([] : List Int), (0 : Int)))).1) ((0 : Int), ((0 : Int), ((0 : Int), (0 : Int))))).2.1) (0 : Int)) o50.2.1 o50.2.2.1)) else none) else none)) else none) else none))))
 else
 ((T_spec_Calc N (List.getD code9 (Int.toNat pc10) ((0 : Int), ((0 : Int), ((0 : Int), (0 : Int))))) l16).bind fun o53 =>
 (T_spec_EagerRun_lp0 N code9 K0 K1 n (iadd .i64 pc10 (1 : Int)) b14 l15 o53.2.1 l17 l18)))))))) else none)
 else
 (K1 pc10 (decide (pc10 < (ilen code9))) b14 l15 l16 l17 l18))

noncomputable def T_spec_EagerRun (N : Nat) (code1 : List (Int × Int × Int × Int)) (regs2 : List Int) (cells3 : List Int) : Option (Unit × ((Int × List Int × List Int × List (Int × Int) × Int) × Unit)) :=
    ((T_spec_KidOk N code1).bind fun o4 =>
 (bif !o4.2.1 then
 (some ((), (((0 : Int), (([] : List Int), (([] : List Int), (([] : List (Int × Int)), (0 : Int))))), ())))
 else
 ((T_spec_l4Regs N regs2).bind fun o5 =>
 (bif !o5.2.1 then
 (some ((), (((0 : Int), (([] : List Int), (([] : List Int), (([] : List (Int × Int)), (0 : Int))))), ())))
 else
 ((T_spec_l3Vals N cells3).bind fun o6 =>
 (bif !o6.2.1 then
 (some ((), (((0 : Int), (([] : List Int), (([] : List Int), (([] : List (Int × Int)), (0 : Int))))), ())))
 else
 ((T_spec_l15Ints N regs2).bind fun o7 =>
 ((T_spec_l15Ints N cells3).bind fun o8 =>
 (T_spec_EagerRun_lp0 N code1
 (fun b54 l55 l56 l57 =>
   (some ((), (((2 : Int), (l55, (l56, (l57, b54)))), ()))))
 (fun pc58 t59 b60 l61 l62 l63 l64 =>
   (some ((), (((1 : Int), (l62, (l63, (l64, b60)))), ()))))
  N (0 : Int) (0 : Int) ([] : List (Int × List Int × Int)) o7.2.1 o8.2.1 ([] : List (Int × Int)))))))))))

noncomputable def T_impl_kidOf (N : Nat) (code1 : List (Int × Int × Int × Int)) (regs2 : List Int) (cells3 : List Int) : Option (Unit × ((List Int × List Int × List (Int × Int) × Int × List (Int × Int × List Int) × List Int) × (Bool × Unit))) :=
    ((T_impl_KidOk N code1).bind fun o4 =>
 (bif o4.2.1 then
 ((T_impl_areValues N regs2 (4 : Int)).bind fun o5 =>
 (bif o5.2.1 then
 ((T_impl_areValues N cells3 (8 : Int)).bind fun o6 =>
 ((T_impl_copyInts N regs2).bind fun o7 =>
 ((T_impl_copyInts N cells3).bind fun o8 =>
 (some ((), ((o7.2.1, (o8.2.1, (([] : List (Int × Int)), ((0 : Int), (([] : List (Int × Int × List Int)), ([] : List Int)))))), (o6.2.1, ())))))))
 else
 ((T_impl_copyInts N regs2).bind fun o9 =>
 ((T_impl_copyInts N cells3).bind fun o10 =>
 (some ((), ((o9.2.1, (o10.2.1, (([] : List (Int × Int)), ((0 : Int), (([] : List (Int × Int × List Int)), ([] : List Int)))))), (false, ()))))))))
 else
 ((T_impl_copyInts N regs2).bind fun o11 =>
 ((T_impl_copyInts N cells3).bind fun o12 =>
 (some ((), ((o11.2.1, (o12.2.1, (([] : List (Int × Int)), ((0 : Int), (([] : List (Int × Int × List Int)), ([] : List Int)))))), (false, ()))))))))

noncomputable def T_impl_eager_run_1 (N : Nat) (r1 : Int × Int) (a2 : Int × Int × Int × Int) : Option (((Int × Int × Int × Int) × Unit) × (Bool × Unit)) :=
    (some ((a2, ()), (r1.1 == a2.2.2.1, ())))

noncomputable def T_slices_IndexFunc___impl_Row_impl_Row___impl_eager_run_1_lp0 {R : Type} (N : Nat) (s3 : List (Int × Int)) (K0 : Int → (Int × Int × Int × Int) → Option R) (K1 : Int → Bool → (Int × Int × Int × Int) → Option R) : Nat → Int → (Int × Int × Int × Int) → Option R
  | 0, _, _ => none
  | n + 1, t5, b6 =>
    (bif decide (t5 < (ilen s3)) then
 (bif inb t5 (List.length s3) then
 ((T_impl_eager_run_1 N (List.getD s3 (Int.toNat t5) ((0 : Int), (0 : Int))) b6).bind fun o14 =>
 (bif o14.2.1 then
 (K0 t5 o14.1.1)
 else
 (T_slices_IndexFunc___impl_Row_impl_Row___impl_eager_run_1_lp0 N s3 K0 K1 n (iadd .i64 t5 (1 : Int)) o14.1.1))) else none)
 else
 (K1 t5 (decide (t5 < (ilen s3))) b6))

noncomputable def T_slices_IndexFunc___impl_Row_impl_Row___impl_eager_run_1 (N : Nat) (s1 : List (Int × Int)) (cap2 : Int × Int × Int × Int) : Option (((Int × Int × Int × Int) × Unit) × (Int × Unit)) :=
    (T_slices_IndexFunc___impl_Row_impl_Row___impl_eager_run_1_lp0 N s1
 (fun t15 b16 =>
   (some ((b16, ()), (t15, ()))))
 (fun t17 t18 b19 =>
   (some ((b19, ()), ((-1 : Int), ()))))
  N (0 : Int) cap2)

noncomputable def T_slices_ContainsFunc___impl_Row_impl_Row___impl_eager_run_1 (N : Nat) (s1 : List (Int × Int)) (cap2 : Int × Int × Int × Int) : Option (((Int × Int × Int × Int) × Unit) × (Bool × Unit)) :=
    ((T_slices_IndexFunc___impl_Row_impl_Row___impl_eager_run_1 N s1 cap2).bind fun o3 =>
 (some ((o3.1.1, ()), (decide (o3.2.1 ≥ (0 : Int)), ()))))

noncomputable def T_impl_eager_cut (N : Nat) (e1 : List Int × List Int × List (Int × Int) × Int × List (Int × Int × List Int) × List Int) (n2 : Int) : Option (((List Int × List Int × List (Int × Int) × Int × List (Int × Int × List Int) × List Int) × Unit) × Unit) :=
    ((T_impl_EagerCut N e1.2.1 e1.2.2.1 n2).bind fun o3 =>
 (some (((e1.1, (o3.2.1, (o3.2.2.1, (isub .i64 (iadd .i64 e1.2.2.2.1 (ilen e1.2.2.1)) n2, e1.2.2.2.2)))), ()), ())))

noncomputable def T_impl_eager_abort (N : Nat) (e1 : List Int × List Int × List (Int × Int) × Int × List (Int × Int × List Int) × List Int) (code2 : List (Int × Int × Int × Int)) : Option (((List Int × List Int × List (Int × Int) × Int × List (Int × Int × List Int) × List Int) × Unit) × (Int × Unit)) :=
    (bif decide ((isub .i64 (ilen e1.2.2.2.2.1) (1 : Int)) < (0 : Int)) then
 ((T_impl_eager_cut N e1 (0 : Int)).bind fun o3 =>
 (some ((o3.1.1, ()), ((-1 : Int), ()))))
 else
 (bif inb (isub .i64 (ilen e1.2.2.2.2.1) (1 : Int)) (List.length e1.2.2.2.2.1) then
 (bif ((decide ((0 : Int) ≤ (isub .i64 (ilen e1.2.2.2.2.1) (1 : Int)))) && (decide ((isub .i64 (ilen e1.2.2.2.2.1) (1 : Int)) ≤ ((List.length e1.2.2.2.2.1) : Int)))) && (decide ((isub .i64 (ilen e1.2.2.2.2.1) (1 : Int)) ≤ ((Int.toNat (isub .i64 (ilen e1.2.2.2.2.1) (1 : Int))) : Int))) then
 ((T_impl_eager_cut N (e1.1, (e1.2.1, (e1.2.2.1, (e1.2.2.2.1, (List.take (Int.toNat (isub .i64 (ilen e1.2.2.2.2.1) (1 : Int))) e1.2.2.2.2.1, e1.2.2.2.2.2))))) (List.getD e1.2.2.2.2.1 (Int.toNat (isub .i64 (ilen e1.2.2.2.2.1) (1 : Int))) ((0 : Int), ((0 : Int), ([] : List Int)))).2.1).bind fun o4 =>
 (bif inb (List.getD e1.2.2.2.2.1 (Int.toNat (isub .i64 (ilen e1.2.2.2.2.1) (1 : Int))) ((0 : Int), ((0 : Int), ([] : List Int)))).1 (List.length code2) then
 (bif inb (List.getD code2 (Int.toNat (List.getD e1.2.2.2.2.1 (Int.toNat (isub .i64 (ilen e1.2.2.2.2.1) (1 : Int))) ((0 : Int), ((0 : Int), ([] : List Int)))).1) ((0 : Int), ((0 : Int), ((0 : Int), (0 : Int))))).2.1 (List.length (List.getD e1.2.2.2.2.1 (Int.toNat (isub .i64 (ilen e1.2.2.2.2.1) (1 : Int))) ((0 : Int), ((0 : Int), ([] : List Int)))).2.2) then
 (some (((List.set (List.getD e1.2.2.2.2.1 (Int.toNat (isub .i64 (ilen e1.2.2.2.2.1) (1 : Int))) ((0 : Int), ((0 : Int), ([] : List Int)))).2.2 (Int.toNat (List.getD code2 (Int.toNat (List.getD e1.2.2.2.2.1 (Int.toNat (isub .i64 (ilen e1.2.2.2.2.1) (1 : Int))) ((0 : Int), ((0 : Int), ([] : List Int)))).1) ((0 : Int), ((0 : Int), ((0 : Int), (0 : Int))))).2.1) (0 : Int), o4.1.1.2), ()), ((List.getD e1.2.2.2.2.1 (Int.toNat (isub .i64 (ilen e1.2.2.2.2.1) (1 : Int))) ((0 : Int), ((0 : Int), ([] : List Int)))).1, ()))) else none) else none)) else none) else none))

noncomputable def T_impl_EndOf_lp0 {R : Type} (N : Nat) (code4 : List (Int × Int × Int × Int)) (K0 : Int → Option R) (K1 : Int → Int → Bool → Option R) : Nat → Int → Int → Option R
  | 0, _, _ => none
  | n + 1, n5, k6 =>
    (bif decide (k6 < (ilen code4)) then
 (bif inb k6 (List.length code4) then
 ((T_impl_opens N (List.getD code4 (Int.toNat k6) ((0 : Int), ((0 : Int), ((0 : Int), (0 : Int)))))).bind fun o12 =>
 (bif (iadd .i64 n5 o12.2.1) == (0 : Int) then
 (K0 k6)
 else
 (T_impl_EndOf_lp0 N code4 K0 K1 n (iadd .i64 n5 o12.2.1) (iadd .i64 k6 (1 : Int))))) else none)
 else
 (K1 n5 k6 (decide (k6 < (ilen code4)))))

noncomputable def T_impl_EndOf (N : Nat) (code1 : List (Int × Int × Int × Int)) (i2 : Int) : Option (Unit × (Int × Unit)) :=
    ((T_impl_within N i2 (0 : Int) (isub .i64 (ilen code1) (1 : Int))).bind fun o3 =>
 (bif !o3.2.1 then
 (some ((), ((-1 : Int), ())))
 else
 (bif inb i2 (List.length code1) then
 (bif (List.getD code1 (Int.toNat i2) ((0 : Int), ((0 : Int), ((0 : Int), (0 : Int))))).1 != (8 : Int) then
 (some ((), ((-1 : Int), ())))
 else
 (T_impl_EndOf_lp0 N code1
 (fun t13 =>
   (some ((), (t13, ()))))
 (fun n14 k15 t16 =>
   (some ((), ((-1 : Int), ()))))
  N (0 : Int) i2)) else none)))

noncomputable def T_impl_Calc (N : Nat) (o1 : Int × Int × Int × Int) (regs2 : List Int) : Option (Unit × ((List Int) × (Bool × Unit))) :=
    ((T_impl_copyInts N regs2).bind fun o3 =>
 ((T_impl_OpOk N o1).bind fun o4 =>
 (bif !o4.2.1 then
 (some ((), (o3.2.1, (false, ()))))
 else
 (bif decide (o1.1 > (4 : Int)) then
 (some ((), (o3.2.1, (false, ()))))
 else
 ((T_impl_areValues N regs2 (4 : Int)).bind fun o5 =>
 (bif !o5.2.1 then
 (some ((), (o3.2.1, (false, ()))))
 else
 (bif o1.1 == (1 : Int) then
 (bif inb o1.2.1 (List.length o3.2.1) then
 (some ((), (List.set o3.2.1 (Int.toNat o1.2.1) o1.2.2.1, (true, ())))) else none)
 else
 (bif o1.1 == (2 : Int) then
 (bif inb o1.2.2.1 (List.length regs2) then
 (bif inb o1.2.2.2 (List.length regs2) then
 (bif inz (65536 : Int) then
 (bif inb o1.2.1 (List.length o3.2.1) then
 (some ((), (List.set o3.2.1 (Int.toNat o1.2.1) (irem (iadd .i64 (List.getD regs2 (Int.toNat o1.2.2.1) (0 : Int)) (List.getD regs2 (Int.toNat o1.2.2.2) (0 : Int))) (65536 : Int)), (true, ())))) else none) else none) else none) else none)
 else
 (bif o1.1 == (3 : Int) then
 (bif inb o1.2.2.1 (List.length regs2) then
 (bif inb o1.2.2.2 (List.length regs2) then
 (bif inz (65536 : Int) then
 (bif inb o1.2.1 (List.length o3.2.1) then
 (some ((), (List.set o3.2.1 (Int.toNat o1.2.1) (irem (iadd .i64 (isub .i64 (List.getD regs2 (Int.toNat o1.2.2.1) (0 : Int)) (List.getD regs2 (Int.toNat o1.2.2.2) (0 : Int))) (65536 : Int)) (65536 : Int)), (true, ())))) else none) else none) else none) else none)
 else
 (bif inb o1.2.1 (List.length o3.2.1) then
 (bif inb o1.2.2.1 (List.length regs2) then
 (bif inb o1.2.2.2 (List.length regs2) then
 (bif decide ((List.getD regs2 (Int.toNat o1.2.2.1) (0 : Int)) < (List.getD regs2 (Int.toNat o1.2.2.2) (0 : Int))) then
 (bif inb o1.2.1 (List.length (List.set o3.2.1 (Int.toNat o1.2.1) (0 : Int))) then
 (share (List.set o3.2.1 (Int.toNat o1.2.1) (0 : Int)) fun s6 =>
 (some ((), (List.set s6 (Int.toNat o1.2.1) (1 : Int), (true, ()))))) else none)
 else
 (some ((), (List.set o3.2.1 (Int.toNat o1.2.1) (0 : Int), (true, ()))))) else none) else none) else none))))))))))

noncomputable def T_impl_eager_run_lp0 {R : Type} (N : Nat) (code3 : List (Int × Int × Int × Int)) (K0 : Int → (List Int) → (List Int) → (List (Int × Int)) → (List (Int × Int × List Int)) → (List Int) → Option R) (K1 : Int → Bool → Int → (List Int) → (List Int) → (List (Int × Int)) → (List (Int × Int × List Int)) → (List Int) → Option R) : Nat → Int → Int → (List Int) → (List Int) → (List (Int × Int)) → (List (Int × Int × List Int)) → (List Int) → Option R
  | 0, _, _, _, _, _, _, _ => none
  | n + 1, i4, b5, l6, l7, l8, l9, l10 =>
    (bif decide (i4 < (ilen code3)) then
 (bif inb i4 (List.length code3) then
 (bif (List.getD code3 (Int.toNat i4) ((0 : Int), ((0 : Int), ((0 : Int), (0 : Int))))).1 == (5 : Int) then
 ((T_slices_ContainsFunc___impl_Row_impl_Row___impl_eager_run_1 N l8 (List.getD code3 (Int.toNat i4) ((0 : Int), ((0 : Int), ((0 : Int), (0 : Int)))))).bind fun o30 =>
 (bif !o30.2.1 then
 (bif room ((List.length l10) + (List.length ([o30.1.1.2.2.1]))) then
 (bif inb o30.1.1.2.2.1 (List.length l7) then
 (bif inb o30.1.1.2.1 (List.length l6) then
 (T_impl_eager_run_lp0 N code3 K0 K1 n (iadd .i64 i4 (1 : Int)) b5 (List.set l6 (Int.toNat o30.1.1.2.1) (List.getD l7 (Int.toNat o30.1.1.2.2.1) (0 : Int))) l7 l8 l9 (List.append l10 ([o30.1.1.2.2.1]))) else none) else none) else none)
 else
 (bif inb o30.1.1.2.2.1 (List.length l7) then
 (bif inb o30.1.1.2.1 (List.length l6) then
 (T_impl_eager_run_lp0 N code3 K0 K1 n (iadd .i64 i4 (1 : Int)) b5 (List.set l6 (Int.toNat o30.1.1.2.1) (List.getD l7 (Int.toNat o30.1.1.2.2.1) (0 : Int))) l7 l8 l9 l10) else none) else none)))
 else
 (bif (List.getD code3 (Int.toNat i4) ((0 : Int), ((0 : Int), ((0 : Int), (0 : Int))))).1 == (6 : Int) then
 (bif inb (List.getD code3 (Int.toNat i4) ((0 : Int), ((0 : Int), ((0 : Int), (0 : Int))))).2.1 (List.length l7) then
 (bif room ((List.length l8) + (List.length ([((List.getD code3 (Int.toNat i4) ((0 : Int), ((0 : Int), ((0 : Int), (0 : Int))))).2.1, List.getD l7 (Int.toNat (List.getD code3 (Int.toNat i4) ((0 : Int), ((0 : Int), ((0 : Int), (0 : Int))))).2.1) (0 : Int))]))) then
 (bif inb (List.getD code3 (Int.toNat i4) ((0 : Int), ((0 : Int), ((0 : Int), (0 : Int))))).2.2.1 (List.length l6) then
 (bif inb (List.getD code3 (Int.toNat i4) ((0 : Int), ((0 : Int), ((0 : Int), (0 : Int))))).2.1 (List.length l7) then
 (T_impl_eager_run_lp0 N code3 K0 K1 n (iadd .i64 i4 (1 : Int)) b5 l6 (List.set l7 (Int.toNat (List.getD code3 (Int.toNat i4) ((0 : Int), ((0 : Int), ((0 : Int), (0 : Int))))).2.1) (List.getD l6 (Int.toNat (List.getD code3 (Int.toNat i4) ((0 : Int), ((0 : Int), ((0 : Int), (0 : Int))))).2.2.1) (0 : Int))) (List.append l8 ([((List.getD code3 (Int.toNat i4) ((0 : Int), ((0 : Int), ((0 : Int), (0 : Int))))).2.1, List.getD l7 (Int.toNat (List.getD code3 (Int.toNat i4) ((0 : Int), ((0 : Int), ((0 : Int), (0 : Int))))).2.1) (0 : Int))])) l9 l10) else none) else none) else none) else none)
 else
 (bif (List.getD code3 (Int.toNat i4) ((0 : Int), ((0 : Int), ((0 : Int), (0 : Int))))).1 == (7 : Int) then
 (bif inb (List.getD code3 (Int.toNat i4) ((0 : Int), ((0 : Int), ((0 : Int), (0 : Int))))).2.1 (List.length l6) then
 (bif (List.getD l6 (Int.toNat (List.getD code3 (Int.toNat i4) ((0 : Int), ((0 : Int), ((0 : Int), (0 : Int))))).2.1) (0 : Int)) == (0 : Int) then
 (T_impl_eager_run_lp0 N code3 K0 K1 n (iadd .i64 (iadd .i64 i4 (List.getD code3 (Int.toNat i4) ((0 : Int), ((0 : Int), ((0 : Int), (0 : Int))))).2.2.1) (1 : Int)) b5 l6 l7 l8 l9 l10)
 else
 (T_impl_eager_run_lp0 N code3 K0 K1 n (iadd .i64 i4 (1 : Int)) b5 l6 l7 l8 l9 l10)) else none)
 else
 (bif (List.getD code3 (Int.toNat i4) ((0 : Int), ((0 : Int), ((0 : Int), (0 : Int))))).1 == (8 : Int) then
 ((T_impl_copyInts N l6).bind fun o31 =>
 (bif room ((List.length l9) + (List.length ([(i4, (ilen l8, o31.2.1))]))) then
 (T_impl_eager_run_lp0 N code3 K0 K1 n (iadd .i64 i4 (1 : Int)) b5 l6 l7 l8 (List.append l9 ([(i4, (ilen l8, o31.2.1))])) l10) else none))
 else
 (bif (List.getD code3 (Int.toNat i4) ((0 : Int), ((0 : Int), ((0 : Int), (0 : Int))))).1 == (9 : Int) then
 (bif inb (isub .i64 (ilen l9) (1 : Int)) (List.length l9) then
 (bif (decide ((0 : Int) ≤ (isub .i64 (ilen l9) (1 : Int)))) && (decide ((isub .i64 (ilen l9) (1 : Int)) ≤ ((List.length l9) : Int))) then
 (bif inb (List.getD l9 (Int.toNat (isub .i64 (ilen l9) (1 : Int))) ((0 : Int), ((0 : Int), ([] : List Int)))).1 (List.length code3) then
 (bif inb (List.getD code3 (Int.toNat (List.getD l9 (Int.toNat (isub .i64 (ilen l9) (1 : Int))) ((0 : Int), ((0 : Int), ([] : List Int)))).1) ((0 : Int), ((0 : Int), ((0 : Int), (0 : Int))))).2.1 (List.length l6) then
 (T_impl_eager_run_lp0 N code3 K0 K1 n (iadd .i64 i4 (1 : Int)) b5 (List.set l6 (Int.toNat (List.getD code3 (Int.toNat (List.getD l9 (Int.toNat (isub .i64 (ilen l9) (1 : Int))) ((0 : Int), ((0 : Int), ([] : List Int)))).1) ((0 : Int), ((0 : Int), ((0 : Int), (0 : Int))))).2.1) (1 : Int)) l7 l8 (List.take (Int.toNat (isub .i64 (ilen l9) (1 : Int))) l9) l10) else none) else none) else none) else none)
 else
 (bif (List.getD code3 (Int.toNat i4) ((0 : Int), ((0 : Int), ((0 : Int), (0 : Int))))).1 == (10 : Int) then
 ((T_impl_eager_abort N (l6, (l7, (l8, (b5, (l9, l10))))) code3).bind fun o32 =>
 (bif decide (o32.2.1 < (0 : Int)) then
 (K0 o32.1.1.2.2.2.1 o32.1.1.1 o32.1.1.2.1 o32.1.1.2.2.1 o32.1.1.2.2.2.2.1 o32.1.1.2.2.2.2.2)
 else
 ((T_impl_EndOf N code3 o32.2.1).bind fun o33 =>
 (T_impl_eager_run_lp0 N code3 K0 K1 n (iadd .i64 o33.2.1 (1 : Int)) o32.1.1.2.2.2.1 o32.1.1.1 o32.1.1.2.1 o32.1.1.2.2.1 o32.1.1.2.2.2.2.1 o32.1.1.2.2.2.2.2))))
 else
 ((T_impl_Calc N (List.getD code3 (Int.toNat i4) ((0 : Int), ((0 : Int), ((0 : Int), (0 : Int))))) l6).bind fun o34 =>
 (T_impl_eager_run_lp0 N code3 K0 K1 n (iadd .i64 i4 (1 : Int)) b5 o34.2.1 l7 l8 l9 l10)))))))) else none)
 else
 (K1 i4 (decide (i4 < (ilen code3))) b5 l6 l7 l8 l9 l10))

noncomputable def T_impl_eager_run (N : Nat) (e1 : List Int × List Int × List (Int × Int) × Int × List (Int × Int × List Int) × List Int) (code2 : List (Int × Int × Int × Int)) : Option (((List Int × List Int × List (Int × Int) × Int × List (Int × Int × List Int) × List Int) × Unit) × (Int × Unit)) :=
    (T_impl_eager_run_lp0 N code2
 (fun b35 l36 l37 l38 l39 l40 =>
   (some (((l36, (l37, (l38, (b35, (l39, l40))))), ()), ((2 : Int), ()))))
 (fun i41 t42 b43 l44 l45 l46 l47 l48 =>
   (some (((l44, (l45, (l46, (b43, (l47, l48))))), ()), ((1 : Int), ()))))
  N (0 : Int) e1.2.2.2.1 e1.1 e1.2.1 e1.2.2.1 e1.2.2.2.2.1 e1.2.2.2.2.2)

noncomputable def T_impl_EagerRun (N : Nat) (code1 : List (Int × Int × Int × Int)) (regs2 : List Int) (cells3 : List Int) : Option (Unit × ((Int × List Int × List Int × List (Int × Int) × Int) × Unit)) :=
    ((T_impl_kidOf N code1 regs2 cells3).bind fun o4 =>
 (bif !o4.2.2.1 then
 (some ((), (((0 : Int), (([] : List Int), (([] : List Int), (([] : List (Int × Int)), (0 : Int))))), ())))
 else
 ((T_impl_eager_run N o4.2.1 code1).bind fun o5 =>
 (some ((), ((o5.2.1, (o5.1.1.1, (o5.1.1.2.1, (o5.1.1.2.2.1, o5.1.1.2.2.2.1)))), ()))))))

noncomputable def T_spec_l4DrawReg (N : Nat) (c1 : List Int × Int × Int) : Option (((List Int × Int × Int) × Unit) × (Int × Unit)) :=
    ((T_spec_l1Below N c1 (4 : Int)).bind fun o2 =>
 (some ((o2.1.1, ()), (o2.2.1, ()))))

noncomputable def T_spec_l4DrawKey (N : Nat) (c1 : List Int × Int × Int) : Option (((List Int × Int × Int) × Unit) × (Int × Unit)) :=
    ((T_spec_l1Once N c1 (4 : Int)).bind fun o2 =>
 (bif o2.2.1 then
 ((T_spec_l1Below N o2.1.1 (8 : Int)).bind fun o3 =>
 (some ((o3.1.1, ()), (o3.2.1, ()))))
 else
 ((T_spec_l1PickInt N o2.1.1 ([(0 : Int), (4 : Int), (1 : Int)])).bind fun o4 =>
 (some ((o4.1.1, ()), (o4.2.1, ()))))))

noncomputable def T_spec_l4Plain (N : Nat) (c1 : List Int × Int × Int) (kind2 : Int) : Option (((List Int × Int × Int) × Unit) × ((Int × Int × Int × Int) × Unit)) :=
    (bif kind2 == (1 : Int) then
 ((T_spec_l4DrawReg N c1).bind fun o3 =>
 ((T_spec_l3Draw N o3.1.1).bind fun o4 =>
 (some ((o4.1.1, ()), ((kind2, (o3.2.1, (o4.2.1, (0 : Int)))), ())))))
 else
 (bif kind2 == (2 : Int) then
 (bif kind2 == (2 : Int) then
 ((T_spec_l4DrawReg N c1).bind fun o5 =>
 ((T_spec_l4DrawReg N o5.1.1).bind fun o6 =>
 ((T_spec_l4DrawReg N o6.1.1).bind fun o7 =>
 (some ((o7.1.1, ()), ((kind2, (o5.2.1, (o6.2.1, o7.2.1))), ()))))))
 else
 (bif kind2 == (5 : Int) then
 ((T_spec_l4DrawReg N c1).bind fun o8 =>
 ((T_spec_l4DrawCell N o8.1.1).bind fun o9 =>
 (some ((o9.1.1, ()), ((kind2, (o8.2.1, (o9.2.1, (0 : Int)))), ())))))
 else
 (bif kind2 == (6 : Int) then
 ((T_spec_l4DrawCell N c1).bind fun o10 =>
 ((T_spec_l4DrawReg N o10.1.1).bind fun o11 =>
 (some ((o11.1.1, ()), ((kind2, (o10.2.1, (o11.2.1, (0 : Int)))), ())))))
 else
 (bif kind2 == (7 : Int) then
 ((T_spec_l4DrawReg N c1).bind fun o12 =>
 ((T_spec_l1Below N o12.1.1 (3 : Int)).bind fun o13 =>
 (some ((o13.1.1, ()), ((kind2, (o12.2.1, (iadd .i64 (1 : Int) o13.2.1, (0 : Int)))), ())))))
 else
 (bif kind2 == (8 : Int) then
 (bif kind2 == (8 : Int) then
 ((T_spec_l4DrawReg N c1).bind fun o14 =>
 (some ((o14.1.1, ()), ((kind2, (o14.2.1, ((0 : Int), (0 : Int)))), ()))))
 else
 (bif kind2 == (12 : Int) then
 ((T_spec_l4DrawKey N c1).bind fun o15 =>
 ((T_spec_l4DrawReg N o15.1.1).bind fun o16 =>
 ((T_spec_l4DrawReg N o16.1.1).bind fun o17 =>
 (some ((o17.1.1, ()), ((kind2, (o15.2.1, (o16.2.1, o17.2.1))), ()))))))
 else
 (bif kind2 == (13 : Int) then
 ((T_spec_l4DrawReg N c1).bind fun o18 =>
 ((T_spec_l4DrawKey N o18.1.1).bind fun o19 =>
 (some ((o19.1.1, ()), ((kind2, (o18.2.1, (o19.2.1, (0 : Int)))), ())))))
 else
 (bif kind2 == (14 : Int) then
 ((T_spec_l4DrawKey N c1).bind fun o20 =>
 ((T_spec_l4DrawReg N o20.1.1).bind fun o21 =>
 (some ((o21.1.1, ()), ((kind2, (o20.2.1, (o21.2.1, (0 : Int)))), ())))))
 else
 (some ((c1, ()), ((kind2, ((0 : Int), ((0 : Int), (0 : Int)))), ())))))))
 else
 (bif kind2 == (15 : Int) then
 (bif kind2 == (15 : Int) then
 ((T_spec_l4DrawReg N c1).bind fun o22 =>
 (some ((o22.1.1, ()), ((kind2, (o22.2.1, ((0 : Int), (0 : Int)))), ()))))
 else
 (bif kind2 == (12 : Int) then
 ((T_spec_l4DrawKey N c1).bind fun o23 =>
 ((T_spec_l4DrawReg N o23.1.1).bind fun o24 =>
 ((T_spec_l4DrawReg N o24.1.1).bind fun o25 =>
 (some ((o25.1.1, ()), ((kind2, (o23.2.1, (o24.2.1, o25.2.1))), ()))))))
 else
 (bif kind2 == (13 : Int) then
 ((T_spec_l4DrawReg N c1).bind fun o26 =>
 ((T_spec_l4DrawKey N o26.1.1).bind fun o27 =>
 (some ((o27.1.1, ()), ((kind2, (o26.2.1, (o27.2.1, (0 : Int)))), ())))))
 else
 (bif kind2 == (14 : Int) then
 ((T_spec_l4DrawKey N c1).bind fun o28 =>
 ((T_spec_l4DrawReg N o28.1.1).bind fun o29 =>
 (some ((o29.1.1, ()), ((kind2, (o28.2.1, (o29.2.1, (0 : Int)))), ())))))
 else
 (some ((c1, ()), ((kind2, ((0 : Int), ((0 : Int), (0 : Int)))), ())))))))
 else
 (bif kind2 == (16 : Int) then
 ((T_spec_l4DrawReg N c1).bind fun o30 =>
 (some ((o30.1.1, ()), ((kind2, (o30.2.1, ((0 : Int), (0 : Int)))), ()))))
 else
 (bif kind2 == (12 : Int) then
 ((T_spec_l4DrawKey N c1).bind fun o31 =>
 ((T_spec_l4DrawReg N o31.1.1).bind fun o32 =>
 ((T_spec_l4DrawReg N o32.1.1).bind fun o33 =>
 (some ((o33.1.1, ()), ((kind2, (o31.2.1, (o32.2.1, o33.2.1))), ()))))))
 else
 (bif kind2 == (13 : Int) then
 ((T_spec_l4DrawReg N c1).bind fun o34 =>
 ((T_spec_l4DrawKey N o34.1.1).bind fun o35 =>
 (some ((o35.1.1, ()), ((kind2, (o34.2.1, (o35.2.1, (0 : Int)))), ())))))
 else
 (bif kind2 == (14 : Int) then
 ((T_spec_l4DrawKey N c1).bind fun o36 =>
 ((T_spec_l4DrawReg N o36.1.1).bind fun o37 =>
 (some ((o37.1.1, ()), ((kind2, (o36.2.1, (o37.2.1, (0 : Int)))), ())))))
 else
 (some ((c1, ()), ((kind2, ((0 : Int), ((0 : Int), (0 : Int)))), ())))))))))))))
 else
 (bif kind2 == (3 : Int) then
 (bif kind2 == (3 : Int) then
 ((T_spec_l4DrawReg N c1).bind fun o38 =>
 ((T_spec_l4DrawReg N o38.1.1).bind fun o39 =>
 ((T_spec_l4DrawReg N o39.1.1).bind fun o40 =>
 (some ((o40.1.1, ()), ((kind2, (o38.2.1, (o39.2.1, o40.2.1))), ()))))))
 else
 (bif kind2 == (5 : Int) then
 ((T_spec_l4DrawReg N c1).bind fun o41 =>
 ((T_spec_l4DrawCell N o41.1.1).bind fun o42 =>
 (some ((o42.1.1, ()), ((kind2, (o41.2.1, (o42.2.1, (0 : Int)))), ())))))
 else
 (bif kind2 == (6 : Int) then
 ((T_spec_l4DrawCell N c1).bind fun o43 =>
 ((T_spec_l4DrawReg N o43.1.1).bind fun o44 =>
 (some ((o44.1.1, ()), ((kind2, (o43.2.1, (o44.2.1, (0 : Int)))), ())))))
 else
 (bif kind2 == (7 : Int) then
 ((T_spec_l4DrawReg N c1).bind fun o45 =>
 ((T_spec_l1Below N o45.1.1 (3 : Int)).bind fun o46 =>
 (some ((o46.1.1, ()), ((kind2, (o45.2.1, (iadd .i64 (1 : Int) o46.2.1, (0 : Int)))), ())))))
 else
 (bif kind2 == (8 : Int) then
 (bif kind2 == (8 : Int) then
 ((T_spec_l4DrawReg N c1).bind fun o47 =>
 (some ((o47.1.1, ()), ((kind2, (o47.2.1, ((0 : Int), (0 : Int)))), ()))))
 else
 (bif kind2 == (12 : Int) then
 ((T_spec_l4DrawKey N c1).bind fun o48 =>
 ((T_spec_l4DrawReg N o48.1.1).bind fun o49 =>
 ((T_spec_l4DrawReg N o49.1.1).bind fun o50 =>
 (some ((o50.1.1, ()), ((kind2, (o48.2.1, (o49.2.1, o50.2.1))), ()))))))
 else
 (bif kind2 == (13 : Int) then
 ((T_spec_l4DrawReg N c1).bind fun o51 =>
 ((T_spec_l4DrawKey N o51.1.1).bind fun o52 =>
 (some ((o52.1.1, ()), ((kind2, (o51.2.1, (o52.2.1, (0 : Int)))), ())))))
 else
 (bif kind2 == (14 : Int) then
 ((T_spec_l4DrawKey N c1).bind fun o53 =>
 ((T_spec_l4DrawReg N o53.1.1).bind fun o54 =>
 (some ((o54.1.1, ()), ((kind2, (o53.2.1, (o54.2.1, (0 : Int)))), ())))))
 else
 (some ((c1, ()), ((kind2, ((0 : Int), ((0 : Int), (0 : Int)))), ())))))))
 else
 (bif kind2 == (15 : Int) then
 (bif kind2 == (15 : Int) then
 ((T_spec_l4DrawReg N c1).bind fun o55 =>
 (some ((o55.1.1, ()), ((kind2, (o55.2.1, ((0 : Int), (0 : Int)))), ()))))
 else
 (bif kind2 == (12 : Int) then
 ((T_spec_l4DrawKey N c1).bind fun o56 =>
 ((T_spec_l4DrawReg N o56.1.1).bind fun o57 =>
 ((T_spec_l4DrawReg N o57.1.1).bind fun o58 =>
 (some ((o58.1.1, ()), ((kind2, (o56.2.1, (o57.2.1, o58.2.1))), ()))))))
 else
 (bif kind2 == (13 : Int) then
 ((T_spec_l4DrawReg N c1).bind fun o59 =>
 ((T_spec_l4DrawKey N o59.1.1).bind fun o60 =>
 (some ((o60.1.1, ()), ((kind2, (o59.2.1, (o60.2.1, (0 : Int)))), ())))))
 else
 (bif kind2 == (14 : Int) then
 ((T_spec_l4DrawKey N c1).bind fun o61 =>
 ((T_spec_l4DrawReg N o61.1.1).bind fun o62 =>
 (some ((o62.1.1, ()), ((kind2, (o61.2.1, (o62.2.1, (0 : Int)))), ())))))
 else
 (some ((c1, ()), ((kind2, ((0 : Int), ((0 : Int), (0 : Int)))), ())))))))
 else
 (bif kind2 == (16 : Int) then
 ((T_spec_l4DrawReg N c1).bind fun o63 =>
 (some ((o63.1.1, ()), ((kind2, (o63.2.1, ((0 : Int), (0 : Int)))), ()))))
 else
 (bif kind2 == (12 : Int) then
 ((T_spec_l4DrawKey N c1).bind fun o64 =>
 ((T_spec_l4DrawReg N o64.1.1).bind fun o65 =>
 ((T_spec_l4DrawReg N o65.1.1).bind fun o66 =>
 (some ((o66.1.1, ()), ((kind2, (o64.2.1, (o65.2.1, o66.2.1))), ()))))))
 else
 (bif kind2 == (13 : Int) then
 ((T_spec_l4DrawReg N c1).bind fun o67 =>
 ((T_spec_l4DrawKey N o67.1.1).bind fun o68 =>
 (some ((o68.1.1, ()), ((kind2, (o67.2.1, (o68.2.1, (0 : Int)))), ())))))
 else
 (bif kind2 == (14 : Int) then
 ((T_spec_l4DrawKey N c1).bind fun o69 =>
 ((T_spec_l4DrawReg N o69.1.1).bind fun o70 =>
 (some ((o70.1.1, ()), ((kind2, (o69.2.1, (o70.2.1, (0 : Int)))), ())))))
 else
 (some ((c1, ()), ((kind2, ((0 : Int), ((0 : Int), (0 : Int)))), ())))))))))))))
 else
 (bif kind2 == (4 : Int) then
 ((T_spec_l4DrawReg N c1).bind fun o71 =>
 ((T_spec_l4DrawReg N o71.1.1).bind fun o72 =>
 ((T_spec_l4DrawReg N o72.1.1).bind fun o73 =>
 (some ((o73.1.1, ()), ((kind2, (o71.2.1, (o72.2.1, o73.2.1))), ()))))))
 else
 (bif kind2 == (5 : Int) then
 ((T_spec_l4DrawReg N c1).bind fun o74 =>
 ((T_spec_l4DrawCell N o74.1.1).bind fun o75 =>
 (some ((o75.1.1, ()), ((kind2, (o74.2.1, (o75.2.1, (0 : Int)))), ())))))
 else
 (bif kind2 == (6 : Int) then
 ((T_spec_l4DrawCell N c1).bind fun o76 =>
 ((T_spec_l4DrawReg N o76.1.1).bind fun o77 =>
 (some ((o77.1.1, ()), ((kind2, (o76.2.1, (o77.2.1, (0 : Int)))), ())))))
 else
 (bif kind2 == (7 : Int) then
 ((T_spec_l4DrawReg N c1).bind fun o78 =>
 ((T_spec_l1Below N o78.1.1 (3 : Int)).bind fun o79 =>
 (some ((o79.1.1, ()), ((kind2, (o78.2.1, (iadd .i64 (1 : Int) o79.2.1, (0 : Int)))), ())))))
 else
 (bif kind2 == (8 : Int) then
 (bif kind2 == (8 : Int) then
 ((T_spec_l4DrawReg N c1).bind fun o80 =>
 (some ((o80.1.1, ()), ((kind2, (o80.2.1, ((0 : Int), (0 : Int)))), ()))))
 else
 (bif kind2 == (12 : Int) then
 ((T_spec_l4DrawKey N c1).bind fun o81 =>
 ((T_spec_l4DrawReg N o81.1.1).bind fun o82 =>
 ((T_spec_l4DrawReg N o82.1.1).bind fun o83 =>
 (some ((o83.1.1, ()), ((kind2, (o81.2.1, (o82.2.1, o83.2.1))), ()))))))
 else
 (bif kind2 == (13 : Int) then
 ((T_spec_l4DrawReg N c1).bind fun o84 =>
 ((T_spec_l4DrawKey N o84.1.1).bind fun o85 =>
 (some ((o85.1.1, ()), ((kind2, (o84.2.1, (o85.2.1, (0 : Int)))), ())))))
 else
 (bif kind2 == (14 : Int) then
 ((T_spec_l4DrawKey N c1).bind fun o86 =>
 ((T_spec_l4DrawReg N o86.1.1).bind fun o87 =>
 (some ((o87.1.1, ()), ((kind2, (o86.2.1, (o87.2.1, (0 : Int)))), ())))))
 else
 (some ((c1, ()), ((kind2, ((0 : Int), ((0 : Int), (0 : Int)))), ())))))))
 else
 (bif kind2 == (15 : Int) then
 (bif kind2 == (15 : Int) then
 ((T_spec_l4DrawReg N c1).bind fun o88 =>
 (some ((o88.1.1, ()), ((kind2, (o88.2.1, ((0 : Int), (0 : Int)))), ()))))
 else
 (bif kind2 == (12 : Int) then
 ((T_spec_l4DrawKey N c1).bind fun o89 =>
 ((T_spec_l4DrawReg N o89.1.1).bind fun o90 =>
 ((T_spec_l4DrawReg N o90.1.1).bind fun o91 =>
 (some ((o91.1.1, ()), ((kind2, (o89.2.1, (o90.2.1, o91.2.1))), ()))))))
 else
 (bif kind2 == (13 : Int) then
 ((T_spec_l4DrawReg N c1).bind fun o92 =>
 ((T_spec_l4DrawKey N o92.1.1).bind fun o93 =>
 (some ((o93.1.1, ()), ((kind2, (o92.2.1, (o93.2.1, (0 : Int)))), ())))))
 else
 (bif kind2 == (14 : Int) then
 ((T_spec_l4DrawKey N c1).bind fun o94 =>
 ((T_spec_l4DrawReg N o94.1.1).bind fun o95 =>
 (some ((o95.1.1, ()), ((kind2, (o94.2.1, (o95.2.1, (0 : Int)))), ())))))
 else
 (some ((c1, ()), ((kind2, ((0 : Int), ((0 : Int), (0 : Int)))), ())))))))
 else
 (bif kind2 == (16 : Int) then
 ((T_spec_l4DrawReg N c1).bind fun o96 =>
 (some ((o96.1.1, ()), ((kind2, (o96.2.1, ((0 : Int), (0 : Int)))), ()))))
 else
 (bif kind2 == (12 : Int) then
 ((T_spec_l4DrawKey N c1).bind fun o97 =>
 ((T_spec_l4DrawReg N o97.1.1).bind fun o98 =>
 ((T_spec_l4DrawReg N o98.1.1).bind fun o99 =>
 (some ((o99.1.1, ()), ((kind2, (o97.2.1, (o98.2.1, o99.2.1))), ()))))))
 else
 (bif kind2 == (13 : Int) then
 ((T_spec_l4DrawReg N c1).bind fun o100 =>
 ((T_spec_l4DrawKey N o100.1.1).bind fun o101 =>
 (some ((o101.1.1, ()), ((kind2, (o100.2.1, (o101.2.1, (0 : Int)))), ())))))
 else
 (bif kind2 == (14 : Int) then
 ((T_spec_l4DrawKey N c1).bind fun o102 =>
 ((T_spec_l4DrawReg N o102.1.1).bind fun o103 =>
 (some ((o103.1.1, ()), ((kind2, (o102.2.1, (o103.2.1, (0 : Int)))), ())))))
 else
 (some ((c1, ()), ((kind2, ((0 : Int), ((0 : Int), (0 : Int)))), ()))))))))))))))))

noncomputable def T_spec_l5Gen_lp0 {R : Type} (N : Nat) (rec : (List Int × Int × Int) → Int → Int → Bool → Option (((List Int × Int × Int) × Unit) × ((List (Int × Int × Int × Int)) × Unit))) (most6 : Int) (deep7 : Int) (kid8 : Bool) (K0 : Int → Bool → (List Int × Int × Int) → (List (Int × Int × Int × Int)) → Option R) : Nat → Int → (List Int × Int × Int) → (List (Int × Int × Int × Int)) → Option R
  | 0, _, _, _ => none
  | n + 1, n9, b10, l11 =>
    (bif decide (n9 > (0 : Int)) then
 (bif decide ((ilen l11) < most6) then
 ((T_spec_l1Below N b10 (20 : Int)).bind fun o84 =>
 (bif decide (o84.2.1 < (5 : Int)) then
 ((T_spec_l4Plain N o84.1.1 (5 : Int)).bind fun o85 =>
 (bif room ((List.length l11) + (List.length ([o85.2.1]))) then
 (T_spec_l5Gen_lp0 N rec most6 deep7 kid8 K0 n (isub .i64 n9 (1 : Int)) o85.1.1 (List.append l11 ([o85.2.1]))) else none))
 else
 (bif decide (o84.2.1 < (10 : Int)) then
 ((T_spec_l4Plain N o84.1.1 (6 : Int)).bind fun o86 =>
 (bif room ((List.length l11) + (List.length ([o86.2.1]))) then
 (T_spec_l5Gen_lp0 N rec most6 deep7 kid8 K0 n (isub .i64 n9 (1 : Int)) o86.1.1 (List.append l11 ([o86.2.1]))) else none))
 else
 (bif decide (o84.2.1 < (12 : Int)) then
 ((T_spec_l1Below N o84.1.1 (4 : Int)).bind fun o87 =>
 ((T_spec_l4Plain N o87.1.1 (iadd .i64 (1 : Int) o87.2.1)).bind fun o88 =>
 (bif room ((List.length l11) + (List.length ([o88.2.1]))) then
 (T_spec_l5Gen_lp0 N rec most6 deep7 kid8 K0 n (isub .i64 n9 (1 : Int)) o88.1.1 (List.append l11 ([o88.2.1]))) else none)))
 else
 (bif o84.2.1 == (12 : Int) then
 (bif decide (deep7 > (0 : Int)) then
 (bif decide ((isub .i64 most6 (ilen l11)) ≥ (4 : Int)) then
 ((rec o84.1.1 (isub .i64 (isub .i64 most6 (ilen l11)) (3 : Int)) (isub .i64 deep7 (1 : Int)) kid8).bind fun o89 =>
 ((T_spec_l4Plain N o89.1.1 (8 : Int)).bind fun o90 =>
 (bif room ((List.length l11) + (List.length ([o90.2.1]))) then
 (bif room ((List.length (List.append l11 ([o90.2.1]))) + (List.length o89.2.1)) then
 ((T_spec_l1Once N o90.1.1 (3 : Int)).bind fun o91 =>
 (bif o91.2.1 then
 (bif room ((List.length (List.append (List.append l11 ([o90.2.1])) o89.2.1)) + (List.length ([((10 : Int), ((0 : Int), ((0 : Int), (0 : Int))))]))) then
 (bif room ((List.length (List.append (List.append (List.append l11 ([o90.2.1])) o89.2.1) ([((10 : Int), ((0 : Int), ((0 : Int), (0 : Int))))]))) + (List.length ([((9 : Int), ((0 : Int), ((0 : Int), (0 : Int))))]))) then
 (T_spec_l5Gen_lp0 N rec most6 deep7 kid8 K0 n (isub .i64 n9 (1 : Int)) o91.1.1 (List.append (List.append (List.append (List.append l11 ([o90.2.1])) o89.2.1) ([((10 : Int), ((0 : Int), ((0 : Int), (0 : Int))))])) ([((9 : Int), ((0 : Int), ((0 : Int), (0 : Int))))]))) else none) else none)
 else
 (bif room ((List.length (List.append (List.append l11 ([o90.2.1])) o89.2.1)) + (List.length ([((9 : Int), ((0 : Int), ((0 : Int), (0 : Int))))]))) then
 (T_spec_l5Gen_lp0 N rec most6 deep7 kid8 K0 n (isub .i64 n9 (1 : Int)) o91.1.1 (List.append (List.append (List.append l11 ([o90.2.1])) o89.2.1) ([((9 : Int), ((0 : Int), ((0 : Int), (0 : Int))))]))) else none))) else none) else none)))
 else
 (bif o84.2.1 == (13 : Int) then
 (bif decide ((isub .i64 most6 (ilen l11)) ≥ (3 : Int)) then
 ((rec o84.1.1 (2 : Int) (0 : Int) kid8).bind fun o92 =>
 ((T_spec_l4Plain N o92.1.1 (7 : Int)).bind fun o93 =>
 (bif room ((List.length l11) + (List.length ([(o93.2.1.1, (o93.2.1.2.1, (ilen o92.2.1, o93.2.1.2.2.2)))]))) then
 (bif room ((List.length (List.append l11 ([(o93.2.1.1, (o93.2.1.2.1, (ilen o92.2.1, o93.2.1.2.2.2)))]))) + (List.length o92.2.1)) then
 (T_spec_l5Gen_lp0 N rec most6 deep7 kid8 K0 n (isub .i64 n9 (1 : Int)) o93.1.1 (List.append (List.append l11 ([(o93.2.1.1, (o93.2.1.2.1, (ilen o92.2.1, o93.2.1.2.2.2)))])) o92.2.1)) else none) else none)))
 else
 (bif o84.2.1 == (14 : Int) then
 ((T_spec_l1Once N o84.1.1 (6 : Int)).bind fun o94 =>
 (bif o94.2.1 then
 (bif room ((List.length l11) + (List.length ([((10 : Int), ((0 : Int), ((0 : Int), (0 : Int))))]))) then
 (T_spec_l5Gen_lp0 N rec most6 deep7 kid8 K0 n (isub .i64 n9 (1 : Int)) o94.1.1 (List.append l11 ([((10 : Int), ((0 : Int), ((0 : Int), (0 : Int))))]))) else none)
 else
 (bif kid8 then
 ((T_spec_l1Below N o94.1.1 (3 : Int)).bind fun o95 =>
 ((T_spec_l4Plain N o95.1.1 (iadd .i64 (1 : Int) o95.2.1)).bind fun o96 =>
 (bif room ((List.length l11) + (List.length ([o96.2.1]))) then
 (T_spec_l5Gen_lp0 N rec most6 deep7 kid8 K0 n (isub .i64 n9 (1 : Int)) o96.1.1 (List.append l11 ([o96.2.1]))) else none)))
 else
 ((T_spec_l1Below N o94.1.1 (5 : Int)).bind fun o97 =>
 ((T_spec_l4Plain N o97.1.1 (iadd .i64 (12 : Int) o97.2.1)).bind fun o98 =>
 (bif room ((List.length l11) + (List.length ([o98.2.1]))) then
 (T_spec_l5Gen_lp0 N rec most6 deep7 kid8 K0 n (isub .i64 n9 (1 : Int)) o98.1.1 (List.append l11 ([o98.2.1]))) else none))))))
 else
 (bif kid8 then
 ((T_spec_l1Below N o84.1.1 (3 : Int)).bind fun o99 =>
 ((T_spec_l4Plain N o99.1.1 (iadd .i64 (1 : Int) o99.2.1)).bind fun o100 =>
 (bif room ((List.length l11) + (List.length ([o100.2.1]))) then
 (T_spec_l5Gen_lp0 N rec most6 deep7 kid8 K0 n (isub .i64 n9 (1 : Int)) o100.1.1 (List.append l11 ([o100.2.1]))) else none)))
 else
 ((T_spec_l1Below N o84.1.1 (5 : Int)).bind fun o101 =>
 ((T_spec_l4Plain N o101.1.1 (iadd .i64 (12 : Int) o101.2.1)).bind fun o102 =>
 (bif room ((List.length l11) + (List.length ([o102.2.1]))) then
 (T_spec_l5Gen_lp0 N rec most6 deep7 kid8 K0 n (isub .i64 n9 (1 : Int)) o102.1.1 (List.append l11 ([o102.2.1]))) else none))))))
 else
 (bif o84.2.1 == (14 : Int) then
 ((T_spec_l1Once N o84.1.1 (6 : Int)).bind fun o103 =>
 (bif o103.2.1 then
 (bif room ((List.length l11) + (List.length ([((10 : Int), ((0 : Int), ((0 : Int), (0 : Int))))]))) then
 (T_spec_l5Gen_lp0 N rec most6 deep7 kid8 K0 n (isub .i64 n9 (1 : Int)) o103.1.1 (List.append l11 ([((10 : Int), ((0 : Int), ((0 : Int), (0 : Int))))]))) else none)
 else
 (bif kid8 then
 ((T_spec_l1Below N o103.1.1 (3 : Int)).bind fun o104 =>
 ((T_spec_l4Plain N o104.1.1 (iadd .i64 (1 : Int) o104.2.1)).bind fun o105 =>
 (bif room ((List.length l11) + (List.length ([o105.2.1]))) then
 (T_spec_l5Gen_lp0 N rec most6 deep7 kid8 K0 n (isub .i64 n9 (1 : Int)) o105.1.1 (List.append l11 ([o105.2.1]))) else none)))
 else
 ((T_spec_l1Below N o103.1.1 (5 : Int)).bind fun o106 =>
 ((T_spec_l4Plain N o106.1.1 (iadd .i64 (12 : Int) o106.2.1)).bind fun o107 =>
 (bif room ((List.length l11) + (List.length ([o107.2.1]))) then
 (T_spec_l5Gen_lp0 N rec most6 deep7 kid8 K0 n (isub .i64 n9 (1 : Int)) o107.1.1 (List.append l11 ([o107.2.1]))) else none))))))
 else
 (bif kid8 then
 ((T_spec_l1Below N o84.1.1 (3 : Int)).bind fun o108 =>
 ((T_spec_l4Plain N o108.1.1 (iadd .i64 (1 : Int) o108.2.1)).bind fun o109 =>
 (bif room ((List.length l11) + (List.length ([o109.2.1]))) then
 (T_spec_l5Gen_lp0 N rec most6 deep7 kid8 K0 n (isub .i64 n9 (1 : Int)) o109.1.1 (List.append l11 ([o109.2.1]))) else none)))
 else
 ((T_spec_l1Below N o84.1.1 (5 : Int)).bind fun o110 =>
 ((T_spec_l4Plain N o110.1.1 (iadd .i64 (12 : Int) o110.2.1)).bind fun o111 =>
 (bif room ((List.length l11) + (List.length ([o111.2.1]))) then
 (T_spec_l5Gen_lp0 N rec most6 deep7 kid8 K0 n (isub .i64 n9 (1 : Int)) o111.1.1 (List.append l11 ([o111.2.1]))) else none)))))))
 else
 (bif o84.2.1 == (13 : Int) then
 (bif decide ((isub .i64 most6 (ilen l11)) ≥ (3 : Int)) then
 ((rec o84.1.1 (2 : Int) (0 : Int) kid8).bind fun o112 =>
 ((T_spec_l4Plain N o112.1.1 (7 : Int)).bind fun o113 =>
 (bif room ((List.length l11) + (List.length ([(o113.2.1.1, (o113.2.1.2.1, (ilen o112.2.1, o113.2.1.2.2.2)))]))) then
 (bif room ((List.length (List.append l11 ([(o113.2.1.1, (o113.2.1.2.1, (ilen o112.2.1, o113.2.1.2.2.2)))]))) + (List.length o112.2.1)) then
 (T_spec_l5Gen_lp0 N rec most6 deep7 kid8 K0 n (isub .i64 n9 (1 : Int)) o113.1.1 (List.append (List.append l11 ([(o113.2.1.1, (o113.2.1.2.1, (ilen o112.2.1, o113.2.1.2.2.2)))])) o112.2.1)) else none) else none)))
 else
 (bif o84.2.1 == (14 : Int) then
 ((T_spec_l1Once N o84.1.1 (6 : Int)).bind fun o114 =>
 (bif o114.2.1 then
 (bif room ((List.length l11) + (List.length ([((10 : Int), ((0 : Int), ((0 : Int), (0 : Int))))]))) then
 (T_spec_l5Gen_lp0 N rec most6 deep7 kid8 K0 n (isub .i64 n9 (1 : Int)) o114.1.1 (List.append l11 ([((10 : Int), ((0 : Int), ((0 : Int), (0 : Int))))]))) else none)
 else
 (bif kid8 then
 ((T_spec_l1Below N o114.1.1 (3 : Int)).bind fun o115 =>
 ((T_spec_l4Plain N o115.1.1 (iadd .i64 (1 : Int) o115.2.1)).bind fun o116 =>
 (bif room ((List.length l11) + (List.length ([o116.2.1]))) then
 (T_spec_l5Gen_lp0 N rec most6 deep7 kid8 K0 n (isub .i64 n9 (1 : Int)) o116.1.1 (List.append l11 ([o116.2.1]))) else none)))
 else
 ((T_spec_l1Below N o114.1.1 (5 : Int)).bind fun o117 =>
 ((T_spec_l4Plain N o117.1.1 (iadd .i64 (12 : Int) o117.2.1)).bind fun o118 =>
 (bif room ((List.length l11) + (List.length ([o118.2.1]))) then
 (T_spec_l5Gen_lp0 N rec most6 deep7 kid8 K0 n (isub .i64 n9 (1 : Int)) o118.1.1 (List.append l11 ([o118.2.1]))) else none))))))
 else
 (bif kid8 then
 ((T_spec_l1Below N o84.1.1 (3 : Int)).bind fun o119 =>
 ((T_spec_l4Plain N o119.1.1 (iadd .i64 (1 : Int) o119.2.1)).bind fun o120 =>
 (bif room ((List.length l11) + (List.length ([o120.2.1]))) then
 (T_spec_l5Gen_lp0 N rec most6 deep7 kid8 K0 n (isub .i64 n9 (1 : Int)) o120.1.1 (List.append l11 ([o120.2.1]))) else none)))
 else
 ((T_spec_l1Below N o84.1.1 (5 : Int)).bind fun o121 =>
 ((T_spec_l4Plain N o121.1.1 (iadd .i64 (12 : Int) o121.2.1)).bind fun o122 =>
 (bif room ((List.length l11) + (List.length ([o122.2.1]))) then
 (T_spec_l5Gen_lp0 N rec most6 deep7 kid8 K0 n (isub .i64 n9 (1 : Int)) o122.1.1 (List.append l11 ([o122.2.1]))) else none))))))
 else
 (bif o84.2.1 == (14 : Int) then
 ((T_spec_l1Once N o84.1.1 (6 : Int)).bind fun o123 =>
 (bif o123.2.1 then
 (bif room ((List.length l11) + (List.length ([((10 : Int), ((0 : Int), ((0 : Int), (0 : Int))))]))) then
 (T_spec_l5Gen_lp0 N rec most6 deep7 kid8 K0 n (isub .i64 n9 (1 : Int)) o123.1.1 (List.append l11 ([((10 : Int), ((0 : Int), ((0 : Int), (0 : Int))))]))) else none)
 else
 (bif kid8 then
 ((T_spec_l1Below N o123.1.1 (3 : Int)).bind fun o124 =>
 ((T_spec_l4Plain N o124.1.1 (iadd .i64 (1 : Int) o124.2.1)).bind fun o125 =>
 (bif room ((List.length l11) + (List.length ([o125.2.1]))) then
 (T_spec_l5Gen_lp0 N rec most6 deep7 kid8 K0 n (isub .i64 n9 (1 : Int)) o125.1.1 (List.append l11 ([o125.2.1]))) else none)))
 else
 ((T_spec_l1Below N o123.1.1 (5 : Int)).bind fun o126 =>
 ((T_spec_l4Plain N o126.1.1 (iadd .i64 (12 : Int) o126.2.1)).bind fun o127 =>
 (bif room ((List.length l11) + (List.length ([o127.2.1]))) then
 (T_spec_l5Gen_lp0 N rec most6 deep7 kid8 K0 n (isub .i64 n9 (1 : Int)) o127.1.1 (List.append l11 ([o127.2.1]))) else none))))))
 else
 (bif kid8 then
 ((T_spec_l1Below N o84.1.1 (3 : Int)).bind fun o128 =>
 ((T_spec_l4Plain N o128.1.1 (iadd .i64 (1 : Int) o128.2.1)).bind fun o129 =>
 (bif room ((List.length l11) + (List.length ([o129.2.1]))) then
 (T_spec_l5Gen_lp0 N rec most6 deep7 kid8 K0 n (isub .i64 n9 (1 : Int)) o129.1.1 (List.append l11 ([o129.2.1]))) else none)))
 else
 ((T_spec_l1Below N o84.1.1 (5 : Int)).bind fun o130 =>
 ((T_spec_l4Plain N o130.1.1 (iadd .i64 (12 : Int) o130.2.1)).bind fun o131 =>
 (bif room ((List.length l11) + (List.length ([o131.2.1]))) then
 (T_spec_l5Gen_lp0 N rec most6 deep7 kid8 K0 n (isub .i64 n9 (1 : Int)) o131.1.1 (List.append l11 ([o131.2.1]))) else none)))))))
 else
 (bif o84.2.1 == (13 : Int) then
 (bif decide ((isub .i64 most6 (ilen l11)) ≥ (3 : Int)) then
 ((rec o84.1.1 (2 : Int) (0 : Int) kid8).bind fun o132 =>
 ((T_spec_l4Plain N o132.1.1 (7 : Int)).bind fun o133 =>
 (bif room ((List.length l11) + (List.length ([(o133.2.1.1, (o133.2.1.2.1, (ilen o132.2.1, o133.2.1.2.2.2)))]))) then
 (bif room ((List.length (List.append l11 ([(o133.2.1.1, (o133.2.1.2.1, (ilen o132.2.1, o133.2.1.2.2.2)))]))) + (List.length o132.2.1)) then
 (T_spec_l5Gen_lp0 N rec most6 deep7 kid8 K0 n (isub .i64 n9 (1 : Int)) o133.1.1 (List.append (List.append l11 ([(o133.2.1.1, (o133.2.1.2.1, (ilen o132.2.1, o133.2.1.2.2.2)))])) o132.2.1)) else none) else none)))
 else
 (bif o84.2.1 == (14 : Int) then
 ((T_spec_l1Once N o84.1.1 (6 : Int)).bind fun o134 =>
 (bif o134.2.1 then
 (bif room ((List.length l11) + (List.length ([((10 : Int), ((0 : Int), ((0 : Int), (0 : Int))))]))) then
 (T_spec_l5Gen_lp0 N rec most6 deep7 kid8 K0 n (isub .i64 n9 (1 : Int)) o134.1.1 (List.append l11 ([((10 : Int), ((0 : Int), ((0 : Int), (0 : Int))))]))) else none)
 else
 (bif kid8 then
 ((T_spec_l1Below N o134.1.1 (3 : Int)).bind fun o135 =>
 ((T_spec_l4Plain N o135.1.1 (iadd .i64 (1 : Int) o135.2.1)).bind fun o136 =>
 (bif room ((List.length l11) + (List.length ([o136.2.1]))) then
 (T_spec_l5Gen_lp0 N rec most6 deep7 kid8 K0 n (isub .i64 n9 (1 : Int)) o136.1.1 (List.append l11 ([o136.2.1]))) else none)))
 else
 ((T_spec_l1Below N o134.1.1 (5 : Int)).bind fun o137 =>
 ((T_spec_l4Plain N o137.1.1 (iadd .i64 (12 : Int) o137.2.1)).bind fun o138 =>
 (bif room ((List.length l11) + (List.length ([o138.2.1]))) then
 (T_spec_l5Gen_lp0 N rec most6 deep7 kid8 K0 n (isub .i64 n9 (1 : Int)) o138.1.1 (List.append l11 ([o138.2.1]))) else none))))))
 else
 (bif kid8 then
 ((T_spec_l1Below N o84.1.1 (3 : Int)).bind fun o139 =>
 ((T_spec_l4Plain N o139.1.1 (iadd .i64 (1 : Int) o139.2.1)).bind fun o140 =>
 (bif room ((List.length l11) + (List.length ([o140.2.1]))) then
 (T_spec_l5Gen_lp0 N rec most6 deep7 kid8 K0 n (isub .i64 n9 (1 : Int)) o140.1.1 (List.append l11 ([o140.2.1]))) else none)))
 else
 ((T_spec_l1Below N o84.1.1 (5 : Int)).bind fun o141 =>
 ((T_spec_l4Plain N o141.1.1 (iadd .i64 (12 : Int) o141.2.1)).bind fun o142 =>
 (bif room ((List.length l11) + (List.length ([o142.2.1]))) then
 (T_spec_l5Gen_lp0 N rec most6 deep7 kid8 K0 n (isub .i64 n9 (1 : Int)) o142.1.1 (List.append l11 ([o142.2.1]))) else none))))))
 else
 (bif o84.2.1 == (14 : Int) then
 ((T_spec_l1Once N o84.1.1 (6 : Int)).bind fun o143 =>
 (bif o143.2.1 then
 (bif room ((List.length l11) + (List.length ([((10 : Int), ((0 : Int), ((0 : Int), (0 : Int))))]))) then
 (T_spec_l5Gen_lp0 N rec most6 deep7 kid8 K0 n (isub .i64 n9 (1 : Int)) o143.1.1 (List.append l11 ([((10 : Int), ((0 : Int), ((0 : Int), (0 : Int))))]))) else none)
 else
 (bif kid8 then
 ((T_spec_l1Below N o143.1.1 (3 : Int)).bind fun o144 =>
 ((T_spec_l4Plain N o144.1.1 (iadd .i64 (1 : Int) o144.2.1)).bind fun o145 =>
 (bif room ((List.length l11) + (List.length ([o145.2.1]))) then
 (T_spec_l5Gen_lp0 N rec most6 deep7 kid8 K0 n (isub .i64 n9 (1 : Int)) o145.1.1 (List.append l11 ([o145.2.1]))) else none)))
 else
 ((T_spec_l1Below N o143.1.1 (5 : Int)).bind fun o146 =>
 ((T_spec_l4Plain N o146.1.1 (iadd .i64 (12 : Int) o146.2.1)).bind fun o147 =>
 (bif room ((List.length l11) + (List.length ([o147.2.1]))) then
 (T_spec_l5Gen_lp0 N rec most6 deep7 kid8 K0 n (isub .i64 n9 (1 : Int)) o147.1.1 (List.append l11 ([o147.2.1]))) else none))))))
 else
 (bif kid8 then
 ((T_spec_l1Below N o84.1.1 (3 : Int)).bind fun o148 =>
 ((T_spec_l4Plain N o148.1.1 (iadd .i64 (1 : Int) o148.2.1)).bind fun o149 =>
 (bif room ((List.length l11) + (List.length ([o149.2.1]))) then
 (T_spec_l5Gen_lp0 N rec most6 deep7 kid8 K0 n (isub .i64 n9 (1 : Int)) o149.1.1 (List.append l11 ([o149.2.1]))) else none)))
 else
 ((T_spec_l1Below N o84.1.1 (5 : Int)).bind fun o150 =>
 ((T_spec_l4Plain N o150.1.1 (iadd .i64 (12 : Int) o150.2.1)).bind fun o151 =>
 (bif room ((List.length l11) + (List.length ([o151.2.1]))) then
 (T_spec_l5Gen_lp0 N rec most6 deep7 kid8 K0 n (isub .i64 n9 (1 : Int)) o151.1.1 (List.append l11 ([o151.2.1]))) else none)))))))))))
 else
 (K0 n9 (decide ((ilen l11) < most6)) b10 l11))
 else
 (K0 n9 false b10 l11))

noncomputable def T_spec_l5Gen_r (N : Nat) : Nat → (List Int × Int × Int) → Int → Int → Bool → Option (((List Int × Int × Int) × Unit) × ((List (Int × Int × Int × Int)) × Unit))
  | 0, _, _, _, _ => none
  | m + 1, c1, most2, deep3, kid4 =>
    ((T_spec_l1Below N c1 most2).bind fun o5 =>
 (T_spec_l5Gen_lp0 N (T_spec_l5Gen_r N m) most2 deep3 kid4
 (fun n152 t153 b154 l155 =>
   (some ((b154, ()), (l155, ()))))
  N (iadd .i64 (1 : Int) o5.2.1) o5.1.1 ([] : List (Int × Int × Int × Int))))

noncomputable def T_spec_l5Gen (N : Nat) (c1 : List Int × Int × Int) (most2 : Int) (deep3 : Int) (kid4 : Bool) : Option (((List Int × Int × Int) × Unit) × ((List (Int × Int × Int × Int)) × Unit)) := T_spec_l5Gen_r N N c1 most2 deep3 kid4

noncomputable def T_spec_l28Code (N : Nat) (c1 : List Int × Int × Int) : Option (((List Int × Int × Int) × Unit) × ((List (Int × Int × Int × Int)) × Unit)) :=
    ((T_spec_l5Gen N c1 (3 : Int) (1 : Int) true).bind fun o2 =>
 ((T_spec_l1Once N o2.1.1 (3 : Int)).bind fun o3 =>
 (bif o3.2.1 then
 (some ((o3.1.1, ()), (o2.2.1, ())))
 else
 ((T_spec_l4DrawCell N o3.1.1).bind fun o4 =>
 ((T_spec_l4DrawReg N o4.1.1).bind fun o5 =>
 (bif inz (4 : Int) then
 ((T_spec_l1Below N o5.1.1 (3 : Int)).bind fun o6 =>
 (bif inz (4 : Int) then
 (bif room ((List.length ([((5 : Int), (o5.2.1, (o4.2.1, (0 : Int)))), ((1 : Int), (irem (iadd .i64 o5.2.1 (1 : Int)) (4 : Int), (iadd .i64 (1 : Int) o6.2.1, (0 : Int)))), ((4 : Int), (o5.2.1, (o5.2.1, irem (iadd .i64 o5.2.1 (1 : Int)) (4 : Int)))), ((7 : Int), (o5.2.1, ((1 : Int), (0 : Int)))), ((10 : Int), ((0 : Int), ((0 : Int), (0 : Int))))])) + (List.length o2.2.1)) then
 (some ((o6.1.1, ()), (List.append ([((5 : Int), (o5.2.1, (o4.2.1, (0 : Int)))), ((1 : Int), (irem (iadd .i64 o5.2.1 (1 : Int)) (4 : Int), (iadd .i64 (1 : Int) o6.2.1, (0 : Int)))), ((4 : Int), (o5.2.1, (o5.2.1, irem (iadd .i64 o5.2.1 (1 : Int)) (4 : Int)))), ((7 : Int), (o5.2.1, ((1 : Int), (0 : Int)))), ((10 : Int), ((0 : Int), ((0 : Int), (0 : Int))))]) o2.2.1, ()))) else none) else none)) else none))))))

noncomputable def T_spec_l28Alts_lp0 {R : Type} (N : Nat) (K0 : Int → Bool → (List Int × Int × Int) → (List (List (Int × Int × Int × Int))) → Option R) : Nat → Int → (List Int × Int × Int) → (List (List (Int × Int × Int × Int))) → Option R
  | 0, _, _, _ => none
  | n + 1, n3, b4, l5 =>
    (bif decide (n3 > (0 : Int)) then
 ((T_spec_l28Code N b4).bind fun o11 =>
 (bif room ((List.length l5) + (List.length ([o11.2.1]))) then
 (T_spec_l28Alts_lp0 N K0 n (isub .i64 n3 (1 : Int)) o11.1.1 (List.append l5 ([o11.2.1]))) else none))
 else
 (K0 n3 (decide (n3 > (0 : Int))) b4 l5))

noncomputable def T_spec_l28Alts (N : Nat) (c1 : List Int × Int × Int) : Option (((List Int × Int × Int) × Unit) × ((List (List (Int × Int × Int × Int))) × Unit)) :=
    ((T_spec_l1Below N c1 (4 : Int)).bind fun o2 =>
 (T_spec_l28Alts_lp0 N
 (fun n12 t13 b14 l15 =>
   (some ((b14, ()), (l15, ()))))
  N o2.2.1 o2.1.1 ([] : List (List (Int × Int × Int × Int)))))

noncomputable def T_spec_l28All_lp0 {R : Type} (N : Nat) (l9 : List (List (Int × Int × Int × Int))) (l10 : List Int) (K0 : Int → Bool → (List Int × Int × Int) → (List Int) → Option R) : Nat → Int → (List Int × Int × Int) → (List Int) → Option R
  | 0, _, _, _ => none
  | n + 1, i7, b8, l11 =>
    (bif decide (i7 < (ilen l11)) then
 ((T_spec_l1Once N b8 (2 : Int)).bind fun o17 =>
 (bif o17.2.1 then
 (bif inb i7 (List.length l11) then
 (T_spec_l28All_lp0 N l9 l10 K0 n (iadd .i64 i7 (1 : Int)) o17.1.1 (List.set l11 (Int.toNat i7) (0 : Int))) else none)
 else
 (T_spec_l28All_lp0 N l9 l10 K0 n (iadd .i64 i7 (1 : Int)) o17.1.1 l11)))
 else
 (K0 i7 (decide (i7 < (ilen l11))) b8 l11))

noncomputable def T_spec_l28All_lp1 {R : Type} (N : Nat) (l25 : List Int) (l26 : List Int) (K0 : Bool → (List Int × Int × Int) → (List (List (Int × Int × Int × Int))) → Option R) : Nat → (List Int × Int × Int) → (List (List (Int × Int × Int × Int))) → Option R
  | 0, _, _ => none
  | n + 1, b23, l24 =>
    ((T_spec_l1Below N b23 (2 : Int)).bind fun o31 =>
 (bif decide ((ilen l24) < (iadd .i64 (4 : Int) o31.2.1)) then
 (bif room ((List.length l24) + (List.length ([([] : List (Int × Int × Int × Int))]))) then
 (T_spec_l28All_lp1 N l25 l26 K0 n o31.1.1 (List.append l24 ([([] : List (Int × Int × Int × Int))]))) else none)
 else
 (K0 (decide ((ilen l24) < (iadd .i64 (4 : Int) o31.2.1))) o31.1.1 l24)))

noncomputable def T_spec_l28All (N : Nat) (c1 : List Int × Int × Int) : Option (((List Int × Int × Int) × Unit) × ((List (List (Int × Int × Int × Int))) × ((List Int) × ((List Int) × Unit)))) :=
    ((T_spec_l28Alts N c1).bind fun o2 =>
 ((T_spec_l1Below N o2.1.1 (3 : Int)).bind fun o3 =>
 ((T_spec_l3Draw N o3.1.1).bind fun o4 =>
 ((T_spec_l1Below N o4.1.1 (2 : Int)).bind fun o5 =>
 ((T_spec_l3DrawVals N o5.1.1).bind fun o6 =>
 (T_spec_l28All_lp0 N o2.2.1 ([o3.2.1, (0 : Int), o4.2.1, o5.2.1])
 (fun i18 t19 b20 l21 =>
   ((T_spec_l1Below N b20 (24 : Int)).bind fun o22 =>
 (bif o22.2.1 == (0 : Int) then
 (bif (decide ((0 : Int) ≤ (1 : Int))) && (decide ((1 : Int) ≤ ((List.length ([o3.2.1, (0 : Int), o4.2.1, o5.2.1])) : Int))) then
 (some ((o22.1.1, ()), (o2.2.1, (List.take (Int.toNat (1 : Int)) ([o3.2.1, (0 : Int), o4.2.1, o5.2.1]), (l21, ()))))) else none)
 else
 (bif o22.2.1 == (1 : Int) then
 (bif (decide ((0 : Int) ≤ (1 : Int))) && (decide ((1 : Int) ≤ ((List.length l21) : Int))) then
 (some ((o22.1.1, ()), (o2.2.1, ([o3.2.1, (0 : Int), o4.2.1, o5.2.1], (List.take (Int.toNat (1 : Int)) l21, ()))))) else none)
 else
 (bif o22.2.1 == (2 : Int) then
 (T_spec_l28All_lp1 N ([o3.2.1, (0 : Int), o4.2.1, o5.2.1]) l21
 (fun t32 b33 l34 =>
   (some ((b33, ()), (l34, ([o3.2.1, (0 : Int), o4.2.1, o5.2.1], (l21, ()))))))
  N o22.1.1 o2.2.1)
 else
 (bif o22.2.1 == (3 : Int) then
 (bif room ((List.length o2.2.1) + (List.length ([([((11 : Int), ((0 : Int), ((0 : Int), (0 : Int))))])]))) then
 (some ((o22.1.1, ()), (List.append o2.2.1 ([([((11 : Int), ((0 : Int), ((0 : Int), (0 : Int))))])]), ([o3.2.1, (0 : Int), o4.2.1, o5.2.1], (l21, ()))))) else none)
 else
 (some ((o22.1.1, ()), (o2.2.1, ([o3.2.1, (0 : Int), o4.2.1, o5.2.1], (l21, ())))))))))))
  N (0 : Int) o6.1.1 o6.2.1))))))

noncomputable def T_spec_l5Prog_lp0 {R : Type} (N : Nat) (l12 : List (Int × Int × Int × Int)) (K0 : Int → Bool → (List Int × Int × Int) → (List (List (Int × Int × Int × Int))) → Option R) : Nat → Int → (List Int × Int × Int) → (List (List (Int × Int × Int × Int))) → Option R
  | 0, _, _, _ => none
  | n + 1, n10, b11, l13 =>
    (bif decide (n10 > (0 : Int)) then
 ((T_spec_l1Below N b11 (5 : Int)).bind fun o20 =>
 ((T_spec_l5Gen N o20.1.1 (iadd .i64 (2 : Int) o20.2.1) (1 : Int) true).bind fun o21 =>
 (bif room ((List.length l13) + (List.length ([o21.2.1]))) then
 (T_spec_l5Prog_lp0 N l12 K0 n (isub .i64 n10 (1 : Int)) o21.1.1 (List.append l13 ([o21.2.1]))) else none)))
 else
 (K0 n10 (decide (n10 > (0 : Int))) b11 l13))

noncomputable def T_spec_l5Prog (N : Nat) (c1 : List Int × Int × Int) (forks2 : Bool) : Option (((List Int × Int × Int) × Unit) × ((List (Int × Int × Int × Int) × List (List (Int × Int × Int × Int))) × Unit)) :=
    (bif !forks2 then
 ((T_spec_l1Below N c1 (8 : Int)).bind fun o3 =>
 ((T_spec_l5Gen N o3.1.1 (iadd .i64 (3 : Int) o3.2.1) (2 : Int) false).bind fun o4 =>
 (some ((o4.1.1, ()), ((o4.2.1, ([] : List (List (Int × Int × Int × Int)))), ())))))
 else
 ((T_spec_l1Below N c1 (4 : Int)).bind fun o5 =>
 ((T_spec_l5Gen N o5.1.1 (iadd .i64 (1 : Int) o5.2.1) (1 : Int) false).bind fun o6 =>
 ((T_spec_l1Below N o6.1.1 (4 : Int)).bind fun o7 =>
 ((T_spec_l5Gen N o7.1.1 (iadd .i64 (1 : Int) o7.2.1) (1 : Int) false).bind fun o8 =>
 (bif room ((List.length o6.2.1) + (List.length ([((11 : Int), ((0 : Int), ((0 : Int), (0 : Int))))]))) then
 (bif room ((List.length (List.append o6.2.1 ([((11 : Int), ((0 : Int), ((0 : Int), (0 : Int))))]))) + (List.length o8.2.1)) then
 ((T_spec_l1Below N o8.1.1 (3 : Int)).bind fun o9 =>
 (T_spec_l5Prog_lp0 N (List.append (List.append o6.2.1 ([((11 : Int), ((0 : Int), ((0 : Int), (0 : Int))))])) o8.2.1)
 (fun n22 t23 b24 l25 =>
   (some ((b24, ()), ((List.append (List.append o6.2.1 ([((11 : Int), ((0 : Int), ((0 : Int), (0 : Int))))])) o8.2.1, l25), ()))))
  N (iadd .i64 (1 : Int) o9.2.1) o9.1.1 ([] : List (List (Int × Int × Int × Int))))) else none) else none))))))

noncomputable def T_spec_l4Any (N : Nat) (c1 : List Int × Int × Int) : Option (((List Int × Int × Int) × Unit) × ((Int × Int × Int × Int) × Unit)) :=
    ((T_spec_l1Below N c1 (16 : Int)).bind fun o2 =>
 ((T_spec_l4Plain N o2.1.1 (iadd .i64 (1 : Int) o2.2.1)).bind fun o3 =>
 ((T_spec_l1Below N o3.1.1 (16 : Int)).bind fun o4 =>
 (bif o4.2.1 == (0 : Int) then
 ((T_spec_l1PickInt N o4.1.1 ([(-1 : Int), (4 : Int), (8 : Int)])).bind fun o5 =>
 (some ((o5.1.1, ()), ((o3.2.1.1, (o5.2.1, o3.2.1.2.2)), ()))))
 else
 (bif o4.2.1 == (1 : Int) then
 ((T_spec_l1PickInt N o4.1.1 ([(-1 : Int), (4 : Int), (8 : Int), (65536 : Int), (21 : Int)])).bind fun o6 =>
 (some ((o6.1.1, ()), ((o3.2.1.1, (o3.2.1.2.1, (o6.2.1, o3.2.1.2.2.2))), ()))))
 else
 (bif o4.2.1 == (2 : Int) then
 ((T_spec_l1PickInt N o4.1.1 ([(-1 : Int), (4 : Int), (1 : Int)])).bind fun o7 =>
 (some ((o7.1.1, ()), ((o3.2.1.1, (o3.2.1.2.1, (o3.2.1.2.2.1, o7.2.1))), ()))))
 else
 (bif o4.2.1 == (3 : Int) then
 ((T_spec_l1PickInt N o4.1.1 ([(0 : Int), (17 : Int), (-3 : Int)])).bind fun o8 =>
 (some ((o8.1.1, ()), ((o8.2.1, o3.2.1.2), ()))))
 else
 (some ((o4.1.1, ()), (o3.2.1, ()))))))))))

noncomputable def T_spec_l5Bend_lp0 {R : Type} (N : Nat) (K0 : Bool → (List Int × Int × Int) → (List (Int × Int × Int × Int)) → Option R) : Nat → (List Int × Int × Int) → (List (Int × Int × Int × Int)) → Option R
  | 0, _, _ => none
  | n + 1, b6, l7 =>
    ((T_spec_l1Below N b6 (2 : Int)).bind fun o12 =>
 (bif decide ((ilen l7) < (iadd .i64 (24 : Int) o12.2.1)) then
 (bif room ((List.length l7) + (List.length ([((1 : Int), ((0 : Int), ((0 : Int), (0 : Int))))]))) then
 (T_spec_l5Bend_lp0 N K0 n o12.1.1 (List.append l7 ([((1 : Int), ((0 : Int), ((0 : Int), (0 : Int))))]))) else none)
 else
 (K0 (decide ((ilen l7) < (iadd .i64 (24 : Int) o12.2.1))) o12.1.1 l7)))

noncomputable def T_spec_l5Bend (N : Nat) (c1 : List Int × Int × Int) (code2 : List (Int × Int × Int × Int)) : Option (((List Int × Int × Int) × Unit) × ((List (Int × Int × Int × Int)) × Unit)) :=
    (bif room ((List.length ([] : List (Int × Int × Int × Int))) + (List.length code2)) then
 (bif (ilen (List.append ([] : List (Int × Int × Int × Int)) code2)) == (0 : Int) then
 (some ((c1, ()), ([((9 : Int), ((0 : Int), ((0 : Int), (0 : Int))))], ())))
 else
 ((T_spec_l1Below N c1 (ilen (List.append ([] : List (Int × Int × Int × Int)) code2))).bind fun o3 =>
 ((T_spec_l1Below N o3.1.1 (6 : Int)).bind fun o4 =>
 (bif o4.2.1 == (0 : Int) then
 ((T_spec_l4Any N o4.1.1).bind fun o5 =>
 (bif inb o3.2.1 (List.length (List.append ([] : List (Int × Int × Int × Int)) code2)) then
 (some ((o5.1.1, ()), (List.set (List.append ([] : List (Int × Int × Int × Int)) code2) (Int.toNat o3.2.1) o5.2.1, ()))) else none))
 else
 (bif o4.2.1 == (1 : Int) then
 (bif inb o3.2.1 (List.length (List.append ([] : List (Int × Int × Int × Int)) code2)) then
 (some ((o4.1.1, ()), (List.set (List.append ([] : List (Int × Int × Int × Int)) code2) (Int.toNat o3.2.1) ((11 : Int), ((0 : Int), ((0 : Int), (0 : Int)))), ()))) else none)
 else
 (bif o4.2.1 == (2 : Int) then
 (both
 (bif (decide ((0 : Int) ≤ o3.2.1)) && (decide (o3.2.1 ≤ ((List.length (List.append ([] : List (Int × Int × Int × Int)) code2)) : Int))) then
 (bif (decide ((0 : Int) ≤ (iadd .i64 o3.2.1 (1 : Int)))) && (decide ((iadd .i64 o3.2.1 (1 : Int)) ≤ ((List.length (List.append ([] : List (Int × Int × Int × Int)) code2)) : Int))) then
 (bif room ((Int.toNat o3.2.1) + (List.length (List.drop (Int.toNat (iadd .i64 o3.2.1 (1 : Int))) (List.take (List.length (List.append ([] : List (Int × Int × Int × Int)) code2)) (List.append ([] : List (Int × Int × Int × Int)) code2))))) then
 (some ((o4.1.1, ()), (List.append (List.take (Int.toNat o3.2.1) (List.append ([] : List (Int × Int × Int × Int)) code2)) (List.drop (Int.toNat (iadd .i64 o3.2.1 (1 : Int))) (List.take (List.length (List.append ([] : List (Int × Int × Int × Int)) code2)) (List.append ([] : List (Int × Int × Int × Int)) code2))), ()))) else none) else none) else none)
 (bif (decide ((0 : Int) ≤ (iadd .i64 o3.2.1 (1 : Int)))) && (decide ((iadd .i64 o3.2.1 (1 : Int)) ≤ ((List.length (List.append ([] : List (Int × Int × Int × Int)) code2)) : Int))) then
 (bif (decide ((0 : Int) ≤ o3.2.1)) && (decide (o3.2.1 ≤ ((List.length (List.append ([] : List (Int × Int × Int × Int)) code2)) : Int))) then
 (bif room ((Int.toNat o3.2.1) + (List.length (List.drop (Int.toNat (iadd .i64 o3.2.1 (1 : Int))) (List.take (List.length (List.append ([] : List (Int × Int × Int × Int)) code2)) (List.append ([] : List (Int × Int × Int × Int)) code2))))) then
 (some ((o4.1.1, ()), (List.append (List.take (Int.toNat o3.2.1) (List.append ([] : List (Int × Int × Int × Int)) code2)) (List.drop (Int.toNat (iadd .i64 o3.2.1 (1 : Int))) (List.take (List.length (List.append ([] : List (Int × Int × Int × Int)) code2)) (List.append ([] : List (Int × Int × Int × Int)) code2))), ()))) else none) else none) else none))
 else
 (bif o4.2.1 == (3 : Int) then
 (T_spec_l5Bend_lp0 N
 (fun t13 b14 l15 =>
   (some ((b14, ()), (l15, ()))))
  N o4.1.1 (List.append ([] : List (Int × Int × Int × Int)) code2))
 else
 (bif o4.2.1 == (4 : Int) then
 (bif inb o3.2.1 (List.length (List.append ([] : List (Int × Int × Int × Int)) code2)) then
 (bif inb o3.2.1 (List.length (List.append ([] : List (Int × Int × Int × Int)) code2)) then
 (some ((o4.1.1, ()), (List.set (List.append ([] : List (Int × Int × Int × Int)) code2) (Int.toNat o3.2.1) ((List.getD (List.append ([] : List (Int × Int × Int × Int)) code2) (Int.toNat o3.2.1) ((0 : Int), ((0 : Int), ((0 : Int), (0 : Int))))).1, ((List.getD (List.append ([] : List (Int × Int × Int × Int)) code2) (Int.toNat o3.2.1) ((0 : Int), ((0 : Int), ((0 : Int), (0 : Int))))).2.1, (iadd .i64 (List.getD (List.append ([] : List (Int × Int × Int × Int)) code2) (Int.toNat o3.2.1) ((0 : Int), ((0 : Int), ((0 : Int), (0 : Int))))).2.2.1 (1 : Int), (List.getD (List.append ([] : List (Int × Int × Int × Int)) code2) (Int.toNat o3.2.1) ((0 : Int), ((0 : Int), ((0 : Int), (0 : Int))))).2.2.2))), ()))) else none) else none)
 else
 ((T_spec_l1Below N o4.1.1 (2 : Int)).bind fun o16 =>
 (bif inb o3.2.1 (List.length (List.append ([] : List (Int × Int × Int × Int)) code2)) then
 (some ((o16.1.1, ()), (List.set (List.append ([] : List (Int × Int × Int × Int)) code2) (Int.toNat o3.2.1) (isub .i64 (9 : Int) o16.2.1, ((0 : Int), ((0 : Int), (0 : Int)))), ()))) else none)))))))))) else none)

noncomputable def T_spec_l5AnyCode (N : Nat) (c1 : List Int × Int × Int) : Option (((List Int × Int × Int) × Unit) × ((List (Int × Int × Int × Int)) × Unit)) :=
    ((T_spec_l1Once N c1 (3 : Int)).bind fun o2 =>
 ((T_spec_l5Prog N o2.1.1 o2.2.1).bind fun o3 =>
 ((T_spec_l1Once N o3.1.1 (3 : Int)).bind fun o4 =>
 (bif o4.2.1 then
 ((T_spec_l5Bend N o4.1.1 o3.2.1.1).bind fun o5 =>
 (some ((o5.1.1, ()), (o5.2.1, ()))))
 else
 (some ((o4.1.1, ()), (o3.2.1.1, ())))))))

noncomputable def T_spec_DrawEagerRun (N : Nat) (code1 : List Int) : Option (Unit × ((List (Int × Int × Int × Int)) × ((List Int) × ((List Int) × Unit)))) :=
    ((T_spec_l1New N code1).bind fun o2 =>
 ((T_spec_l28All N o2.2.1).bind fun o3 =>
 ((T_spec_l5Gen N o3.1.1 (14 : Int) (2 : Int) true).bind fun o4 =>
 ((T_spec_l1Once N o4.1.1 (12 : Int)).bind fun o5 =>
 (bif o5.2.1 then
 ((T_spec_l5AnyCode N o5.1.1).bind fun o6 =>
 (some ((), (o6.2.1, (o3.2.2.1, (o3.2.2.2.1, ()))))))
 else
 (some ((), (o4.2.1, (o3.2.2.1, (o3.2.2.2.1, ()))))))))))

noncomputable def T_spec_l7Copy (N : Nat) (s1 : List Int × List Int × Int) : Option (Unit × ((List Int × List Int × Int) × Unit)) :=
    (both
 (bif room ((List.length ([] : List Int)) + (List.length s1.1)) then
 (bif room ((List.length ([] : List Int)) + (List.length s1.2.1)) then
 (some ((), ((List.append ([] : List Int) s1.1, (List.append ([] : List Int) s1.2.1, s1.2.2)), ()))) else none) else none)
 (both
 (bif room ((List.length ([] : List Int)) + (List.length s1.1)) then
 (bif room ((List.length ([] : List Int)) + (List.length s1.2.1)) then
 (some ((), ((List.append ([] : List Int) s1.1, (List.append ([] : List Int) s1.2.1, s1.2.2)), ()))) else none) else none)
 (bif room ((List.length ([] : List Int)) + (List.length s1.1)) then
 (bif room ((List.length ([] : List Int)) + (List.length s1.2.1)) then
 (some ((), ((List.append ([] : List Int) s1.1, (List.append ([] : List Int) s1.2.1, s1.2.2)), ()))) else none) else none)))

noncomputable def T_spec_l7Walk_lp1 {R : Type} (N : Nat) (rec : (List (Int × Int × Int × Int)) → (List (List (Int × Int × Int × Int))) → (List Int) → (List Int) → (List Int × List Int × Int) → Option (Unit × ((Int × List Int × List Int × List Int × Int) × Unit))) (code25 : List (Int × Int × Int × Int)) (kids26 : List (List (Int × Int × Int × Int))) (order27 : List Int) (next28 : Int) (l30 : List Int) (b32 : Int) (b33 : Int) (b34 : Int) (l35 : List (Int × List Int × List Int × List Int × Int)) (l39 : List Int) (l40 : List Int) (K0 : Int → Bool → Int → (List Int) → (List Int) → (List Int) → Option R) : Nat → Int → Int → (List Int) → (List Int) → (List Int) → Option R
  | 0, _, _, _, _, _ => none
  | n + 1, i29, b31, l36, l37, l38 =>
    (bif decide (i29 < (ilen order27)) then
 (both
 (bif inb i29 (List.length order27) then
 (bif inb (List.getD order27 (Int.toNat i29) (0 : Int)) (List.length kids26) then
 ((rec (List.getD kids26 (Int.toNat (List.getD order27 (Int.toNat i29) (0 : Int))) ([] : List (Int × Int × Int × Int))) ([] : List (List (Int × Int × Int × Int))) ([] : List Int) l30 (l37, (l38, b31))).bind fun o49 =>
 (bif o49.2.1.1 == (1 : Int) then
 (bif inb i29 (List.length order27) then
 (bif inb (0 : Int) (List.length o49.2.1.2.1) then
 (bif inb (List.getD order27 (Int.toNat i29) (0 : Int)) (List.length l36) then
 (T_spec_l7Walk_lp1 N rec code25 kids26 order27 next28 l30 b32 b33 b34 l35 l39 l40 K0 n (iadd .i64 i29 (1 : Int)) o49.2.1.2.2.2.2 (List.set l36 (Int.toNat (List.getD order27 (Int.toNat i29) (0 : Int))) (List.getD o49.2.1.2.1 (Int.toNat (0 : Int)) (0 : Int))) o49.2.1.2.2.1 o49.2.1.2.2.2.1) else none) else none) else none)
 else
 (T_spec_l7Walk_lp1 N rec code25 kids26 order27 next28 l30 b32 b33 b34 l35 l39 l40 K0 n (iadd .i64 i29 (1 : Int)) o49.2.1.2.2.2.2 l36 o49.2.1.2.2.1 o49.2.1.2.2.2.1))) else none) else none)
 (bif inb i29 (List.length order27) then
 (bif inb (List.getD order27 (Int.toNat i29) (0 : Int)) (List.length kids26) then
 ((rec (List.getD kids26 (Int.toNat (List.getD order27 (Int.toNat i29) (0 : Int))) ([] : List (Int × Int × Int × Int))) ([] : List (List (Int × Int × Int × Int))) ([] : List Int) l30 (l37, (l38, b31))).bind fun o50 =>
 (bif o50.2.1.1 == (1 : Int) then
 (bif inb i29 (List.length order27) then
 (bif inb (0 : Int) (List.length o50.2.1.2.1) then
 (bif inb (List.getD order27 (Int.toNat i29) (0 : Int)) (List.length l36) then
 (T_spec_l7Walk_lp1 N rec code25 kids26 order27 next28 l30 b32 b33 b34 l35 l39 l40 K0 n (iadd .i64 i29 (1 : Int)) o50.2.1.2.2.2.2 (List.set l36 (Int.toNat (List.getD order27 (Int.toNat i29) (0 : Int))) (List.getD o50.2.1.2.1 (Int.toNat (0 : Int)) (0 : Int))) o50.2.1.2.2.1 o50.2.1.2.2.2.1) else none) else none) else none)
 else
 (T_spec_l7Walk_lp1 N rec code25 kids26 order27 next28 l30 b32 b33 b34 l35 l39 l40 K0 n (iadd .i64 i29 (1 : Int)) o50.2.1.2.2.2.2 l36 o50.2.1.2.2.1 o50.2.1.2.2.2.1))) else none) else none))
 else
 (K0 i29 (decide (i29 < (ilen order27))) b31 l36 l37 l38))

noncomputable def T_spec_l7Walk_lp2 {R : Type} (N : Nat) (rec : (List (Int × Int × Int × Int)) → (List (List (Int × Int × Int × Int))) → (List Int) → (List Int) → (List Int × List Int × Int) → Option (Unit × ((Int × List Int × List Int × List Int × Int) × Unit))) (code57 : List (Int × Int × Int × Int)) (kids58 : List (List (Int × Int × Int × Int))) (order59 : List Int) (next60 : Int) (b63 : Int) (b64 : Int) (b65 : Int) (b66 : Int) (l67 : List (Int × List Int × List Int × List Int × Int)) (l68 : List Int) (l69 : List Int) (l70 : List Int) (l71 : List Int) (l72 : List Int) (K0 : Int → Bool → (List Int) → Option R) : Nat → Int → (List Int) → Option R
  | 0, _, _ => none
  | n + 1, i61, l62 =>
    (bif decide (i61 < (ilen l68)) then
 (bif inb i61 (List.length l68) then
 (bif inb i61 (List.length l62) then
 (T_spec_l7Walk_lp2 N rec code57 kids58 order59 next60 b63 b64 b65 b66 l67 l68 l69 l70 l71 l72 K0 n (iadd .i64 i61 (1 : Int)) (List.set l62 (Int.toNat i61) (List.getD l68 (Int.toNat i61) (0 : Int)))) else none) else none)
 else
 (K0 i61 (decide (i61 < (ilen l68))) l62))

noncomputable def T_spec_l7Walk_lp0 {R : Type} (N : Nat) (rec : (List (Int × Int × Int × Int)) → (List (List (Int × Int × Int × Int))) → (List Int) → (List Int) → (List Int × List Int × Int) → Option (Unit × ((Int × List Int × List Int × List Int × Int) × Unit))) (code8 : List (Int × Int × Int × Int)) (kids9 : List (List (Int × Int × Int × Int))) (order10 : List Int) (b16 : Int) (l20 : List Int) (l21 : List Int) (K0 : (List Int) → Option R) (K1 : Int → Bool → (List Int) → Int → (List (Int × List Int × List Int × List Int × Int)) → (List Int) → (List Int) → Option R) : Nat → Int → (List Int) → Int → (List (Int × List Int × List Int × List Int × Int)) → (List Int) → (List Int) → Option R
  | 0, _, _, _, _, _, _ => none
  | n + 1, pc11, l12, b13, l17, l18, l19 =>
    (bif decide (pc11 < (ilen code8)) then
 (bif inb pc11 (List.length code8) then
 (bif (List.getD code8 (Int.toNat pc11) ((0 : Int), ((0 : Int), ((0 : Int), (0 : Int))))).1 == (5 : Int) then
 (bif inb (List.getD code8 (Int.toNat pc11) ((0 : Int), ((0 : Int), ((0 : Int), (0 : Int))))).2.2.1 (List.length l18) then
 (bif inb (List.getD code8 (Int.toNat pc11) ((0 : Int), ((0 : Int), ((0 : Int), (0 : Int))))).2.1 (List.length l12) then
 (T_spec_l7Walk_lp0 N rec code8 kids9 order10 b16 l20 l21 K0 K1 n (iadd .i64 pc11 (1 : Int)) (List.set l12 (Int.toNat (List.getD code8 (Int.toNat pc11) ((0 : Int), ((0 : Int), ((0 : Int), (0 : Int))))).2.1) (List.getD l18 (Int.toNat (List.getD code8 (Int.toNat pc11) ((0 : Int), ((0 : Int), ((0 : Int), (0 : Int))))).2.2.1) (0 : Int))) b13 l17 l18 l19) else none) else none)
 else
 (bif (List.getD code8 (Int.toNat pc11) ((0 : Int), ((0 : Int), ((0 : Int), (0 : Int))))).1 == (6 : Int) then
 (bif inb (List.getD code8 (Int.toNat pc11) ((0 : Int), ((0 : Int), ((0 : Int), (0 : Int))))).2.2.1 (List.length l12) then
 (bif inb (List.getD code8 (Int.toNat pc11) ((0 : Int), ((0 : Int), ((0 : Int), (0 : Int))))).2.1 (List.length l18) then
 (T_spec_l7Walk_lp0 N rec code8 kids9 order10 b16 l20 l21 K0 K1 n (iadd .i64 pc11 (1 : Int)) l12 b13 l17 (List.set l18 (Int.toNat (List.getD code8 (Int.toNat pc11) ((0 : Int), ((0 : Int), ((0 : Int), (0 : Int))))).2.1) (List.getD l12 (Int.toNat (List.getD code8 (Int.toNat pc11) ((0 : Int), ((0 : Int), ((0 : Int), (0 : Int))))).2.2.1) (0 : Int))) l19) else none) else none)
 else
 (bif (List.getD code8 (Int.toNat pc11) ((0 : Int), ((0 : Int), ((0 : Int), (0 : Int))))).1 == (7 : Int) then
 (bif inb (List.getD code8 (Int.toNat pc11) ((0 : Int), ((0 : Int), ((0 : Int), (0 : Int))))).2.1 (List.length l12) then
 (bif (List.getD l12 (Int.toNat (List.getD code8 (Int.toNat pc11) ((0 : Int), ((0 : Int), ((0 : Int), (0 : Int))))).2.1) (0 : Int)) == (0 : Int) then
 (T_spec_l7Walk_lp0 N rec code8 kids9 order10 b16 l20 l21 K0 K1 n (iadd .i64 (iadd .i64 pc11 (1 : Int)) (List.getD code8 (Int.toNat pc11) ((0 : Int), ((0 : Int), ((0 : Int), (0 : Int))))).2.2.1) l12 b13 l17 l18 l19)
 else
 (T_spec_l7Walk_lp0 N rec code8 kids9 order10 b16 l20 l21 K0 K1 n (iadd .i64 pc11 (1 : Int)) l12 b13 l17 l18 l19)) else none)
 else
 (bif (List.getD code8 (Int.toNat pc11) ((0 : Int), ((0 : Int), ((0 : Int), (0 : Int))))).1 == (8 : Int) then
 (bif room ((List.length ([] : List Int)) + (List.length l12)) then
 ((T_spec_l7Copy N (l18, (l19, b13))).bind fun o101 =>
 (bif room ((List.length l17) + (List.length ([(pc11, (List.append ([] : List Int) l12, o101.2.1))]))) then
 (T_spec_l7Walk_lp0 N rec code8 kids9 order10 b16 l20 l21 K0 K1 n (iadd .i64 pc11 (1 : Int)) l12 b13 (List.append l17 ([(pc11, (List.append ([] : List Int) l12, o101.2.1))])) l18 l19) else none)) else none)
 else
 (bif (List.getD code8 (Int.toNat pc11) ((0 : Int), ((0 : Int), ((0 : Int), (0 : Int))))).1 == (9 : Int) then
 (bif inb (isub .i64 (ilen l17) (1 : Int)) (List.length l17) then
 (bif (decide ((0 : Int) ≤ (isub .i64 (ilen l17) (1 : Int)))) && (decide ((isub .i64 (ilen l17) (1 : Int)) ≤ ((List.length l17) : Int))) then
 (bif inb (List.getD l17 (Int.toNat (isub .i64 (ilen l17) (1 : Int))) ((0 : Int), (([] : List Int), (([] : List Int), (([] : List Int), (0 : Int)))))).1 (List.length code8) then
 (bif inb (List.getD code8 (Int.toNat (List.getD l17 (Int.toNat (isub .i64 (ilen l17) (1 : Int))) ((0 : Int), (([] : List Int), (([] : List Int), (([] : List Int), (0 : Int)))))).1) ((0 : Int), ((0 : Int), ((0 : Int), (0 : Int))))).2.1 (List.length l12) then
 (T_spec_l7Walk_lp0 N rec code8 kids9 order10 b16 l20 l21 K0 K1 n (iadd .i64 pc11 (1 : Int)) (List.set l12 (Int.toNat (List.getD code8 (Int.toNat (List.getD l17 (Int.toNat (isub .i64 (ilen l17) (1 : Int))) ((0 : Int), (([] : List Int), (([] : List Int), (([] : List Int), (0 : Int)))))).1) ((0 : Int), ((0 : Int), ((0 : Int), (0 : Int))))).2.1) (1 : Int)) b13 (List.take (Int.toNat (isub .i64 (ilen l17) (1 : Int))) l17) l18 l19) else none) else none) else none) else none)
 else
 (bif (List.getD code8 (Int.toNat pc11) ((0 : Int), ((0 : Int), ((0 : Int), (0 : Int))))).1 == (10 : Int) then
 (bif (ilen l17) == (0 : Int) then
 (K0 l12)
 else
 (bif inb (isub .i64 (ilen l17) (1 : Int)) (List.length l17) then
 (bif (decide ((0 : Int) ≤ (isub .i64 (ilen l17) (1 : Int)))) && (decide ((isub .i64 (ilen l17) (1 : Int)) ≤ ((List.length l17) : Int))) then
 (bif room ((List.length ([] : List Int)) + (List.length (List.getD l17 (Int.toNat (isub .i64 (ilen l17) (1 : Int))) ((0 : Int), (([] : List Int), (([] : List Int), (([] : List Int), (0 : Int)))))).2.1)) then
 ((T_spec_l7Copy N (List.getD l17 (Int.toNat (isub .i64 (ilen l17) (1 : Int))) ((0 : Int), (([] : List Int), (([] : List Int), (([] : List Int), (0 : Int)))))).2.2).bind fun o102 =>
 (bif inb (List.getD l17 (Int.toNat (isub .i64 (ilen l17) (1 : Int))) ((0 : Int), (([] : List Int), (([] : List Int), (([] : List Int), (0 : Int)))))).1 (List.length code8) then
 (bif inb (List.getD code8 (Int.toNat (List.getD l17 (Int.toNat (isub .i64 (ilen l17) (1 : Int))) ((0 : Int), (([] : List Int), (([] : List Int), (([] : List Int), (0 : Int)))))).1) ((0 : Int), ((0 : Int), ((0 : Int), (0 : Int))))).2.1 (List.length (List.append ([] : List Int) (List.getD l17 (Int.toNat (isub .i64 (ilen l17) (1 : Int))) ((0 : Int), (([] : List Int), (([] : List Int), (([] : List Int), (0 : Int)))))).2.1)) then
 ((T_spec_EndOf N code8 (List.getD l17 (Int.toNat (isub .i64 (ilen l17) (1 : Int))) ((0 : Int), (([] : List Int), (([] : List Int), (([] : List Int), (0 : Int)))))).1).bind fun o103 =>
 (T_spec_l7Walk_lp0 N rec code8 kids9 order10 b16 l20 l21 K0 K1 n (iadd .i64 o103.2.1 (1 : Int)) (List.set (List.append ([] : List Int) (List.getD l17 (Int.toNat (isub .i64 (ilen l17) (1 : Int))) ((0 : Int), (([] : List Int), (([] : List Int), (([] : List Int), (0 : Int)))))).2.1) (Int.toNat (List.getD code8 (Int.toNat (List.getD l17 (Int.toNat (isub .i64 (ilen l17) (1 : Int))) ((0 : Int), (([] : List Int), (([] : List Int), (([] : List Int), (0 : Int)))))).1) ((0 : Int), ((0 : Int), ((0 : Int), (0 : Int))))).2.1) (0 : Int)) o102.2.1.2.2 (List.take (Int.toNat (isub .i64 (ilen l17) (1 : Int))) l17) o102.2.1.1 o102.2.1.2.1)) else none) else none)) else none) else none) else none))
 else
 (bif (List.getD code8 (Int.toNat pc11) ((0 : Int), ((0 : Int), ((0 : Int), (0 : Int))))).1 == (11 : Int) then
 (bif ((decide ((0 : Int) ≤ (ilen kids9))) && (decide ((ilen kids9) ≤ (ilen kids9)))) && (room (Int.toNat (ilen kids9))) then
 (T_spec_l7Walk_lp1 N rec code8 kids9 order10 (iadd .i64 pc11 (1 : Int)) l12 (0 : Int) (0 : Int) b16 l17 l20 l21
 (fun i104 t105 b106 l107 l108 l109 =>
   (T_spec_l7Walk_lp2 N rec code8 kids9 order10 (iadd .i64 pc11 (1 : Int)) b106 (0 : Int) (0 : Int) b16 l17 l107 l108 l109 l20 l21
 (fun i110 t111 l112 =>
   (T_spec_l7Walk_lp0 N rec code8 kids9 order10 b16 l20 l21 K0 K1 n (iadd .i64 pc11 (1 : Int)) l112 b106 l17 l108 l109))
  N (0 : Int) l12))
  N (0 : Int) b13 (List.replicate (Int.toNat (ilen kids9)) (0 : Int)) l18 l19) else none)
 else
 (bif (List.getD code8 (Int.toNat pc11) ((0 : Int), ((0 : Int), ((0 : Int), (0 : Int))))).1 == (12 : Int) then
 (bif inb (List.getD code8 (Int.toNat pc11) ((0 : Int), ((0 : Int), ((0 : Int), (0 : Int))))).2.1 (List.length l19) then
 (bif inb (List.getD code8 (Int.toNat pc11) ((0 : Int), ((0 : Int), ((0 : Int), (0 : Int))))).2.2.1 (List.length l12) then
 (bif inb (List.getD code8 (Int.toNat pc11) ((0 : Int), ((0 : Int), ((0 : Int), (0 : Int))))).2.1 (List.length l19) then
 (bif inz (65536 : Int) then
 (bif inb (List.getD code8 (Int.toNat pc11) ((0 : Int), ((0 : Int), ((0 : Int), (0 : Int))))).2.2.2 (List.length l12) then
 (T_spec_l7Walk_lp0 N rec code8 kids9 order10 b16 l20 l21 K0 K1 n (iadd .i64 pc11 (1 : Int)) (List.set l12 (Int.toNat (List.getD code8 (Int.toNat pc11) ((0 : Int), ((0 : Int), ((0 : Int), (0 : Int))))).2.2.2) (irem (List.getD l19 (Int.toNat (List.getD code8 (Int.toNat pc11) ((0 : Int), ((0 : Int), ((0 : Int), (0 : Int))))).2.1) (0 : Int)) (65536 : Int))) b13 l17 l18 (List.set l19 (Int.toNat (List.getD code8 (Int.toNat pc11) ((0 : Int), ((0 : Int), ((0 : Int), (0 : Int))))).2.1) (iadd .i64 (1 : Int) (List.getD l12 (Int.toNat (List.getD code8 (Int.toNat pc11) ((0 : Int), ((0 : Int), ((0 : Int), (0 : Int))))).2.2.1) (0 : Int))))) else none) else none) else none) else none) else none)
 else
 (bif (List.getD code8 (Int.toNat pc11) ((0 : Int), ((0 : Int), ((0 : Int), (0 : Int))))).1 == (13 : Int) then
 (bif inb (List.getD code8 (Int.toNat pc11) ((0 : Int), ((0 : Int), ((0 : Int), (0 : Int))))).2.2.1 (List.length l19) then
 (bif inz (65536 : Int) then
 (bif inb (List.getD code8 (Int.toNat pc11) ((0 : Int), ((0 : Int), ((0 : Int), (0 : Int))))).2.1 (List.length l12) then
 (T_spec_l7Walk_lp0 N rec code8 kids9 order10 b16 l20 l21 K0 K1 n (iadd .i64 pc11 (1 : Int)) (List.set l12 (Int.toNat (List.getD code8 (Int.toNat pc11) ((0 : Int), ((0 : Int), ((0 : Int), (0 : Int))))).2.1) (irem (List.getD l19 (Int.toNat (List.getD code8 (Int.toNat pc11) ((0 : Int), ((0 : Int), ((0 : Int), (0 : Int))))).2.2.1) (0 : Int)) (65536 : Int))) b13 l17 l18 l19) else none) else none) else none)
 else
 (bif (List.getD code8 (Int.toNat pc11) ((0 : Int), ((0 : Int), ((0 : Int), (0 : Int))))).1 == (14 : Int) then
 (bif inb (List.getD code8 (Int.toNat pc11) ((0 : Int), ((0 : Int), ((0 : Int), (0 : Int))))).2.1 (List.length l19) then
 (bif inb (List.getD code8 (Int.toNat pc11) ((0 : Int), ((0 : Int), ((0 : Int), (0 : Int))))).2.1 (List.length l19) then
 (bif inz (65536 : Int) then
 (bif inb (List.getD code8 (Int.toNat pc11) ((0 : Int), ((0 : Int), ((0 : Int), (0 : Int))))).2.2.1 (List.length l12) then
 (T_spec_l7Walk_lp0 N rec code8 kids9 order10 b16 l20 l21 K0 K1 n (iadd .i64 pc11 (1 : Int)) (List.set l12 (Int.toNat (List.getD code8 (Int.toNat pc11) ((0 : Int), ((0 : Int), ((0 : Int), (0 : Int))))).2.2.1) (irem (List.getD l19 (Int.toNat (List.getD code8 (Int.toNat pc11) ((0 : Int), ((0 : Int), ((0 : Int), (0 : Int))))).2.1) (0 : Int)) (65536 : Int))) b13 l17 l18 (List.set l19 (Int.toNat (List.getD code8 (Int.toNat pc11) ((0 : Int), ((0 : Int), ((0 : Int), (0 : Int))))).2.1) (0 : Int))) else none) else none) else none) else none)
 else
 (bif (List.getD code8 (Int.toNat pc11) ((0 : Int), ((0 : Int), ((0 : Int), (0 : Int))))).1 == (15 : Int) then
 (bif inb (List.getD code8 (Int.toNat pc11) ((0 : Int), ((0 : Int), ((0 : Int), (0 : Int))))).2.1 (List.length l12) then
 (bif inz (65536 : Int) then
 (T_spec_l7Walk_lp0 N rec code8 kids9 order10 b16 l20 l21 K0 K1 n (iadd .i64 pc11 (1 : Int)) l12 (irem (iadd .i64 b13 (List.getD l12 (Int.toNat (List.getD code8 (Int.toNat pc11) ((0 : Int), ((0 : Int), ((0 : Int), (0 : Int))))).2.1) (0 : Int))) (65536 : Int)) l17 l18 l19) else none) else none)
 else
 (bif (List.getD code8 (Int.toNat pc11) ((0 : Int), ((0 : Int), ((0 : Int), (0 : Int))))).1 == (16 : Int) then
 (bif inb (List.getD code8 (Int.toNat pc11) ((0 : Int), ((0 : Int), ((0 : Int), (0 : Int))))).2.1 (List.length l12) then
 (T_spec_l7Walk_lp0 N rec code8 kids9 order10 b16 l20 l21 K0 K1 n (iadd .i64 pc11 (1 : Int)) (List.set l12 (Int.toNat (List.getD code8 (Int.toNat pc11) ((0 : Int), ((0 : Int), ((0 : Int), (0 : Int))))).2.1) b13) b13 l17 l18 l19) else none)
 else
 ((T_spec_Calc N (List.getD code8 (Int.toNat pc11) ((0 : Int), ((0 : Int), ((0 : Int), (0 : Int))))) l12).bind fun o113 =>
 (T_spec_l7Walk_lp0 N rec code8 kids9 order10 b16 l20 l21 K0 K1 n (iadd .i64 pc11 (1 : Int)) o113.2.1 b13 l17 l18 l19)))))))))))))) else none)
 else
 (K1 pc11 (decide (pc11 < (ilen code8))) l12 b13 l17 l18 l19))

noncomputable def T_spec_l7Walk_r (N : Nat) : Nat → (List (Int × Int × Int × Int)) → (List (List (Int × Int × Int × Int))) → (List Int) → (List Int) → (List Int × List Int × Int) → Option (Unit × ((Int × List Int × List Int × List Int × Int) × Unit))
  | 0, _, _, _, _, _ => none
  | m + 1, code1, kids2, order3, regs4, s5 =>
    ((T_spec_l7Copy N s5).bind fun o6 =>
 (bif room ((List.length ([] : List Int)) + (List.length regs4)) then
 ((T_spec_l7Copy N s5).bind fun o7 =>
 (T_spec_l7Walk_lp0 N (T_spec_l7Walk_r N m) code1 kids2 order3 o6.2.1.2.2 o6.2.1.1 o6.2.1.2.1
 (fun l114 =>
   (some ((), (((2 : Int), (l114, o6.2.1)), ()))))
 (fun pc115 t116 l117 b118 l119 l120 l121 =>
   (some ((), (((1 : Int), (l117, (l120, (l121, b118)))), ()))))
  N (0 : Int) (List.append ([] : List Int) regs4) o7.2.1.2.2 ([] : List (Int × List Int × List Int × List Int × Int)) o7.2.1.1 o7.2.1.2.1)) else none))

noncomputable def T_spec_l7Walk (N : Nat) (code1 : List (Int × Int × Int × Int)) (kids2 : List (List (Int × Int × Int × Int))) (order3 : List Int) (regs4 : List Int) (s5 : List Int × List Int × Int) : Option (Unit × ((Int × List Int × List Int × List Int × Int) × Unit)) := T_spec_l7Walk_r N N code1 kids2 order3 regs4 s5

noncomputable def T_spec_SerialKid (N : Nat) (code1 : List (Int × Int × Int × Int)) (regs2 : List Int) (cells3 : List Int) : Option (Unit × (Int × ((List Int) × ((List Int) × Unit)))) :=
    ((T_spec_KidOk N code1).bind fun o4 =>
 (bif !o4.2.1 then
 (some ((), ((0 : Int), (([] : List Int), (([] : List Int), ())))))
 else
 ((T_spec_l4Regs N regs2).bind fun o5 =>
 (bif !o5.2.1 then
 (some ((), ((0 : Int), (([] : List Int), (([] : List Int), ())))))
 else
 ((T_spec_l3Vals N cells3).bind fun o6 =>
 (bif !o6.2.1 then
 (some ((), ((0 : Int), (([] : List Int), (([] : List Int), ())))))
 else
 (bif ((decide ((0 : Int) ≤ (8 : Int))) && (decide ((8 : Int) ≤ (8 : Int)))) && (room (Int.toNat (8 : Int))) then
 ((T_spec_l7Walk N code1 ([] : List (List (Int × Int × Int × Int))) ([] : List Int) regs2 (cells3, (List.replicate (Int.toNat (8 : Int)) (0 : Int), (0 : Int)))).bind fun o7 =>
 (some ((), (o7.2.1.1, (o7.2.1.2.1, (o7.2.1.2.2.1, ())))))) else none)))))))

noncomputable def T_laws_FnEager (N : Nat) (code1 : List Int) : Option (Unit × (Bool × Unit)) :=
    ((T_laws_big N code1).bind fun o2 =>
 (bif o2.2.1 then
 (some ((), (true, ())))
 else
 ((T_spec_DrawEagerRun N code1).bind fun o3 =>
 ((T_impl_EagerRun N o3.2.1 o3.2.2.1 o3.2.2.2.1).bind fun o4 =>
 ((T_spec_SerialKid N o3.2.1 o3.2.2.1 o3.2.2.2.1).bind fun o5 =>
 (bif o4.2.1.1 != o5.2.1 then
 (some ((), (false, ())))
 else
 ((T_laws_sameInts N o4.2.1.2.1 o5.2.2.1).bind fun o6 =>
 (bif !o6.2.1 then
 (some ((), (false, ())))
 else
 ((T_laws_sameInts N o4.2.1.2.2.1 o5.2.2.2.1).bind fun o7 =>
 (bif !o7.2.1 then
 (some ((), (false, ())))
 else
 (bif o5.2.1 == (0 : Int) then
 (some ((), ((ilen o4.2.1.2.2.2.1) == (0 : Int), ())))
 else
 (bif decide ((ilen o4.2.1.2.2.2.1) > (0 : Int)) then
 ((T_laws_at N code1 (0 : Int)).bind fun o8 =>
 (bif inz (iadd .i64 (ilen o4.2.1.2.2.2.1) (1 : Int)) then
 ((T_impl_EagerCut N o4.2.1.2.2.1 o4.2.1.2.2.2.1 (irem o8.2.1 (iadd .i64 (ilen o4.2.1.2.2.2.1) (1 : Int)))).bind fun o9 =>
 ((T_impl_EagerBack N o4.2.1.2.2.1 o4.2.1.2.2.2.1).bind fun o10 =>
 ((T_laws_sameInts N o10.2.1 o3.2.2.2.1).bind fun o11 =>
 (bif o11.2.1 then
 ((T_impl_EagerBack N o9.2.1 o9.2.2.1).bind fun o12 =>
 ((T_laws_sameInts N o12.2.1 o3.2.2.2.1).bind fun o13 =>
 (bif o13.2.1 then
 (bif (ilen o9.2.2.1) == (irem o8.2.1 (iadd .i64 (ilen o4.2.1.2.2.2.1) (1 : Int))) then
 (bif o5.2.1 == (1 : Int) then
 (some ((), (true, ())))
 else
 (some ((), ((ilen o4.2.1.2.2.2.1) == (0 : Int), ()))))
 else
 (some ((), (false, ()))))
 else
 (some ((), (false, ()))))))
 else
 (some ((), (false, ()))))))) else none))
 else
 ((T_impl_EagerCut N o4.2.1.2.2.1 o4.2.1.2.2.2.1 (0 : Int)).bind fun o14 =>
 ((T_impl_EagerBack N o4.2.1.2.2.1 o4.2.1.2.2.2.1).bind fun o15 =>
 ((T_laws_sameInts N o15.2.1 o3.2.2.2.1).bind fun o16 =>
 (bif o16.2.1 then
 ((T_impl_EagerBack N o14.2.1 o14.2.2.1).bind fun o17 =>
 ((T_laws_sameInts N o17.2.1 o3.2.2.2.1).bind fun o18 =>
 (bif o18.2.1 then
 (bif (ilen o14.2.2.1) == (0 : Int) then
 (bif o5.2.1 == (1 : Int) then
 (some ((), (true, ())))
 else
 (some ((), ((ilen o4.2.1.2.2.2.1) == (0 : Int), ()))))
 else
 (some ((), (false, ()))))
 else
 (some ((), (false, ()))))))
 else
 (some ((), (false, ())))))))))))))))))))

end Go.Sx
