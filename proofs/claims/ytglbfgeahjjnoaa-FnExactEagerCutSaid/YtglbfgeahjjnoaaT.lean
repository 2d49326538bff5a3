/- What each Go function computes, as a Lean function. -/
import Derived.Test.YtglbfgeahjjnoaaM3
namespace Go.Sx
set_option linter.unusedVariables false

noncomputable def T_laws_szRowS (N : Nat) (a1 : List (Int × Int)) (left2 : Int) : Option (Unit × (Int × Unit)) :=
    (bif decide ((isub .i64 left2 (ilen a1)) < (0 : Int)) then
    (some ((), ((-1 : Int), ())))
    else
    (some ((), (isub .i64 left2 (ilen a1), ()))))

noncomputable def T_laws_toIntS_lp0 {R : Type} (N : Nat) (a2 : List Int) (K0 : Int → Bool → (List Int) → Option R) : Nat → Int → (List Int) → Option R
  | 0, _, _ => none
  | n + 1, i3, l4 =>
    (bif decide (i3 < (ilen a2)) then
    (bif inb i3 (List.length a2) then
      (bif inb i3 (List.length l4) then
        (T_laws_toIntS_lp0 N a2 K0 n (iadd .i64 i3 (1 : Int)) (List.set l4 (Int.toNat i3) (List.getD a2 (Int.toNat i3) (0 : Int)))) else none) else none)
    else
    (K0 i3 (decide (i3 < (ilen a2))) l4))

noncomputable def T_laws_toIntS (N : Nat) (a1 : List Int) : Option (Unit × ((List Int) × Unit)) :=
    (bif ((decide ((0 : Int) ≤ (ilen a1))) && (decide ((ilen a1) ≤ (ilen a1)))) && (room (Int.toNat (ilen a1))) then
    (T_laws_toIntS_lp0 N a1
      (fun i8 t9 l10 =>
        (some ((), (l10, ()))))
       N (0 : Int) (List.replicate (Int.toNat (ilen a1)) (0 : Int))) else none)

noncomputable def T_laws_toRow (N : Nat) (a1 : Int × Int) : Option (Unit × ((Int × Int) × Unit)) :=
    (some ((), (a1, ())))

noncomputable def T_laws_toRowS_lp0 {R : Type} (N : Nat) (a2 : List (Int × Int)) (K0 : Int → Bool → (List (Int × Int)) → Option R) : Nat → Int → (List (Int × Int)) → Option R
  | 0, _, _ => none
  | n + 1, i3, l4 =>
    (bif decide (i3 < (ilen a2)) then
    (bif inb i3 (List.length a2) then
      ((T_laws_toRow N (List.getD a2 (Int.toNat i3) ((0 : Int), (0 : Int)))).bind fun o9 =>
        (bif inb i3 (List.length l4) then
          (T_laws_toRowS_lp0 N a2 K0 n (iadd .i64 i3 (1 : Int)) (List.set l4 (Int.toNat i3) o9.2.1)) else none)) else none)
    else
    (K0 i3 (decide (i3 < (ilen a2))) l4))

noncomputable def T_laws_toRowS (N : Nat) (a1 : List (Int × Int)) : Option (Unit × ((List (Int × Int)) × Unit)) :=
    (bif ((decide ((0 : Int) ≤ (ilen a1))) && (decide ((ilen a1) ≤ (ilen a1)))) && (room (Int.toNat (ilen a1))) then
    (T_laws_toRowS_lp0 N a1
      (fun i10 t11 l12 =>
        (some ((), (l12, ()))))
       N (0 : Int) (List.replicate (Int.toNat (ilen a1)) ((0 : Int), (0 : Int)))) else none)

noncomputable def T_spec_l1In (N : Nat) (x1 : Int) (low2 : Int) (high3 : Int) : Option (Unit × (Bool × Unit)) :=
    (bif decide (x1 ≥ low2) then
    (some ((), (decide (x1 ≤ high3), ())))
    else
    (some ((), (false, ()))))

noncomputable def T_spec_l3Val (N : Nat) (v1 : Int) : Option (Unit × (Bool × Unit)) :=
    ((T_spec_l1In N v1 (0 : Int) (65535 : Int)).bind fun o2 =>
    (some ((), (o2.2.1, ()))))

noncomputable def T_spec_l3Vals_lp0 {R : Type} (N : Nat) (l2 : List Int) (K0 : Option R) (K1 : Int → Bool → Option R) : Nat → Int → Option R
  | 0, _ => none
  | n + 1, i3 =>
    (bif decide (i3 < (ilen l2)) then
    (bif inb i3 (List.length l2) then
      ((T_spec_l3Val N (List.getD l2 (Int.toNat i3) (0 : Int))).bind fun o7 =>
        (bif !o7.2.1 then
          K0
          else
          (T_spec_l3Vals_lp0 N l2 K0 K1 n (iadd .i64 i3 (1 : Int))))) else none)
    else
    (K1 i3 (decide (i3 < (ilen l2)))))

noncomputable def T_spec_l3Vals (N : Nat) (l1 : List Int) : Option (Unit × (Bool × Unit)) :=
    (bif (ilen l1) != (8 : Int) then
    (some ((), (false, ())))
    else
    (T_spec_l3Vals_lp0 N l1
      (some ((), (false, ())))
      (fun i8 t9 =>
        (some ((), (true, ()))))
       N (0 : Int)))

noncomputable def T_spec_l3Cell (N : Nat) (i1 : Int) : Option (Unit × (Bool × Unit)) :=
    ((T_spec_l1In N i1 (0 : Int) (7 : Int)).bind fun o2 =>
    (some ((), (o2.2.1, ()))))

noncomputable def T_spec_RowsOk_lp0 {R : Type} (N : Nat) (l2 : List (Int × Int)) (K0 : Option R) (K1 : Int → Bool → Option R) : Nat → Int → Option R
  | 0, _ => none
  | n + 1, i3 =>
    (bif decide (i3 < (ilen l2)) then
    (bif inb i3 (List.length l2) then
      ((T_spec_l3Cell N (List.getD l2 (Int.toNat i3) ((0 : Int), (0 : Int))).1).bind fun o8 =>
        (bif !o8.2.1 then
          K0
          else
          (bif inb i3 (List.length l2) then
            ((T_spec_l3Val N (List.getD l2 (Int.toNat i3) ((0 : Int), (0 : Int))).2).bind fun o9 =>
              (bif !o9.2.1 then
                K0
                else
                (T_spec_RowsOk_lp0 N l2 K0 K1 n (iadd .i64 i3 (1 : Int))))) else none))) else none)
    else
    (K1 i3 (decide (i3 < (ilen l2)))))

noncomputable def T_spec_RowsOk (N : Nat) (l1 : List (Int × Int)) : Option (Unit × (Bool × Unit)) :=
    (bif decide ((ilen l1) > (300 : Int)) then
    (some ((), (false, ())))
    else
    (T_spec_RowsOk_lp0 N l1
      (some ((), (false, ())))
      (fun i10 t11 =>
        (some ((), (true, ()))))
       N (0 : Int)))

noncomputable def T_spec_l15Ints (N : Nat) (l1 : List Int) : Option (Unit × ((List Int) × Unit)) :=
    (bif room ((List.length ([] : List Int)) + (List.length l1)) then
    (some ((), (List.append ([] : List Int) l1, ()))) else none)

noncomputable def T_spec_Cut (N : Nat) (l1 : List (Int × Int)) (n2 : Int) : Option (Unit × ((List (Int × Int)) × Unit)) :=
    ((T_spec_RowsOk N l1).bind fun o3 =>
    (bif !o3.2.1 then
      (some ((), (([] : List (Int × Int)), ())))
      else
      (bif decide (n2 ≤ (0 : Int)) then
        (some ((), (([] : List (Int × Int)), ())))
        else
        (bif decide (n2 > (ilen l1)) then
          (bif (decide ((0 : Int) ≤ (ilen l1))) && (decide ((ilen l1) ≤ ((List.length l1) : Int))) then
            (bif room ((List.length ([] : List (Int × Int))) + (List.length (List.take (Int.toNat (ilen l1)) l1))) then
              (some ((), (List.append ([] : List (Int × Int)) (List.take (Int.toNat (ilen l1)) l1), ()))) else none) else none)
          else
          (bif (decide ((0 : Int) ≤ n2)) && (decide (n2 ≤ ((List.length l1) : Int))) then
            (bif room ((List.length ([] : List (Int × Int))) + (List.length (List.take (Int.toNat n2) l1))) then
              (some ((), (List.append ([] : List (Int × Int)) (List.take (Int.toNat n2) l1), ()))) else none) else none)))))

noncomputable def T_spec_EagerCut_lp0 {R : Type} (N : Nat) (log7 : List (Int × Int)) (n8 : Int) (K0 : Int → Bool → (List Int) → Option R) : Nat → Int → (List Int) → Option R
  | 0, _, _ => none
  | n + 1, i9, l10 =>
    (bif decide (i9 ≥ n8) then
    (bif inb i9 (List.length log7) then
      (bif inb i9 (List.length log7) then
        (bif inb (List.getD log7 (Int.toNat i9) ((0 : Int), (0 : Int))).1 (List.length l10) then
          (T_spec_EagerCut_lp0 N log7 n8 K0 n (isub .i64 i9 (1 : Int)) (List.set l10 (Int.toNat (List.getD log7 (Int.toNat i9) ((0 : Int), (0 : Int))).1) (List.getD log7 (Int.toNat i9) ((0 : Int), (0 : Int))).2)) else none) else none) else none)
    else
    (K0 i9 (decide (i9 ≥ n8)) l10))

noncomputable def T_spec_EagerCut (N : Nat) (cells1 : List Int) (log2 : List (Int × Int)) (n3 : Int) : Option (Unit × ((List Int) × ((List (Int × Int)) × Unit))) :=
    ((T_spec_l3Vals N cells1).bind fun o4 =>
    (bif !o4.2.1 then
      (some ((), (([] : List Int), (([] : List (Int × Int)), ()))))
      else
      ((T_spec_RowsOk N log2).bind fun o5 =>
        (bif !o5.2.1 then
          (some ((), (([] : List Int), (([] : List (Int × Int)), ()))))
          else
          (bif decide (n3 < (0 : Int)) then
            (some ((), (([] : List Int), (([] : List (Int × Int)), ()))))
            else
            ((T_spec_l15Ints N cells1).bind fun o6 =>
              (T_spec_EagerCut_lp0 N log2 n3
                (fun i14 t15 l16 =>
                  ((T_spec_Cut N log2 n3).bind fun o17 =>
                    (some ((), (l16, (o17.2.1, ()))))))
                 N (isub .i64 (ilen log2) (1 : Int)) o6.2.1)))))))

noncomputable def T_impl_within (N : Nat) (x1 : Int) (lo2 : Int) (hi3 : Int) : Option (Unit × (Bool × Unit)) :=
    (bif decide (x1 ≥ lo2) then
    (some ((), (decide (x1 ≤ hi3), ())))
    else
    (some ((), (false, ()))))

noncomputable def T_impl_isValue (N : Nat) (v1 : Int) : Option (Unit × (Bool × Unit)) :=
    ((T_impl_within N v1 (0 : Int) (65535 : Int)).bind fun o2 =>
    (some ((), (o2.2.1, ()))))

noncomputable def T_impl_areValues_lp0 {R : Type} (N : Nat) (l3 : List Int) (n4 : Int) (K0 : Option R) (K1 : Int → Bool → Option R) : Nat → Int → Option R
  | 0, _ => none
  | n + 1, t7 =>
    (bif decide (t7 < (ilen l3)) then
    (bif inb t7 (List.length l3) then
      ((T_impl_isValue N (List.getD l3 (Int.toNat t7) (0 : Int))).bind fun o12 =>
        (bif !o12.2.1 then
          K0
          else
          (T_impl_areValues_lp0 N l3 n4 K0 K1 n (iadd .i64 t7 (1 : Int))))) else none)
    else
    (K1 t7 (decide (t7 < (ilen l3)))))

noncomputable def T_impl_areValues (N : Nat) (l1 : List Int) (n2 : Int) : Option (Unit × (Bool × Unit)) :=
    (T_impl_areValues_lp0 N l1 n2
    (some ((), (false, ())))
    (fun t13 t14 =>
      (some ((), ((ilen l1) == n2, ()))))
     N (0 : Int))

noncomputable def T_impl_isCell (N : Nat) (i1 : Int) : Option (Unit × (Bool × Unit)) :=
    ((T_impl_within N i1 (0 : Int) (7 : Int)).bind fun o2 =>
    (some ((), (o2.2.1, ()))))

noncomputable def T_impl_RowsOk_lp0 {R : Type} (N : Nat) (l2 : List (Int × Int)) (K0 : Option R) (K1 : Int → Bool → Option R) : Nat → Int → Option R
  | 0, _ => none
  | n + 1, t5 =>
    (bif decide (t5 < (ilen l2)) then
    (bif inb t5 (List.length l2) then
      ((T_impl_isCell N (List.getD l2 (Int.toNat t5) ((0 : Int), (0 : Int))).1).bind fun o12 =>
        (bif !o12.2.1 then
          K0
          else
          ((T_impl_isValue N (List.getD l2 (Int.toNat t5) ((0 : Int), (0 : Int))).2).bind fun o13 =>
            (bif !o13.2.1 then
              K0
              else
              (T_impl_RowsOk_lp0 N l2 K0 K1 n (iadd .i64 t5 (1 : Int))))))) else none)
    else
    (K1 t5 (decide (t5 < (ilen l2)))))

noncomputable def T_impl_RowsOk (N : Nat) (l1 : List (Int × Int)) : Option (Unit × (Bool × Unit)) :=
    (T_impl_RowsOk_lp0 N l1
    (some ((), (false, ())))
    (fun t14 t15 =>
      (some ((), (decide ((ilen l1) ≤ (300 : Int)), ()))))
     N (0 : Int))

noncomputable def T_impl_copyInts (N : Nat) (l1 : List Int) : Option (Unit × ((List Int) × Unit)) :=
    (bif room (List.length l1) then
    (some ((), (l1, ()))) else none)

noncomputable def T_impl_copyRows (N : Nat) (l1 : List (Int × Int)) : Option (Unit × ((List (Int × Int)) × Unit)) :=
    (bif room (List.length l1) then
    (some ((), (l1, ()))) else none)

noncomputable def T_impl_EagerCut_lp0 {R : Type} (N : Nat) (log7 : List (Int × Int)) (n8 : Int) (K0 : Int → Bool → (List Int) → Option R) : Nat → Int → (List Int) → Option R
  | 0, _, _ => none
  | n + 1, i9, l10 =>
    (bif decide (i9 ≥ n8) then
    (bif inb i9 (List.length log7) then
      (bif inb i9 (List.length log7) then
        (bif inb (List.getD log7 (Int.toNat i9) ((0 : Int), (0 : Int))).1 (List.length l10) then
          (T_impl_EagerCut_lp0 N log7 n8 K0 n (isub .i64 i9 (1 : Int)) (List.set l10 (Int.toNat (List.getD log7 (Int.toNat i9) ((0 : Int), (0 : Int))).1) (List.getD log7 (Int.toNat i9) ((0 : Int), (0 : Int))).2)) else none) else none) else none)
    else
    (K0 i9 (decide (i9 ≥ n8)) l10))

noncomputable def T_impl_EagerCut (N : Nat) (cells1 : List Int) (log2 : List (Int × Int)) (n3 : Int) : Option (Unit × ((List Int) × ((List (Int × Int)) × Unit))) :=
    ((T_impl_areValues N cells1 (8 : Int)).bind fun o4 =>
    (bif !o4.2.1 then
      (some ((), (([] : List Int), (([] : List (Int × Int)), ()))))
      else
      ((T_impl_RowsOk N log2).bind fun o5 =>
        (bif !o5.2.1 then
          (some ((), (([] : List Int), (([] : List (Int × Int)), ()))))
          else
          (bif decide (n3 < (0 : Int)) then
            (some ((), (([] : List Int), (([] : List (Int × Int)), ()))))
            else
            ((T_impl_copyInts N cells1).bind fun o6 =>
              (T_impl_EagerCut_lp0 N log2 n3
                (fun i14 t15 l16 =>
                  (bif (decide ((0 : Int) ≤ (minI n3 (ilen log2)))) && (decide ((minI n3 (ilen log2)) ≤ ((List.length log2) : Int))) then
                    ((T_impl_copyRows N (List.take (Int.toNat (minI n3 (ilen log2))) log2)).bind fun o17 =>
                      (some ((), (l16, (o17.2.1, ()))))) else none))
                 N (isub .i64 (ilen log2) (1 : Int)) o6.2.1)))))))

noncomputable def T_laws_eqIntS_lp0 {R : Type} (N : Nat) (a3 : List Int) (b4 : List Int) (K0 : Option R) (K1 : Int → Bool → Option R) : Nat → Int → Option R
  | 0, _ => none
  | n + 1, i5 =>
    (bif decide (i5 < (ilen a3)) then
    (bif inb i5 (List.length a3) then
      (bif inb i5 (List.length b4) then
        (bif (List.getD a3 (Int.toNat i5) (0 : Int)) != (List.getD b4 (Int.toNat i5) (0 : Int)) then
          K0
          else
          (T_laws_eqIntS_lp0 N a3 b4 K0 K1 n (iadd .i64 i5 (1 : Int)))) else none) else none)
    else
    (K1 i5 (decide (i5 < (ilen a3)))))

noncomputable def T_laws_eqIntS (N : Nat) (a1 : List Int) (b2 : List Int) : Option (Unit × (Bool × Unit)) :=
    (bif (ilen a1) != (ilen b2) then
    (some ((), (false, ())))
    else
    (T_laws_eqIntS_lp0 N a1 b2
      (some ((), (false, ())))
      (fun i8 t9 =>
        (some ((), (true, ()))))
       N (0 : Int)))

noncomputable def T_laws_eqRow (N : Nat) (a1 : Int × Int) (b2 : Int × Int) : Option (Unit × (Bool × Unit)) :=
    (bif a1.1 != b2.1 then
    (some ((), (false, ())))
    else
    (bif a1.2 != b2.2 then
      (some ((), (false, ())))
      else
      (some ((), (true, ())))))

noncomputable def T_laws_eqRowS_lp0 {R : Type} (N : Nat) (a3 : List (Int × Int)) (b4 : List (Int × Int)) (K0 : Option R) (K1 : Int → Bool → Option R) : Nat → Int → Option R
  | 0, _ => none
  | n + 1, i5 =>
    (bif decide (i5 < (ilen a3)) then
    (bif inb i5 (List.length a3) then
      (bif inb i5 (List.length b4) then
        ((T_laws_eqRow N (List.getD a3 (Int.toNat i5) ((0 : Int), (0 : Int))) (List.getD b4 (Int.toNat i5) ((0 : Int), (0 : Int)))).bind fun o9 =>
          (bif !o9.2.1 then
            K0
            else
            (T_laws_eqRowS_lp0 N a3 b4 K0 K1 n (iadd .i64 i5 (1 : Int))))) else none) else none)
    else
    (K1 i5 (decide (i5 < (ilen a3)))))

noncomputable def T_laws_eqRowS (N : Nat) (a1 : List (Int × Int)) (b2 : List (Int × Int)) : Option (Unit × (Bool × Unit)) :=
    (bif (ilen a1) != (ilen b2) then
    (some ((), (false, ())))
    else
    (T_laws_eqRowS_lp0 N a1 b2
      (some ((), (false, ())))
      (fun i10 t11 =>
        (some ((), (true, ()))))
       N (0 : Int)))

noncomputable def T_laws_markIntS_lp0 {R : Type} (N : Nat) (K0 : Int → Int → Bool → (List Int) → Option R) : Nat → Int → Int → (List Int) → Option R
  | 0, _, _, _ => none
  | n + 1, k3, i4, l5 =>
    (bif decide (i4 < (ilen l5)) then
    (bif inb i4 (List.length l5) then
      (T_laws_markIntS_lp0 N K0 n (iadd .i64 k3 (1 : Int)) (iadd .i64 i4 (1 : Int)) (List.set l5 (Int.toNat i4) k3)) else none)
    else
    (K0 k3 i4 (decide (i4 < (ilen l5))) l5))

noncomputable def T_laws_markIntS (N : Nat) (a1 : List Int) (k2 : Int) : Option (((List Int) × Unit) × (Int × Unit)) :=
    (T_laws_markIntS_lp0 N
    (fun k10 i11 t12 l13 =>
      (some ((l13, ()), (k10, ()))))
     N k2 (0 : Int) a1)

noncomputable def T_laws_markRowS_lp0 {R : Type} (N : Nat) (K0 : Int → Int → Bool → (List (Int × Int)) → Option R) : Nat → Int → Int → (List (Int × Int)) → Option R
  | 0, _, _, _ => none
  | n + 1, k3, i4, l5 =>
    (bif decide (i4 < (ilen l5)) then
    (bif inb i4 (List.length l5) then
      (bif inb i4 (List.length (List.set l5 (Int.toNat i4) (k3, (List.getD l5 (Int.toNat i4) ((0 : Int), (0 : Int))).2))) then
        (T_laws_markRowS_lp0 N K0 n (iadd .i64 (iadd .i64 k3 (1 : Int)) (1 : Int)) (iadd .i64 i4 (1 : Int)) (List.set (List.set l5 (Int.toNat i4) (k3, (List.getD l5 (Int.toNat i4) ((0 : Int), (0 : Int))).2)) (Int.toNat i4) ((List.getD (List.set l5 (Int.toNat i4) (k3, (List.getD l5 (Int.toNat i4) ((0 : Int), (0 : Int))).2)) (Int.toNat i4) ((0 : Int), (0 : Int))).1, iadd .i64 k3 (1 : Int)))) else none) else none)
    else
    (K0 k3 i4 (decide (i4 < (ilen l5))) l5))

noncomputable def T_laws_markRowS (N : Nat) (a1 : List (Int × Int)) (k2 : Int) : Option (((List (Int × Int)) × Unit) × (Int × Unit)) :=
    (T_laws_markRowS_lp0 N
    (fun k10 i11 t12 l13 =>
      (some ((l13, ()), (k10, ()))))
     N k2 (0 : Int) a1)

noncomputable def T_laws_heldIntS_lp0 {R : Type} (N : Nat) (a3 : List Int) (K0 : Option R) (K1 : Int → Int → Bool → Option R) : Nat → Int → Int → Option R
  | 0, _, _ => none
  | n + 1, k4, i5 =>
    (bif decide (i5 < (ilen a3)) then
    (bif inb i5 (List.length a3) then
      (bif (List.getD a3 (Int.toNat i5) (0 : Int)) != k4 then
        K0
        else
        (T_laws_heldIntS_lp0 N a3 K0 K1 n (iadd .i64 k4 (1 : Int)) (iadd .i64 i5 (1 : Int)))) else none)
    else
    (K1 k4 i5 (decide (i5 < (ilen a3)))))

noncomputable def T_laws_heldIntS (N : Nat) (a1 : List Int) (k2 : Int) : Option (Unit × (Int × Unit)) :=
    (T_laws_heldIntS_lp0 N a1
    (some ((), ((-1 : Int), ())))
    (fun k9 i10 t11 =>
      (some ((), (k9, ()))))
     N k2 (0 : Int))

noncomputable def T_laws_heldRowS_lp0 {R : Type} (N : Nat) (a3 : List (Int × Int)) (K0 : Option R) (K1 : Int → Int → Bool → Option R) : Nat → Int → Int → Option R
  | 0, _, _ => none
  | n + 1, k4, i5 =>
    (bif decide (i5 < (ilen a3)) then
    (bif inb i5 (List.length a3) then
      (bif (List.getD a3 (Int.toNat i5) ((0 : Int), (0 : Int))).1 != k4 then
        K0
        else
        (bif inb i5 (List.length a3) then
          (bif (List.getD a3 (Int.toNat i5) ((0 : Int), (0 : Int))).2 != (iadd .i64 k4 (1 : Int)) then
            K0
            else
            (T_laws_heldRowS_lp0 N a3 K0 K1 n (iadd .i64 (iadd .i64 k4 (1 : Int)) (1 : Int)) (iadd .i64 i5 (1 : Int)))) else none)) else none)
    else
    (K1 k4 i5 (decide (i5 < (ilen a3)))))

noncomputable def T_laws_heldRowS (N : Nat) (a1 : List (Int × Int)) (k2 : Int) : Option (Unit × (Int × Unit)) :=
    (T_laws_heldRowS_lp0 N a1
    (some ((), ((-1 : Int), ())))
    (fun k9 i10 t11 =>
      (some ((), (k9, ()))))
     N k2 (0 : Int))

noncomputable def T_laws_FnExactEagerCut (N : Nat) (aCells1 : List Int) (aLog2 : List (Int × Int)) (aN3 : Int) : Option (Unit × (Bool × Unit)) :=
    (bif decide ((ilen aCells1) > (1048576 : Int)) then
    (some ((), (true, ())))
    else
    ((T_laws_szRowS N aLog2 (1048576 : Int)).bind fun o4 =>
      (bif decide (o4.2.1 < (0 : Int)) then
        (some ((), (true, ())))
        else
        ((T_laws_toIntS N aCells1).bind fun o5 =>
          ((T_laws_toRowS N aLog2).bind fun o6 =>
            ((T_spec_EagerCut N o5.2.1 o6.2.1 aN3).bind fun o7 =>
              ((T_laws_toIntS N aCells1).bind fun o8 =>
                ((T_laws_toRowS N aLog2).bind fun o9 =>
                  ((T_impl_EagerCut N o8.2.1 o9.2.1 aN3).bind fun o10 =>
                    ((T_laws_eqIntS N o10.2.1 o7.2.1).bind fun o11 =>
                      (bif !o11.2.1 then
                        (some ((), (false, ())))
                        else
                        ((T_laws_eqRowS N o10.2.2.1 o7.2.2.1).bind fun o12 =>
                          (bif !o12.2.1 then
                            (some ((), (false, ())))
                            else
                            ((T_laws_toIntS N aCells1).bind fun o13 =>
                              ((T_laws_eqIntS N o8.2.1 o13.2.1).bind fun o14 =>
                                (bif !o14.2.1 then
                                  (some ((), (false, ())))
                                  else
                                  ((T_laws_toRowS N aLog2).bind fun o15 =>
                                    ((T_laws_eqRowS N o9.2.1 o15.2.1).bind fun o16 =>
                                      (bif !o16.2.1 then
                                        (some ((), (false, ())))
                                        else
                                        ((T_laws_markIntS N o8.2.1 (1 : Int)).bind fun o17 =>
                                          ((T_laws_markRowS N o9.2.1 o17.2.1).bind fun o18 =>
                                            (bif decide (o18.2.1 < (0 : Int)) then
                                              (some ((), (false, ())))
                                              else
                                              ((T_laws_eqIntS N o10.2.1 o7.2.1).bind fun o19 =>
                                                (bif !o19.2.1 then
                                                  (some ((), (false, ())))
                                                  else
                                                  ((T_laws_eqRowS N o10.2.2.1 o7.2.2.1).bind fun o20 =>
                                                    (bif !o20.2.1 then
                                                      (some ((), (false, ())))
                                                      else
                                                      ((T_laws_markIntS N o10.2.1 (1 : Int)).bind fun o21 =>
                                                        ((T_laws_markRowS N o10.2.2.1 o21.2.1).bind fun o22 =>
                                                          ((T_laws_heldIntS N o21.1.1 (1 : Int)).bind fun o23 =>
                                                            (bif decide (o23.2.1 < (0 : Int)) then
                                                              (some ((), (false, ())))
                                                              else
                                                              ((T_laws_heldRowS N o22.1.1 o23.2.1).bind fun o24 =>
                                                                (bif decide (o24.2.1 < (0 : Int)) then
                                                                  (some ((), (false, ())))
                                                                  else
                                                                  (bif o24.2.1 != o22.2.1 then
                                                                    (some ((), (false, ())))
                                                                    else
                                                                    ((T_laws_toIntS N aCells1).bind fun o25 =>
                                                                      ((T_laws_toRowS N aLog2).bind fun o26 =>
                                                                        ((T_impl_EagerCut N o25.2.1 o26.2.1 aN3).bind fun o27 =>
                                                                          ((T_laws_eqIntS N o27.2.1 o7.2.1).bind fun o28 =>
                                                                            (bif !o28.2.1 then
                                                                              (some ((), (false, ())))
                                                                              else
                                                                              ((T_laws_eqRowS N o27.2.2.1 o7.2.2.1).bind fun o29 =>
                                                                                (bif !o29.2.1 then
                                                                                  (some ((), (false, ())))
                                                                                  else
                                                                                  ((T_laws_heldIntS N o21.1.1 (1 : Int)).bind fun o30 =>
                                                                                    (bif decide (o30.2.1 < (0 : Int)) then
                                                                                      (some ((), (false, ())))
                                                                                      else
                                                                                      ((T_laws_heldRowS N o22.1.1 o30.2.1).bind fun o31 =>
                                                                                        (bif decide (o31.2.1 < (0 : Int)) then
                                                                                          (some ((), (false, ())))
                                                                                          else
                                                                                          (bif o31.2.1 != o22.2.1 then
                                                                                            (some ((), (false, ())))
                                                                                            else
                                                                                            (some ((), (true, ()))))))))))))))))))))))))))))))))))))))))))))))))

noncomputable def T_spec_EagerBack (N : Nat) (cells1 : List Int) (log2 : List (Int × Int)) : Option (Unit × ((List Int) × Unit)) :=
    ((T_spec_EagerCut N cells1 log2 (0 : Int)).bind fun o3 =>
    (some ((), (o3.2.1, ()))))

noncomputable def T_impl_EagerBack (N : Nat) (cells1 : List Int) (log2 : List (Int × Int)) : Option (Unit × ((List Int) × Unit)) :=
    ((T_impl_EagerCut N cells1 log2 (0 : Int)).bind fun o3 =>
    (some ((), (o3.2.1, ()))))

noncomputable def T_laws_FnExactEagerBack (N : Nat) (aCells1 : List Int) (aLog2 : List (Int × Int)) : Option (Unit × (Bool × Unit)) :=
    (bif decide ((ilen aCells1) > (1048576 : Int)) then
    (some ((), (true, ())))
    else
    ((T_laws_szRowS N aLog2 (1048576 : Int)).bind fun o3 =>
      (bif decide (o3.2.1 < (0 : Int)) then
        (some ((), (true, ())))
        else
        ((T_laws_toIntS N aCells1).bind fun o4 =>
          ((T_laws_toRowS N aLog2).bind fun o5 =>
            ((T_spec_EagerBack N o4.2.1 o5.2.1).bind fun o6 =>
              ((T_laws_toIntS N aCells1).bind fun o7 =>
                ((T_laws_toRowS N aLog2).bind fun o8 =>
                  ((T_impl_EagerBack N o7.2.1 o8.2.1).bind fun o9 =>
                    ((T_laws_eqIntS N o9.2.1 o6.2.1).bind fun o10 =>
                      (bif !o10.2.1 then
                        (some ((), (false, ())))
                        else
                        ((T_laws_toIntS N aCells1).bind fun o11 =>
                          ((T_laws_eqIntS N o7.2.1 o11.2.1).bind fun o12 =>
                            (bif !o12.2.1 then
                              (some ((), (false, ())))
                              else
                              ((T_laws_toRowS N aLog2).bind fun o13 =>
                                ((T_laws_eqRowS N o8.2.1 o13.2.1).bind fun o14 =>
                                  (bif !o14.2.1 then
                                    (some ((), (false, ())))
                                    else
                                    ((T_laws_markIntS N o7.2.1 (1 : Int)).bind fun o15 =>
                                      ((T_laws_markRowS N o8.2.1 o15.2.1).bind fun o16 =>
                                        (bif decide (o16.2.1 < (0 : Int)) then
                                          (some ((), (false, ())))
                                          else
                                          ((T_laws_eqIntS N o9.2.1 o6.2.1).bind fun o17 =>
                                            (bif !o17.2.1 then
                                              (some ((), (false, ())))
                                              else
                                              ((T_laws_markIntS N o9.2.1 (1 : Int)).bind fun o18 =>
                                                ((T_laws_heldIntS N o18.1.1 (1 : Int)).bind fun o19 =>
                                                  (bif decide (o19.2.1 < (0 : Int)) then
                                                    (some ((), (false, ())))
                                                    else
                                                    (bif o19.2.1 != o18.2.1 then
                                                      (some ((), (false, ())))
                                                      else
                                                      ((T_laws_toIntS N aCells1).bind fun o20 =>
                                                        ((T_laws_toRowS N aLog2).bind fun o21 =>
                                                          ((T_impl_EagerBack N o20.2.1 o21.2.1).bind fun o22 =>
                                                            ((T_laws_eqIntS N o22.2.1 o6.2.1).bind fun o23 =>
                                                              (bif !o23.2.1 then
                                                                (some ((), (false, ())))
                                                                else
                                                                ((T_laws_heldIntS N o18.1.1 (1 : Int)).bind fun o24 =>
                                                                  (bif decide (o24.2.1 < (0 : Int)) then
                                                                    (some ((), (false, ())))
                                                                    else
                                                                    (bif o24.2.1 != o18.2.1 then
                                                                      (some ((), (false, ())))
                                                                      else
                                                                      (some ((), (true, ())))))))))))))))))))))))))))))))))))))

noncomputable def T_laws_szTripleS (N : Nat) (a1 : List (Int × Int × Int)) (left2 : Int) : Option (Unit × (Int × Unit)) :=
    (bif decide ((isub .i64 left2 (ilen a1)) < (0 : Int)) then
    (some ((), ((-1 : Int), ())))
    else
    (some ((), (isub .i64 left2 (ilen a1), ()))))

noncomputable def T_laws_toTriple (N : Nat) (a1 : Int × Int × Int) : Option (Unit × ((Int × Int × Int) × Unit)) :=
    (some ((), (a1, ())))

noncomputable def T_laws_toTripleS_lp0 {R : Type} (N : Nat) (a2 : List (Int × Int × Int)) (K0 : Int → Bool → (List (Int × Int × Int)) → Option R) : Nat → Int → (List (Int × Int × Int)) → Option R
  | 0, _, _ => none
  | n + 1, i3, l4 =>
    (bif decide (i3 < (ilen a2)) then
    (bif inb i3 (List.length a2) then
      ((T_laws_toTriple N (List.getD a2 (Int.toNat i3) ((0 : Int), ((0 : Int), (0 : Int))))).bind fun o9 =>
        (bif inb i3 (List.length l4) then
          (T_laws_toTripleS_lp0 N a2 K0 n (iadd .i64 i3 (1 : Int)) (List.set l4 (Int.toNat i3) o9.2.1)) else none)) else none)
    else
    (K0 i3 (decide (i3 < (ilen a2))) l4))

noncomputable def T_laws_toTripleS (N : Nat) (a1 : List (Int × Int × Int)) : Option (Unit × ((List (Int × Int × Int)) × Unit)) :=
    (bif ((decide ((0 : Int) ≤ (ilen a1))) && (decide ((ilen a1) ≤ (ilen a1)))) && (room (Int.toNat (ilen a1))) then
    (T_laws_toTripleS_lp0 N a1
      (fun i10 t11 l12 =>
        (some ((), (l12, ()))))
       N (0 : Int) (List.replicate (Int.toNat (ilen a1)) ((0 : Int), ((0 : Int), (0 : Int))))) else none)

noncomputable def T_spec_l25Ok (N : Nat) (t1 : Int × Int × Int) : Option (Unit × (Bool × Unit)) :=
    ((T_spec_l3Val N t1.1).bind fun o2 =>
    (bif o2.2.1 then
      ((T_spec_l3Val N t1.2.1).bind fun o3 =>
        (bif o3.2.1 then
          ((T_spec_l3Val N t1.2.2).bind fun o4 =>
            (some ((), (o4.2.1, ()))))
          else
          (some ((), (false, ())))))
      else
      (some ((), (false, ())))))

noncomputable def T_spec_TriplesOk_lp0 {R : Type} (N : Nat) (l2 : List (Int × Int × Int)) (K0 : Option R) (K1 : Int → Bool → Option R) : Nat → Int → Option R
  | 0, _ => none
  | n + 1, i3 =>
    (bif decide (i3 < (ilen l2)) then
    (bif inb i3 (List.length l2) then
      ((T_spec_l25Ok N (List.getD l2 (Int.toNat i3) ((0 : Int), ((0 : Int), (0 : Int))))).bind fun o7 =>
        (bif !o7.2.1 then
          K0
          else
          (T_spec_TriplesOk_lp0 N l2 K0 K1 n (iadd .i64 i3 (1 : Int))))) else none)
    else
    (K1 i3 (decide (i3 < (ilen l2)))))

noncomputable def T_spec_TriplesOk (N : Nat) (l1 : List (Int × Int × Int)) : Option (Unit × (Bool × Unit)) :=
    (bif decide ((ilen l1) > (20 : Int)) then
    (some ((), (false, ())))
    else
    (T_spec_TriplesOk_lp0 N l1
      (some ((), (false, ())))
      (fun i8 t9 =>
        (some ((), (true, ()))))
       N (0 : Int)))

noncomputable def T_spec_SeqValue (N : Nat) (start1 : Int × Int × Int) (l2 : List (Int × Int × Int)) (seq3 : Int) : Option (Unit × ((Int × Int × Int) × (Bool × Unit))) :=
    ((T_spec_l25Ok N start1).bind fun o4 =>
    (bif !o4.2.1 then
      (some ((), (((0 : Int), ((0 : Int), (0 : Int))), (false, ()))))
      else
      ((T_spec_TriplesOk N l2).bind fun o5 =>
        (bif !o5.2.1 then
          (some ((), (((0 : Int), ((0 : Int), (0 : Int))), (false, ()))))
          else
          ((T_spec_l1In N seq3 (0 : Int) (imul .i64 (2 : Int) (ilen l2))).bind fun o6 =>
            (bif !o6.2.1 then
              (some ((), (((0 : Int), ((0 : Int), (0 : Int))), (false, ()))))
              else
              (bif inz (2 : Int) then
                (bif (irem seq3 (2 : Int)) == (1 : Int) then
                  (some ((), (((0 : Int), ((0 : Int), (0 : Int))), (false, ()))))
                  else
                  (bif seq3 == (0 : Int) then
                    (some ((), (start1, (true, ()))))
                    else
                    (bif inz (2 : Int) then
                      (bif inb (isub .i64 (iquo .i64 seq3 (2 : Int)) (1 : Int)) (List.length l2) then
                        (some ((), (List.getD l2 (Int.toNat (isub .i64 (iquo .i64 seq3 (2 : Int)) (1 : Int))) ((0 : Int), ((0 : Int), (0 : Int))), (true, ())))) else none) else none))) else none)))))))

noncomputable def T_impl_isTriple (N : Nat) (t1 : Int × Int × Int) : Option (Unit × (Bool × Unit)) :=
    ((T_impl_isValue N t1.1).bind fun o2 =>
    (bif o2.2.1 then
      ((T_impl_isValue N t1.2.1).bind fun o3 =>
        (bif o3.2.1 then
          ((T_impl_isValue N t1.2.2).bind fun o4 =>
            (some ((), (o4.2.1, ()))))
          else
          (some ((), (false, ())))))
      else
      (some ((), (false, ())))))

noncomputable def T_impl_TriplesOk_lp0 {R : Type} (N : Nat) (l2 : List (Int × Int × Int)) (K0 : Option R) (K1 : Int → Bool → Option R) : Nat → Int → Option R
  | 0, _ => none
  | n + 1, t5 =>
    (bif decide (t5 < (ilen l2)) then
    (bif inb t5 (List.length l2) then
      ((T_impl_isTriple N (List.getD l2 (Int.toNat t5) ((0 : Int), ((0 : Int), (0 : Int))))).bind fun o10 =>
        (bif !o10.2.1 then
          K0
          else
          (T_impl_TriplesOk_lp0 N l2 K0 K1 n (iadd .i64 t5 (1 : Int))))) else none)
    else
    (K1 t5 (decide (t5 < (ilen l2)))))

noncomputable def T_impl_TriplesOk (N : Nat) (l1 : List (Int × Int × Int)) : Option (Unit × (Bool × Unit)) :=
    (T_impl_TriplesOk_lp0 N l1
    (some ((), (false, ())))
    (fun t11 t12 =>
      (some ((), (decide ((ilen l1) ≤ (20 : Int)), ()))))
     N (0 : Int))

noncomputable def T_impl_SeqValue (N : Nat) (start1 : Int × Int × Int) (l2 : List (Int × Int × Int)) (seq3 : Int) : Option (Unit × ((Int × Int × Int) × (Bool × Unit))) :=
    ((T_impl_isTriple N start1).bind fun o4 =>
    (bif !o4.2.1 then
      (some ((), (((0 : Int), ((0 : Int), (0 : Int))), (false, ()))))
      else
      ((T_impl_TriplesOk N l2).bind fun o5 =>
        (bif !o5.2.1 then
          (some ((), (((0 : Int), ((0 : Int), (0 : Int))), (false, ()))))
          else
          ((T_impl_within N seq3 (0 : Int) (imul .i64 (2 : Int) (ilen l2))).bind fun o6 =>
            (bif !o6.2.1 then
              (some ((), (((0 : Int), ((0 : Int), (0 : Int))), (false, ()))))
              else
              (bif inz (2 : Int) then
                (bif (irem seq3 (2 : Int)) == (1 : Int) then
                  (some ((), (((0 : Int), ((0 : Int), (0 : Int))), (false, ()))))
                  else
                  (bif seq3 == (0 : Int) then
                    (some ((), (start1, (true, ()))))
                    else
                    (bif inz (2 : Int) then
                      (bif inb (isub .i64 (iquo .i64 seq3 (2 : Int)) (1 : Int)) (List.length l2) then
                        (some ((), (List.getD l2 (Int.toNat (isub .i64 (iquo .i64 seq3 (2 : Int)) (1 : Int))) ((0 : Int), ((0 : Int), (0 : Int))), (true, ())))) else none) else none))) else none)))))))

noncomputable def T_laws_eqTriple (N : Nat) (a1 : Int × Int × Int) (b2 : Int × Int × Int) : Option (Unit × (Bool × Unit)) :=
    (bif a1.1 != b2.1 then
    (some ((), (false, ())))
    else
    (bif a1.2.1 != b2.2.1 then
      (some ((), (false, ())))
      else
      (bif a1.2.2 != b2.2.2 then
        (some ((), (false, ())))
        else
        (some ((), (true, ()))))))

noncomputable def T_laws_eqTripleS_lp0 {R : Type} (N : Nat) (a3 : List (Int × Int × Int)) (b4 : List (Int × Int × Int)) (K0 : Option R) (K1 : Int → Bool → Option R) : Nat → Int → Option R
  | 0, _ => none
  | n + 1, i5 =>
    (bif decide (i5 < (ilen a3)) then
    (bif inb i5 (List.length a3) then
      (bif inb i5 (List.length b4) then
        ((T_laws_eqTriple N (List.getD a3 (Int.toNat i5) ((0 : Int), ((0 : Int), (0 : Int)))) (List.getD b4 (Int.toNat i5) ((0 : Int), ((0 : Int), (0 : Int))))).bind fun o9 =>
          (bif !o9.2.1 then
            K0
            else
            (T_laws_eqTripleS_lp0 N a3 b4 K0 K1 n (iadd .i64 i5 (1 : Int))))) else none) else none)
    else
    (K1 i5 (decide (i5 < (ilen a3)))))

noncomputable def T_laws_eqTripleS (N : Nat) (a1 : List (Int × Int × Int)) (b2 : List (Int × Int × Int)) : Option (Unit × (Bool × Unit)) :=
    (bif (ilen a1) != (ilen b2) then
    (some ((), (false, ())))
    else
    (T_laws_eqTripleS_lp0 N a1 b2
      (some ((), (false, ())))
      (fun i10 t11 =>
        (some ((), (true, ()))))
       N (0 : Int)))

noncomputable def T_laws_FnExactSeqValue (N : Nat) (aStart1 : Int × Int × Int) (aL2 : List (Int × Int × Int)) (aSeq3 : Int) : Option (Unit × (Bool × Unit)) :=
    ((T_laws_szTripleS N aL2 (1048576 : Int)).bind fun o4 =>
    (bif decide (o4.2.1 < (0 : Int)) then
      (some ((), (true, ())))
      else
      ((T_laws_toTriple N aStart1).bind fun o5 =>
        ((T_laws_toTripleS N aL2).bind fun o6 =>
          ((T_spec_SeqValue N o5.2.1 o6.2.1 aSeq3).bind fun o7 =>
            ((T_laws_toTripleS N aL2).bind fun o8 =>
              ((T_laws_toTriple N aStart1).bind fun o9 =>
                ((T_impl_SeqValue N o9.2.1 o8.2.1 aSeq3).bind fun o10 =>
                  ((T_laws_eqTriple N o10.2.1 o7.2.1).bind fun o11 =>
                    (bif !o11.2.1 then
                      (some ((), (false, ())))
                      else
                      (bif !(beq o10.2.2.1 o7.2.2.1) then
                        (some ((), (false, ())))
                        else
                        ((T_laws_toTripleS N aL2).bind fun o12 =>
                          ((T_laws_eqTripleS N o8.2.1 o12.2.1).bind fun o13 =>
                            (bif !o13.2.1 then
                              (some ((), (false, ())))
                              else
                              (some ((), (true, ())))))))))))))))))

noncomputable def T_laws_FnExactTriplesOk (N : Nat) (aL1 : List (Int × Int × Int)) : Option (Unit × (Bool × Unit)) :=
    ((T_laws_szTripleS N aL1 (1048576 : Int)).bind fun o2 =>
    (bif decide (o2.2.1 < (0 : Int)) then
      (some ((), (true, ())))
      else
      ((T_laws_toTripleS N aL1).bind fun o3 =>
        ((T_spec_TriplesOk N o3.2.1).bind fun o4 =>
          ((T_laws_toTripleS N aL1).bind fun o5 =>
            ((T_impl_TriplesOk N o5.2.1).bind fun o6 =>
              (bif !(beq o6.2.1 o4.2.1) then
                (some ((), (false, ())))
                else
                ((T_laws_toTripleS N aL1).bind fun o7 =>
                  ((T_laws_eqTripleS N o5.2.1 o7.2.1).bind fun o8 =>
                    (bif !o8.2.1 then
                      (some ((), (false, ())))
                      else
                      (some ((), (true, ())))))))))))))

end Go.Sx
