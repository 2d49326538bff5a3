/- What each Go function computes, as a Lean function. -/
import Derived.Test.YtglbfgeahjjnoaaM3
namespace Go.Sx
set_option linter.unusedVariables false

noncomputable def T_laws_szIntS (N : Nat) (a1 : List Int) (left2 : Int) : Option (Unit × (Int × Unit)) :=
    (bif decide ((isub .i64 left2 (ilen a1)) < (0 : Int)) then
    (some ((), ((-1 : Int), ())))
    else
    (some ((), (isub .i64 left2 (ilen a1), ()))))

noncomputable def T_laws_szBoolS (N : Nat) (a1 : List Bool) (left2 : Int) : Option (Unit × (Int × Unit)) :=
    (bif decide ((isub .i64 left2 (ilen a1)) < (0 : Int)) then
    (some ((), ((-1 : Int), ())))
    else
    (some ((), (isub .i64 left2 (ilen a1), ()))))

noncomputable def T_laws_szEpBagS (N : Nat) (a1 : List (Int × Int)) (left2 : Int) : Option (Unit × (Int × Unit)) :=
    (bif decide ((isub .i64 left2 (ilen a1)) < (0 : Int)) then
    (some ((), ((-1 : Int), ())))
    else
    (some ((), (isub .i64 left2 (ilen a1), ()))))

noncomputable def T_laws_szEpHoldS (N : Nat) (a1 : List (Int × Int)) (left2 : Int) : Option (Unit × (Int × Unit)) :=
    (bif decide ((isub .i64 left2 (ilen a1)) < (0 : Int)) then
    (some ((), ((-1 : Int), ())))
    else
    (some ((), (isub .i64 left2 (ilen a1), ()))))

noncomputable def T_laws_szEpochs (N : Nat) (a1 : Int × List Int × List Bool × List (Int × Int) × List (Int × Int) × List Int) (left2 : Int) : Option (Unit × (Int × Unit)) :=
    ((T_laws_szIntS N a1.2.1 left2).bind fun o3 =>
    (bif decide (o3.2.1 < (0 : Int)) then
      (some ((), ((-1 : Int), ())))
      else
      ((T_laws_szBoolS N a1.2.2.1 o3.2.1).bind fun o4 =>
        (bif decide (o4.2.1 < (0 : Int)) then
          (some ((), ((-1 : Int), ())))
          else
          ((T_laws_szEpBagS N a1.2.2.2.1 o4.2.1).bind fun o5 =>
            (bif decide (o5.2.1 < (0 : Int)) then
              (some ((), ((-1 : Int), ())))
              else
              ((T_laws_szEpHoldS N a1.2.2.2.2.1 o5.2.1).bind fun o6 =>
                (bif decide (o6.2.1 < (0 : Int)) then
                  (some ((), ((-1 : Int), ())))
                  else
                  ((T_laws_szIntS N a1.2.2.2.2.2 o6.2.1).bind fun o7 =>
                    (bif decide (o7.2.1 < (0 : Int)) then
                      (some ((), ((-1 : Int), ())))
                      else
                      (some ((), (o7.2.1, ())))))))))))))

noncomputable def T_laws_toIntS_lp0 {R : Type} (N : Nat) (a2 : List Int) (K0 : Int → Bool → (List Int) → Option R) : Nat → Int → (List Int) → Option R
  | 0, _, _ => none
  | n + 1, i3, l4 =>
    (bif decide (i3 < (ilen a2)) then
    (bif inb i3 (List.length a2) then
      (bif inb i3 (List.length l4) then
        (T_laws_toIntS_lp0 N a2 K0 n (iadd .i64 i3 (1 : Int)) (List.set l4 (Int.toNat i3) (List.getD a2 (Int.toNat i3) (0 : Int)))) else none) else none)
    else
    (K0 i3 (decide (i3 < (ilen a2))) l4))

noncomputable def T_laws_toIntS (N : Nat) (a1 : List Int) : Option (Unit × ((List Int) × Unit)) :=
    (bif ((decide ((0 : Int) ≤ (ilen a1))) && (decide ((ilen a1) ≤ (ilen a1)))) && (room (Int.toNat (ilen a1))) then
    (T_laws_toIntS_lp0 N a1
      (fun i8 t9 l10 =>
        (some ((), (l10, ()))))
       N (0 : Int) (List.replicate (Int.toNat (ilen a1)) (0 : Int))) else none)

noncomputable def T_laws_toBoolS_lp0 {R : Type} (N : Nat) (a2 : List Bool) (K0 : Int → Bool → (List Bool) → Option R) : Nat → Int → (List Bool) → Option R
  | 0, _, _ => none
  | n + 1, i3, l4 =>
    (bif decide (i3 < (ilen a2)) then
    (bif inb i3 (List.length a2) then
      (bif inb i3 (List.length l4) then
        (T_laws_toBoolS_lp0 N a2 K0 n (iadd .i64 i3 (1 : Int)) (List.set l4 (Int.toNat i3) (List.getD a2 (Int.toNat i3) false))) else none) else none)
    else
    (K0 i3 (decide (i3 < (ilen a2))) l4))

noncomputable def T_laws_toBoolS (N : Nat) (a1 : List Bool) : Option (Unit × ((List Bool) × Unit)) :=
    (bif ((decide ((0 : Int) ≤ (ilen a1))) && (decide ((ilen a1) ≤ (ilen a1)))) && (room (Int.toNat (ilen a1))) then
    (T_laws_toBoolS_lp0 N a1
      (fun i8 t9 l10 =>
        (some ((), (l10, ()))))
       N (0 : Int) (List.replicate (Int.toNat (ilen a1)) false)) else none)

noncomputable def T_laws_toEpBag (N : Nat) (a1 : Int × Int) : Option (Unit × ((Int × Int) × Unit)) :=
    (some ((), (a1, ())))

noncomputable def T_laws_toEpBagS_lp0 {R : Type} (N : Nat) (a2 : List (Int × Int)) (K0 : Int → Bool → (List (Int × Int)) → Option R) : Nat → Int → (List (Int × Int)) → Option R
  | 0, _, _ => none
  | n + 1, i3, l4 =>
    (bif decide (i3 < (ilen a2)) then
    (bif inb i3 (List.length a2) then
      ((T_laws_toEpBag N (List.getD a2 (Int.toNat i3) ((0 : Int), (0 : Int)))).bind fun o9 =>
        (bif inb i3 (List.length l4) then
          (T_laws_toEpBagS_lp0 N a2 K0 n (iadd .i64 i3 (1 : Int)) (List.set l4 (Int.toNat i3) o9.2.1)) else none)) else none)
    else
    (K0 i3 (decide (i3 < (ilen a2))) l4))

noncomputable def T_laws_toEpBagS (N : Nat) (a1 : List (Int × Int)) : Option (Unit × ((List (Int × Int)) × Unit)) :=
    (bif ((decide ((0 : Int) ≤ (ilen a1))) && (decide ((ilen a1) ≤ (ilen a1)))) && (room (Int.toNat (ilen a1))) then
    (T_laws_toEpBagS_lp0 N a1
      (fun i10 t11 l12 =>
        (some ((), (l12, ()))))
       N (0 : Int) (List.replicate (Int.toNat (ilen a1)) ((0 : Int), (0 : Int)))) else none)

noncomputable def T_laws_toEpHold (N : Nat) (a1 : Int × Int) : Option (Unit × ((Int × Int) × Unit)) :=
    (some ((), (a1, ())))

noncomputable def T_laws_toEpHoldS_lp0 {R : Type} (N : Nat) (a2 : List (Int × Int)) (K0 : Int → Bool → (List (Int × Int)) → Option R) : Nat → Int → (List (Int × Int)) → Option R
  | 0, _, _ => none
  | n + 1, i3, l4 =>
    (bif decide (i3 < (ilen a2)) then
    (bif inb i3 (List.length a2) then
      ((T_laws_toEpHold N (List.getD a2 (Int.toNat i3) ((0 : Int), (0 : Int)))).bind fun o9 =>
        (bif inb i3 (List.length l4) then
          (T_laws_toEpHoldS_lp0 N a2 K0 n (iadd .i64 i3 (1 : Int)) (List.set l4 (Int.toNat i3) o9.2.1)) else none)) else none)
    else
    (K0 i3 (decide (i3 < (ilen a2))) l4))

noncomputable def T_laws_toEpHoldS (N : Nat) (a1 : List (Int × Int)) : Option (Unit × ((List (Int × Int)) × Unit)) :=
    (bif ((decide ((0 : Int) ≤ (ilen a1))) && (decide ((ilen a1) ≤ (ilen a1)))) && (room (Int.toNat (ilen a1))) then
    (T_laws_toEpHoldS_lp0 N a1
      (fun i10 t11 l12 =>
        (some ((), (l12, ()))))
       N (0 : Int) (List.replicate (Int.toNat (ilen a1)) ((0 : Int), (0 : Int)))) else none)

noncomputable def T_laws_toEpochs (N : Nat) (a1 : Int × List Int × List Bool × List (Int × Int) × List (Int × Int) × List Int) : Option (Unit × ((Int × List Int × List Bool × List (Int × Int) × List (Int × Int) × List Int) × Unit)) :=
    ((T_laws_toIntS N a1.2.1).bind fun o2 =>
    ((T_laws_toBoolS N a1.2.2.1).bind fun o3 =>
      ((T_laws_toEpBagS N a1.2.2.2.1).bind fun o4 =>
        ((T_laws_toEpHoldS N a1.2.2.2.2.1).bind fun o5 =>
          ((T_laws_toIntS N a1.2.2.2.2.2).bind fun o6 =>
            (some ((), ((a1.1, (o2.2.1, (o3.2.1, (o4.2.1, (o5.2.1, o6.2.1))))), ()))))))))

noncomputable def T_spec_EpochSafe_lp1 {R : Type} (N : Nat) (i4 : Int) (b6 : Int × List Int × List Bool × List (Int × Int) × List (Int × Int) × List Int) (K0 : Option R) (K1 : Int → Bool → Option R) : Nat → Int → Option R
  | 0, _ => none
  | n + 1, k5 =>
    (bif decide (k5 < (ilen b6.2.2.2.2.1)) then
    (bif inb k5 (List.length b6.2.2.2.2.1) then
      (bif inb i4 (List.length b6.2.2.2.2.2) then
        (bif (List.getD b6.2.2.2.2.1 (Int.toNat k5) ((0 : Int), (0 : Int))).2 == (List.getD b6.2.2.2.2.2 (Int.toNat i4) (0 : Int)) then
          K0
          else
          (T_spec_EpochSafe_lp1 N i4 b6 K0 K1 n (iadd .i64 k5 (1 : Int)))) else none) else none)
    else
    (K1 k5 (decide (k5 < (ilen b6.2.2.2.2.1)))))

noncomputable def T_spec_EpochSafe_lp0 {R : Type} (N : Nat) (b3 : Int × List Int × List Bool × List (Int × Int) × List (Int × Int) × List Int) (K0 : Option R) (K1 : Int → Bool → Option R) : Nat → Int → Option R
  | 0, _ => none
  | n + 1, i2 =>
    (bif decide (i2 < (ilen b3.2.2.2.2.2)) then
    (T_spec_EpochSafe_lp1 N i2 b3
      K0
      (fun k13 t14 =>
        (T_spec_EpochSafe_lp0 N b3 K0 K1 n (iadd .i64 i2 (1 : Int))))
       N (0 : Int))
    else
    (K1 i2 (decide (i2 < (ilen b3.2.2.2.2.2)))))

noncomputable def T_spec_EpochSafe (N : Nat) (e1 : Int × List Int × List Bool × List (Int × Int) × List (Int × Int) × List Int) : Option (Unit × (Bool × Unit)) :=
    (T_spec_EpochSafe_lp0 N e1
    (some ((), (false, ())))
    (fun i15 t16 =>
      (some ((), (true, ()))))
     N (0 : Int))

noncomputable def T_slices_Index___int_int__lp0 {R : Type} (N : Nat) (s3 : List Int) (v4 : Int) (K0 : Int → Option R) (K1 : Int → Bool → Option R) : Nat → Int → Option R
  | 0, _ => none
  | n + 1, t6 =>
    (bif decide (t6 < (ilen s3)) then
    (bif inb t6 (List.length s3) then
      (bif v4 == (List.getD s3 (Int.toNat t6) (0 : Int)) then
        (K0 t6)
        else
        (T_slices_Index___int_int__lp0 N s3 v4 K0 K1 n (iadd .i64 t6 (1 : Int)))) else none)
    else
    (K1 t6 (decide (t6 < (ilen s3)))))

noncomputable def T_slices_Index___int_int_ (N : Nat) (s1 : List Int) (v2 : Int) : Option (Unit × (Int × Unit)) :=
    (T_slices_Index___int_int__lp0 N s1 v2
    (fun t10 =>
      (some ((), (t10, ()))))
    (fun t11 t12 =>
      (some ((), ((-1 : Int), ()))))
     N (0 : Int))

noncomputable def T_slices_Contains___int_int_ (N : Nat) (s1 : List Int) (v2 : Int) : Option (Unit × (Bool × Unit)) :=
    ((T_slices_Index___int_int_ N s1 v2).bind fun o3 =>
    (some ((), (decide (o3.2.1 ≥ (0 : Int)), ()))))

noncomputable def T_impl_EpochSafe_1 (N : Nat) (h1 : Int × Int) (a2 : Int × List Int × List Bool × List (Int × Int) × List (Int × Int) × List Int) : Option (((Int × List Int × List Bool × List (Int × Int) × List (Int × Int) × List Int) × Unit) × (Bool × Unit)) :=
    ((T_slices_Contains___int_int_ N a2.2.2.2.2.2 h1.2).bind fun o3 =>
    (some ((a2, ()), (o3.2.1, ()))))

noncomputable def T_slices_IndexFunc___impl_EpHold_impl_EpHold___impl_EpochSafe_1_lp0 {R : Type} (N : Nat) (s3 : List (Int × Int)) (K0 : Int → (Int × List Int × List Bool × List (Int × Int) × List (Int × Int) × List Int) → Option R) (K1 : Int → Bool → (Int × List Int × List Bool × List (Int × Int) × List (Int × Int) × List Int) → Option R) : Nat → Int → (Int × List Int × List Bool × List (Int × Int) × List (Int × Int) × List Int) → Option R
  | 0, _, _ => none
  | n + 1, t5, b6 =>
    (bif decide (t5 < (ilen s3)) then
    (bif inb t5 (List.length s3) then
      ((T_impl_EpochSafe_1 N (List.getD s3 (Int.toNat t5) ((0 : Int), (0 : Int))) b6).bind fun o14 =>
        (bif o14.2.1 then
          (K0 t5 o14.1.1)
          else
          (T_slices_IndexFunc___impl_EpHold_impl_EpHold___impl_EpochSafe_1_lp0 N s3 K0 K1 n (iadd .i64 t5 (1 : Int)) o14.1.1))) else none)
    else
    (K1 t5 (decide (t5 < (ilen s3))) b6))

noncomputable def T_slices_IndexFunc___impl_EpHold_impl_EpHold___impl_EpochSafe_1 (N : Nat) (s1 : List (Int × Int)) (cap2 : Int × List Int × List Bool × List (Int × Int) × List (Int × Int) × List Int) : Option (((Int × List Int × List Bool × List (Int × Int) × List (Int × Int) × List Int) × Unit) × (Int × Unit)) :=
    (T_slices_IndexFunc___impl_EpHold_impl_EpHold___impl_EpochSafe_1_lp0 N s1
    (fun t15 b16 =>
      (some ((b16, ()), (t15, ()))))
    (fun t17 t18 b19 =>
      (some ((b19, ()), ((-1 : Int), ()))))
     N (0 : Int) cap2)

noncomputable def T_slices_ContainsFunc___impl_EpHold_impl_EpHold___impl_EpochSafe_1 (N : Nat) (s1 : List (Int × Int)) (cap2 : Int × List Int × List Bool × List (Int × Int) × List (Int × Int) × List Int) : Option (((Int × List Int × List Bool × List (Int × Int) × List (Int × Int) × List Int) × Unit) × (Bool × Unit)) :=
    ((T_slices_IndexFunc___impl_EpHold_impl_EpHold___impl_EpochSafe_1 N s1 cap2).bind fun o3 =>
    (some ((o3.1.1, ()), (decide (o3.2.1 ≥ (0 : Int)), ()))))

noncomputable def T_impl_EpochSafe (N : Nat) (e1 : Int × List Int × List Bool × List (Int × Int) × List (Int × Int) × List Int) : Option (Unit × (Bool × Unit)) :=
    ((T_slices_ContainsFunc___impl_EpHold_impl_EpHold___impl_EpochSafe_1 N e1.2.2.2.2.1 e1).bind fun o2 =>
    (some ((), (!o2.2.1, ()))))

noncomputable def T_laws_eqIntS_lp0 {R : Type} (N : Nat) (a3 : List Int) (b4 : List Int) (K0 : Option R) (K1 : Int → Bool → Option R) : Nat → Int → Option R
  | 0, _ => none
  | n + 1, i5 =>
    (bif decide (i5 < (ilen a3)) then
    (bif inb i5 (List.length a3) then
      (bif inb i5 (List.length b4) then
        (bif (List.getD a3 (Int.toNat i5) (0 : Int)) != (List.getD b4 (Int.toNat i5) (0 : Int)) then
          K0
          else
          (T_laws_eqIntS_lp0 N a3 b4 K0 K1 n (iadd .i64 i5 (1 : Int)))) else none) else none)
    else
    (K1 i5 (decide (i5 < (ilen a3)))))

noncomputable def T_laws_eqIntS (N : Nat) (a1 : List Int) (b2 : List Int) : Option (Unit × (Bool × Unit)) :=
    (bif (ilen a1) != (ilen b2) then
    (some ((), (false, ())))
    else
    (T_laws_eqIntS_lp0 N a1 b2
      (some ((), (false, ())))
      (fun i8 t9 =>
        (some ((), (true, ()))))
       N (0 : Int)))

noncomputable def T_laws_eqBoolS_lp0 {R : Type} (N : Nat) (a3 : List Bool) (b4 : List Bool) (K0 : Option R) (K1 : Int → Bool → Option R) : Nat → Int → Option R
  | 0, _ => none
  | n + 1, i5 =>
    (bif decide (i5 < (ilen a3)) then
    (bif inb i5 (List.length a3) then
      (bif inb i5 (List.length b4) then
        (bif !(beq (List.getD a3 (Int.toNat i5) false) (List.getD b4 (Int.toNat i5) false)) then
          K0
          else
          (T_laws_eqBoolS_lp0 N a3 b4 K0 K1 n (iadd .i64 i5 (1 : Int)))) else none) else none)
    else
    (K1 i5 (decide (i5 < (ilen a3)))))

noncomputable def T_laws_eqBoolS (N : Nat) (a1 : List Bool) (b2 : List Bool) : Option (Unit × (Bool × Unit)) :=
    (bif (ilen a1) != (ilen b2) then
    (some ((), (false, ())))
    else
    (T_laws_eqBoolS_lp0 N a1 b2
      (some ((), (false, ())))
      (fun i8 t9 =>
        (some ((), (true, ()))))
       N (0 : Int)))

noncomputable def T_laws_eqEpBag (N : Nat) (a1 : Int × Int) (b2 : Int × Int) : Option (Unit × (Bool × Unit)) :=
    (bif a1.1 != b2.1 then
    (some ((), (false, ())))
    else
    (bif a1.2 != b2.2 then
      (some ((), (false, ())))
      else
      (some ((), (true, ())))))

noncomputable def T_laws_eqEpBagS_lp0 {R : Type} (N : Nat) (a3 : List (Int × Int)) (b4 : List (Int × Int)) (K0 : Option R) (K1 : Int → Bool → Option R) : Nat → Int → Option R
  | 0, _ => none
  | n + 1, i5 =>
    (bif decide (i5 < (ilen a3)) then
    (bif inb i5 (List.length a3) then
      (bif inb i5 (List.length b4) then
        ((T_laws_eqEpBag N (List.getD a3 (Int.toNat i5) ((0 : Int), (0 : Int))) (List.getD b4 (Int.toNat i5) ((0 : Int), (0 : Int)))).bind fun o9 =>
          (bif !o9.2.1 then
            K0
            else
            (T_laws_eqEpBagS_lp0 N a3 b4 K0 K1 n (iadd .i64 i5 (1 : Int))))) else none) else none)
    else
    (K1 i5 (decide (i5 < (ilen a3)))))

noncomputable def T_laws_eqEpBagS (N : Nat) (a1 : List (Int × Int)) (b2 : List (Int × Int)) : Option (Unit × (Bool × Unit)) :=
    (bif (ilen a1) != (ilen b2) then
    (some ((), (false, ())))
    else
    (T_laws_eqEpBagS_lp0 N a1 b2
      (some ((), (false, ())))
      (fun i10 t11 =>
        (some ((), (true, ()))))
       N (0 : Int)))

noncomputable def T_laws_eqEpHold (N : Nat) (a1 : Int × Int) (b2 : Int × Int) : Option (Unit × (Bool × Unit)) :=
    (bif a1.1 != b2.1 then
    (some ((), (false, ())))
    else
    (bif a1.2 != b2.2 then
      (some ((), (false, ())))
      else
      (some ((), (true, ())))))

noncomputable def T_laws_eqEpHoldS_lp0 {R : Type} (N : Nat) (a3 : List (Int × Int)) (b4 : List (Int × Int)) (K0 : Option R) (K1 : Int → Bool → Option R) : Nat → Int → Option R
  | 0, _ => none
  | n + 1, i5 =>
    (bif decide (i5 < (ilen a3)) then
    (bif inb i5 (List.length a3) then
      (bif inb i5 (List.length b4) then
        ((T_laws_eqEpHold N (List.getD a3 (Int.toNat i5) ((0 : Int), (0 : Int))) (List.getD b4 (Int.toNat i5) ((0 : Int), (0 : Int)))).bind fun o9 =>
          (bif !o9.2.1 then
            K0
            else
            (T_laws_eqEpHoldS_lp0 N a3 b4 K0 K1 n (iadd .i64 i5 (1 : Int))))) else none) else none)
    else
    (K1 i5 (decide (i5 < (ilen a3)))))

noncomputable def T_laws_eqEpHoldS (N : Nat) (a1 : List (Int × Int)) (b2 : List (Int × Int)) : Option (Unit × (Bool × Unit)) :=
    (bif (ilen a1) != (ilen b2) then
    (some ((), (false, ())))
    else
    (T_laws_eqEpHoldS_lp0 N a1 b2
      (some ((), (false, ())))
      (fun i10 t11 =>
        (some ((), (true, ()))))
       N (0 : Int)))

noncomputable def T_laws_eqEpochs (N : Nat) (a1 : Int × List Int × List Bool × List (Int × Int) × List (Int × Int) × List Int) (b2 : Int × List Int × List Bool × List (Int × Int) × List (Int × Int) × List Int) : Option (Unit × (Bool × Unit)) :=
    (bif a1.1 != b2.1 then
    (some ((), (false, ())))
    else
    ((T_laws_eqIntS N a1.2.1 b2.2.1).bind fun o3 =>
      (bif !o3.2.1 then
        (some ((), (false, ())))
        else
        ((T_laws_eqBoolS N a1.2.2.1 b2.2.2.1).bind fun o4 =>
          (bif !o4.2.1 then
            (some ((), (false, ())))
            else
            ((T_laws_eqEpBagS N a1.2.2.2.1 b2.2.2.2.1).bind fun o5 =>
              (bif !o5.2.1 then
                (some ((), (false, ())))
                else
                ((T_laws_eqEpHoldS N a1.2.2.2.2.1 b2.2.2.2.2.1).bind fun o6 =>
                  (bif !o6.2.1 then
                    (some ((), (false, ())))
                    else
                    ((T_laws_eqIntS N a1.2.2.2.2.2 b2.2.2.2.2.2).bind fun o7 =>
                      (bif !o7.2.1 then
                        (some ((), (false, ())))
                        else
                        (some ((), (true, ()))))))))))))))

noncomputable def T_laws_FnExactEpochSafe (N : Nat) (aE1 : Int × List Int × List Bool × List (Int × Int) × List (Int × Int) × List Int) : Option (Unit × (Bool × Unit)) :=
    ((T_laws_szEpochs N aE1 (1048576 : Int)).bind fun o2 =>
    (bif decide (o2.2.1 < (0 : Int)) then
      (some ((), (true, ())))
      else
      ((T_laws_toEpochs N aE1).bind fun o3 =>
        ((T_spec_EpochSafe N o3.2.1).bind fun o4 =>
          ((T_laws_toEpochs N aE1).bind fun o5 =>
            ((T_impl_EpochSafe N o5.2.1).bind fun o6 =>
              (bif !(beq o6.2.1 o4.2.1) then
                (some ((), (false, ())))
                else
                ((T_laws_toEpochs N aE1).bind fun o7 =>
                  ((T_laws_eqEpochs N o5.2.1 o7.2.1).bind fun o8 =>
                    (bif !o8.2.1 then
                      (some ((), (false, ())))
                      else
                      (some ((), (true, ())))))))))))))

end Go.Sx
