/- What each Go function computes, as a Lean function. -/
import Derived.Test.YtglbfgeahjjnoaaM3
namespace Go.Sx
set_option linter.unusedVariables false

noncomputable def T_laws_szIntS (N : Nat) (a1 : List Int) (left2 : Int) : Option (Unit × (Int × Unit)) :=
    (bif decide ((isub .i64 left2 (ilen a1)) < (0 : Int)) then
    (some ((), ((-1 : Int), ())))
    else
    (some ((), (isub .i64 left2 (ilen a1), ()))))

noncomputable def T_laws_szBoolS (N : Nat) (a1 : List Bool) (left2 : Int) : Option (Unit × (Int × Unit)) :=
    (bif decide ((isub .i64 left2 (ilen a1)) < (0 : Int)) then
    (some ((), ((-1 : Int), ())))
    else
    (some ((), (isub .i64 left2 (ilen a1), ()))))

noncomputable def T_laws_szEpBagS (N : Nat) (a1 : List (Int × Int)) (left2 : Int) : Option (Unit × (Int × Unit)) :=
    (bif decide ((isub .i64 left2 (ilen a1)) < (0 : Int)) then
    (some ((), ((-1 : Int), ())))
    else
    (some ((), (isub .i64 left2 (ilen a1), ()))))

noncomputable def T_laws_szEpHoldS (N : Nat) (a1 : List (Int × Int)) (left2 : Int) : Option (Unit × (Int × Unit)) :=
    (bif decide ((isub .i64 left2 (ilen a1)) < (0 : Int)) then
    (some ((), ((-1 : Int), ())))
    else
    (some ((), (isub .i64 left2 (ilen a1), ()))))

noncomputable def T_laws_szEpochs (N : Nat) (a1 : Int × List Int × List Bool × List (Int × Int) × List (Int × Int) × List Int) (left2 : Int) : Option (Unit × (Int × Unit)) :=
    ((T_laws_szIntS N a1.2.1 left2).bind fun o3 =>
    (bif decide (o3.2.1 < (0 : Int)) then
      (some ((), ((-1 : Int), ())))
      else
      ((T_laws_szBoolS N a1.2.2.1 o3.2.1).bind fun o4 =>
        (bif decide (o4.2.1 < (0 : Int)) then
          (some ((), ((-1 : Int), ())))
          else
          ((T_laws_szEpBagS N a1.2.2.2.1 o4.2.1).bind fun o5 =>
            (bif decide (o5.2.1 < (0 : Int)) then
              (some ((), ((-1 : Int), ())))
              else
              ((T_laws_szEpHoldS N a1.2.2.2.2.1 o5.2.1).bind fun o6 =>
                (bif decide (o6.2.1 < (0 : Int)) then
                  (some ((), ((-1 : Int), ())))
                  else
                  ((T_laws_szIntS N a1.2.2.2.2.2 o6.2.1).bind fun o7 =>
                    (bif decide (o7.2.1 < (0 : Int)) then
                      (some ((), ((-1 : Int), ())))
                      else
                      (some ((), (o7.2.1, ())))))))))))))

noncomputable def T_laws_toIntS_lp0 {R : Type} (N : Nat) (a2 : List Int) (K0 : Int → Bool → (List Int) → Option R) : Nat → Int → (List Int) → Option R
  | 0, _, _ => none
  | n + 1, i3, l4 =>
    (bif decide (i3 < (ilen a2)) then
    (bif inb i3 (List.length a2) then
      (bif inb i3 (List.length l4) then
        (T_laws_toIntS_lp0 N a2 K0 n (iadd .i64 i3 (1 : Int)) (List.set l4 (Int.toNat i3) (List.getD a2 (Int.toNat i3) (0 : Int)))) else none) else none)
    else
    (K0 i3 (decide (i3 < (ilen a2))) l4))

noncomputable def T_laws_toIntS (N : Nat) (a1 : List Int) : Option (Unit × ((List Int) × Unit)) :=
    (bif ((decide ((0 : Int) ≤ (ilen a1))) && (decide ((ilen a1) ≤ (ilen a1)))) && (room (Int.toNat (ilen a1))) then
    (T_laws_toIntS_lp0 N a1
      (fun i8 t9 l10 =>
        (some ((), (l10, ()))))
       N (0 : Int) (List.replicate (Int.toNat (ilen a1)) (0 : Int))) else none)

noncomputable def T_laws_toBoolS_lp0 {R : Type} (N : Nat) (a2 : List Bool) (K0 : Int → Bool → (List Bool) → Option R) : Nat → Int → (List Bool) → Option R
  | 0, _, _ => none
  | n + 1, i3, l4 =>
    (bif decide (i3 < (ilen a2)) then
    (bif inb i3 (List.length a2) then
      (bif inb i3 (List.length l4) then
        (T_laws_toBoolS_lp0 N a2 K0 n (iadd .i64 i3 (1 : Int)) (List.set l4 (Int.toNat i3) (List.getD a2 (Int.toNat i3) false))) else none) else none)
    else
    (K0 i3 (decide (i3 < (ilen a2))) l4))

noncomputable def T_laws_toBoolS (N : Nat) (a1 : List Bool) : Option (Unit × ((List Bool) × Unit)) :=
    (bif ((decide ((0 : Int) ≤ (ilen a1))) && (decide ((ilen a1) ≤ (ilen a1)))) && (room (Int.toNat (ilen a1))) then
    (T_laws_toBoolS_lp0 N a1
      (fun i8 t9 l10 =>
        (some ((), (l10, ()))))
       N (0 : Int) (List.replicate (Int.toNat (ilen a1)) false)) else none)

noncomputable def T_laws_toEpBag (N : Nat) (a1 : Int × Int) : Option (Unit × ((Int × Int) × Unit)) :=
    (some ((), (a1, ())))

noncomputable def T_laws_toEpBagS_lp0 {R : Type} (N : Nat) (a2 : List (Int × Int)) (K0 : Int → Bool → (List (Int × Int)) → Option R) : Nat → Int → (List (Int × Int)) → Option R
  | 0, _, _ => none
  | n + 1, i3, l4 =>
    (bif decide (i3 < (ilen a2)) then
    (bif inb i3 (List.length a2) then
      ((T_laws_toEpBag N (List.getD a2 (Int.toNat i3) ((0 : Int), (0 : Int)))).bind fun o9 =>
        (bif inb i3 (List.length l4) then
          (T_laws_toEpBagS_lp0 N a2 K0 n (iadd .i64 i3 (1 : Int)) (List.set l4 (Int.toNat i3) o9.2.1)) else none)) else none)
    else
    (K0 i3 (decide (i3 < (ilen a2))) l4))

noncomputable def T_laws_toEpBagS (N : Nat) (a1 : List (Int × Int)) : Option (Unit × ((List (Int × Int)) × Unit)) :=
    (bif ((decide ((0 : Int) ≤ (ilen a1))) && (decide ((ilen a1) ≤ (ilen a1)))) && (room (Int.toNat (ilen a1))) then
    (T_laws_toEpBagS_lp0 N a1
      (fun i10 t11 l12 =>
        (some ((), (l12, ()))))
       N (0 : Int) (List.replicate (Int.toNat (ilen a1)) ((0 : Int), (0 : Int)))) else none)

noncomputable def T_laws_toEpHold (N : Nat) (a1 : Int × Int) : Option (Unit × ((Int × Int) × Unit)) :=
    (some ((), (a1, ())))

noncomputable def T_laws_toEpHoldS_lp0 {R : Type} (N : Nat) (a2 : List (Int × Int)) (K0 : Int → Bool → (List (Int × Int)) → Option R) : Nat → Int → (List (Int × Int)) → Option R
  | 0, _, _ => none
  | n + 1, i3, l4 =>
    (bif decide (i3 < (ilen a2)) then
    (bif inb i3 (List.length a2) then
      ((T_laws_toEpHold N (List.getD a2 (Int.toNat i3) ((0 : Int), (0 : Int)))).bind fun o9 =>
        (bif inb i3 (List.length l4) then
          (T_laws_toEpHoldS_lp0 N a2 K0 n (iadd .i64 i3 (1 : Int)) (List.set l4 (Int.toNat i3) o9.2.1)) else none)) else none)
    else
    (K0 i3 (decide (i3 < (ilen a2))) l4))

noncomputable def T_laws_toEpHoldS (N : Nat) (a1 : List (Int × Int)) : Option (Unit × ((List (Int × Int)) × Unit)) :=
    (bif ((decide ((0 : Int) ≤ (ilen a1))) && (decide ((ilen a1) ≤ (ilen a1)))) && (room (Int.toNat (ilen a1))) then
    (T_laws_toEpHoldS_lp0 N a1
      (fun i10 t11 l12 =>
        (some ((), (l12, ()))))
       N (0 : Int) (List.replicate (Int.toNat (ilen a1)) ((0 : Int), (0 : Int)))) else none)

noncomputable def T_laws_toEpochs (N : Nat) (a1 : Int × List Int × List Bool × List (Int × Int) × List (Int × Int) × List Int) : Option (Unit × ((Int × List Int × List Bool × List (Int × Int) × List (Int × Int) × List Int) × Unit)) :=
    ((T_laws_toIntS N a1.2.1).bind fun o2 =>
    ((T_laws_toBoolS N a1.2.2.1).bind fun o3 =>
      ((T_laws_toEpBagS N a1.2.2.2.1).bind fun o4 =>
        ((T_laws_toEpHoldS N a1.2.2.2.2.1).bind fun o5 =>
          ((T_laws_toIntS N a1.2.2.2.2.2).bind fun o6 =>
            (some ((), ((a1.1, (o2.2.1, (o3.2.1, (o4.2.1, (o5.2.1, o6.2.1))))), ()))))))))

noncomputable def T_spec_l1In (N : Nat) (x1 : Int) (low2 : Int) (high3 : Int) : Option (Unit × (Bool × Unit)) :=
    (bif decide (x1 ≥ low2) then
    (some ((), (decide (x1 ≤ high3), ())))
    else
    (some ((), (false, ()))))

noncomputable def T_spec_EpochOk_lp0 {R : Type} (N : Nat) (b4 : Int × List Int × List Bool × List (Int × Int) × List (Int × Int) × List Int) (K0 : Option R) (K1 : Int → Bool → Option R) : Nat → Int → Option R
  | 0, _ => none
  | n + 1, i3 =>
    (bif decide (i3 < (ilen b4.2.1)) then
    (bif inb i3 (List.length b4.2.1) then
      (bif (List.getD b4.2.1 (Int.toNat i3) (0 : Int)) != (-1 : Int) then
        (bif inb i3 (List.length b4.2.1) then
          ((T_spec_l1In N (List.getD b4.2.1 (Int.toNat i3) (0 : Int)) (isub .i64 b4.1 (1 : Int)) b4.1).bind fun o8 =>
            (bif !o8.2.1 then
              K0
              else
              (T_spec_EpochOk_lp0 N b4 K0 K1 n (iadd .i64 i3 (1 : Int))))) else none)
        else
        (T_spec_EpochOk_lp0 N b4 K0 K1 n (iadd .i64 i3 (1 : Int)))) else none)
    else
    (K1 i3 (decide (i3 < (ilen b4.2.1)))))

noncomputable def T_spec_EpochOk_lp1 {R : Type} (N : Nat) (b12 : Int × List Int × List Bool × List (Int × Int) × List (Int × Int) × List Int) (K0 : Int → Bool → (List Int) → Option R) : Nat → Int → (List Int) → Option R
  | 0, _, _ => none
  | n + 1, i11, l13 =>
    (bif decide (i11 < (10 : Int)) then
    (bif inb i11 (List.length b12.2.2.1) then
      (bif List.getD b12.2.2.1 (Int.toNat i11) false then
        (bif inb i11 (List.length l13) then
          (T_spec_EpochOk_lp1 N b12 K0 n (iadd .i64 i11 (1 : Int)) (List.set l13 (Int.toNat i11) (1 : Int))) else none)
        else
        (T_spec_EpochOk_lp1 N b12 K0 n (iadd .i64 i11 (1 : Int)) l13)) else none)
    else
    (K0 i11 (decide (i11 < (10 : Int))) l13))

noncomputable def T_spec_EpochOk_lp2 {R : Type} (N : Nat) (b21 : Int × List Int × List Bool × List (Int × Int) × List (Int × Int) × List Int) (K0 : Option R) (K1 : Int → Bool → (List Int) → Option R) : Nat → Int → (List Int) → Option R
  | 0, _, _ => none
  | n + 1, i20, l22 =>
    (bif decide (i20 < (ilen b21.2.2.2.1)) then
    (bif inb i20 (List.length b21.2.2.2.1) then
      ((T_spec_l1In N (List.getD b21.2.2.2.1 (Int.toNat i20) ((0 : Int), (0 : Int))).1 (0 : Int) (9 : Int)).bind fun o28 =>
        (bif !o28.2.1 then
          K0
          else
          (bif inb i20 (List.length b21.2.2.2.1) then
            ((T_spec_l1In N (List.getD b21.2.2.2.1 (Int.toNat i20) ((0 : Int), (0 : Int))).2 (isub .i64 b21.1 (1 : Int)) b21.1).bind fun o29 =>
              (bif !o29.2.1 then
                K0
                else
                (bif inb i20 (List.length b21.2.2.2.1) then
                  (bif inb i20 (List.length b21.2.2.2.1) then
                    (bif inb (List.getD b21.2.2.2.1 (Int.toNat i20) ((0 : Int), (0 : Int))).1 (List.length l22) then
                      (bif inb (List.getD b21.2.2.2.1 (Int.toNat i20) ((0 : Int), (0 : Int))).1 (List.length l22) then
                        (T_spec_EpochOk_lp2 N b21 K0 K1 n (iadd .i64 i20 (1 : Int)) (List.set l22 (Int.toNat (List.getD b21.2.2.2.1 (Int.toNat i20) ((0 : Int), (0 : Int))).1) (iadd .i64 (List.getD l22 (Int.toNat (List.getD b21.2.2.2.1 (Int.toNat i20) ((0 : Int), (0 : Int))).1) (0 : Int)) (1 : Int)))) else none) else none) else none) else none))) else none))) else none)
    else
    (K1 i20 (decide (i20 < (ilen b21.2.2.2.1))) l22))

noncomputable def T_spec_EpochOk_lp3 {R : Type} (N : Nat) (b34 : Int × List Int × List Bool × List (Int × Int) × List (Int × Int) × List Int) (K0 : Option R) (K1 : Int → Bool → (List Int) → Option R) : Nat → Int → (List Int) → Option R
  | 0, _, _ => none
  | n + 1, i33, l35 =>
    (bif decide (i33 < (ilen b34.2.2.2.2.2)) then
    (bif inb i33 (List.length b34.2.2.2.2.2) then
      ((T_spec_l1In N (List.getD b34.2.2.2.2.2 (Int.toNat i33) (0 : Int)) (0 : Int) (9 : Int)).bind fun o40 =>
        (bif !o40.2.1 then
          K0
          else
          (bif inb i33 (List.length b34.2.2.2.2.2) then
            (bif inb i33 (List.length b34.2.2.2.2.2) then
              (bif inb (List.getD b34.2.2.2.2.2 (Int.toNat i33) (0 : Int)) (List.length l35) then
                (bif inb (List.getD b34.2.2.2.2.2 (Int.toNat i33) (0 : Int)) (List.length l35) then
                  (T_spec_EpochOk_lp3 N b34 K0 K1 n (iadd .i64 i33 (1 : Int)) (List.set l35 (Int.toNat (List.getD b34.2.2.2.2.2 (Int.toNat i33) (0 : Int))) (iadd .i64 (List.getD l35 (Int.toNat (List.getD b34.2.2.2.2.2 (Int.toNat i33) (0 : Int))) (0 : Int)) (1 : Int)))) else none) else none) else none) else none))) else none)
    else
    (K1 i33 (decide (i33 < (ilen b34.2.2.2.2.2))) l35))

noncomputable def T_spec_EpochOk_lp4 {R : Type} (N : Nat) (b45 : Int × List Int × List Bool × List (Int × Int) × List (Int × Int) × List Int) (l46 : List Int) (K0 : Option R) (K1 : Int → Bool → Option R) : Nat → Int → Option R
  | 0, _ => none
  | n + 1, i44 =>
    (bif decide (i44 < (10 : Int)) then
    (bif inb i44 (List.length l46) then
      (bif (List.getD l46 (Int.toNat i44) (0 : Int)) != (1 : Int) then
        K0
        else
        (T_spec_EpochOk_lp4 N b45 l46 K0 K1 n (iadd .i64 i44 (1 : Int)))) else none)
    else
    (K1 i44 (decide (i44 < (10 : Int)))))

noncomputable def T_spec_EpochOk_lp5 {R : Type} (N : Nat) (b52 : Int × List Int × List Bool × List (Int × Int) × List (Int × Int) × List Int) (K0 : Option R) (K1 : Int → Bool → Option R) : Nat → Int → Option R
  | 0, _ => none
  | n + 1, i51 =>
    (bif decide (i51 < (ilen b52.2.2.2.2.1)) then
    (bif inb i51 (List.length b52.2.2.2.2.1) then
      ((T_spec_l1In N (List.getD b52.2.2.2.2.1 (Int.toNat i51) ((0 : Int), (0 : Int))).1 (0 : Int) (2 : Int)).bind fun o57 =>
        (bif !o57.2.1 then
          K0
          else
          ((T_spec_l1In N (List.getD b52.2.2.2.2.1 (Int.toNat i51) ((0 : Int), (0 : Int))).2 (0 : Int) (9 : Int)).bind fun o58 =>
            (bif !o58.2.1 then
              K0
              else
              (bif inb (List.getD b52.2.2.2.2.1 (Int.toNat i51) ((0 : Int), (0 : Int))).1 (List.length b52.2.1) then
                (bif decide ((List.getD b52.2.1 (Int.toNat (List.getD b52.2.2.2.2.1 (Int.toNat i51) ((0 : Int), (0 : Int))).1) (0 : Int)) < (0 : Int)) then
                  K0
                  else
                  (T_spec_EpochOk_lp5 N b52 K0 K1 n (iadd .i64 i51 (1 : Int)))) else none))))) else none)
    else
    (K1 i51 (decide (i51 < (ilen b52.2.2.2.2.1)))))

noncomputable def T_spec_EpochOk (N : Nat) (e1 : Int × List Int × List Bool × List (Int × Int) × List (Int × Int) × List Int) : Option (Unit × (Bool × Unit)) :=
    (bif (ilen e1.2.1) != (3 : Int) then
    (some ((), (false, ())))
    else
    (bif (ilen e1.2.2.1) != (10 : Int) then
      (some ((), (false, ())))
      else
      ((T_spec_l1In N e1.1 (0 : Int) (205 : Int)).bind fun o2 =>
        (bif !o2.2.1 then
          (some ((), (false, ())))
          else
          (T_spec_EpochOk_lp0 N e1
            (some ((), (false, ())))
            (fun i9 t10 =>
              (bif ((decide ((0 : Int) ≤ (10 : Int))) && (decide ((10 : Int) ≤ (10 : Int)))) && (room (Int.toNat (10 : Int))) then
                (T_spec_EpochOk_lp1 N e1
                  (fun i17 t18 l19 =>
                    (T_spec_EpochOk_lp2 N e1
                      (some ((), (false, ())))
                      (fun i30 t31 l32 =>
                        (T_spec_EpochOk_lp3 N e1
                          (some ((), (false, ())))
                          (fun i41 t42 l43 =>
                            (T_spec_EpochOk_lp4 N e1 l43
                              (some ((), (false, ())))
                              (fun i49 t50 =>
                                (T_spec_EpochOk_lp5 N e1
                                  (some ((), (false, ())))
                                  (fun i59 t60 =>
                                    (some ((), (true, ()))))
                                   N (0 : Int)))
                               N (0 : Int)))
                           N (0 : Int) l32))
                       N (0 : Int) l19))
                   N (0 : Int) (List.replicate (Int.toNat (10 : Int)) (0 : Int))) else none))
             N (0 : Int))))))

noncomputable def T_impl_within (N : Nat) (x1 : Int) (lo2 : Int) (hi3 : Int) : Option (Unit × (Bool × Unit)) :=
    (bif decide (x1 ≥ lo2) then
    (some ((), (decide (x1 ≤ hi3), ())))
    else
    (some ((), (false, ()))))

noncomputable def T_impl_copyInts (N : Nat) (l1 : List Int) : Option (Unit × ((List Int) × Unit)) :=
    (bif room (List.length l1) then
    (some ((), (l1, ()))) else none)

noncomputable def T_impl_EpochOk_lp0 {R : Type} (N : Nat) (t3 : List Int) (b6 : Int × List Int × List Bool × List (Int × Int) × List (Int × Int) × List Int) (K0 : Option R) (K1 : Int → Bool → Option R) : Nat → Int → Option R
  | 0, _ => none
  | n + 1, t5 =>
    (bif decide (t5 < (ilen b6.2.1)) then
    (bif inb t5 (List.length t3) then
      (bif (List.getD t3 (Int.toNat t5) (0 : Int)) != (-1 : Int) then
        (bif (List.getD t3 (Int.toNat t5) (0 : Int)) != b6.1 then
          (bif (List.getD t3 (Int.toNat t5) (0 : Int)) != (isub .i64 b6.1 (1 : Int)) then
            K0
            else
            (bif decide ((List.getD t3 (Int.toNat t5) (0 : Int)) < (0 : Int)) then
              K0
              else
              (T_impl_EpochOk_lp0 N t3 b6 K0 K1 n (iadd .i64 t5 (1 : Int)))))
          else
          (T_impl_EpochOk_lp0 N t3 b6 K0 K1 n (iadd .i64 t5 (1 : Int))))
        else
        (T_impl_EpochOk_lp0 N t3 b6 K0 K1 n (iadd .i64 t5 (1 : Int)))) else none)
    else
    (K1 t5 (decide (t5 < (ilen b6.2.1)))))

noncomputable def T_impl_EpochOk_lp1 {R : Type} (N : Nat) (t11 : List Bool) (b14 : Int × List Int × List Bool × List (Int × Int) × List (Int × Int) × List Int) (K0 : Int → Bool → (List Int) → Option R) : Nat → Int → (List Int) → Option R
  | 0, _, _ => none
  | n + 1, t13, l15 =>
    (bif decide (t13 < (ilen b14.2.2.1)) then
    (bif inb t13 (List.length t11) then
      (bif List.getD t11 (Int.toNat t13) false then
        (bif (inb t13 10) && (decide ((List.length l15) = 10)) then
          (bif (inb t13 10) && (decide ((List.length l15) = 10)) then
            (T_impl_EpochOk_lp1 N t11 b14 K0 n (iadd .i64 t13 (1 : Int)) (List.set l15 (Int.toNat t13) (iadd .i64 (List.getD l15 (Int.toNat t13) (0 : Int)) (1 : Int)))) else none) else none)
        else
        (T_impl_EpochOk_lp1 N t11 b14 K0 n (iadd .i64 t13 (1 : Int)) l15)) else none)
    else
    (K0 t13 (decide (t13 < (ilen b14.2.2.1))) l15))

noncomputable def T_impl_EpochOk_lp2 {R : Type} (N : Nat) (t23 : List (Int × Int)) (b26 : Int × List Int × List Bool × List (Int × Int) × List (Int × Int) × List Int) (l27 : List Int) (K0 : Option R) (K1 : Int → Bool → (List Int) → Option R) : Nat → Int → (List Int) → Option R
  | 0, _, _ => none
  | n + 1, t25, l28 =>
    (bif decide (t25 < (ilen b26.2.2.2.1)) then
    (bif inb t25 (List.length t23) then
      (bif (List.getD t23 (Int.toNat t25) ((0 : Int), (0 : Int))).2 != b26.1 then
        (bif (List.getD t23 (Int.toNat t25) ((0 : Int), (0 : Int))).2 != (isub .i64 b26.1 (1 : Int)) then
          K0
          else
          (bif room ((List.length l28) + (List.length ([(List.getD t23 (Int.toNat t25) ((0 : Int), (0 : Int))).1]))) then
            (T_impl_EpochOk_lp2 N t23 b26 l27 K0 K1 n (iadd .i64 t25 (1 : Int)) (List.append l28 ([(List.getD t23 (Int.toNat t25) ((0 : Int), (0 : Int))).1]))) else none))
        else
        (bif room ((List.length l28) + (List.length ([(List.getD t23 (Int.toNat t25) ((0 : Int), (0 : Int))).1]))) then
          (T_impl_EpochOk_lp2 N t23 b26 l27 K0 K1 n (iadd .i64 t25 (1 : Int)) (List.append l28 ([(List.getD t23 (Int.toNat t25) ((0 : Int), (0 : Int))).1]))) else none)) else none)
    else
    (K1 t25 (decide (t25 < (ilen b26.2.2.2.1))) l28))

noncomputable def T_impl_EpochOk_lp3 {R : Type} (N : Nat) (b37 : Int × List Int × List Bool × List (Int × Int) × List (Int × Int) × List Int) (l39 : List Int) (K0 : Option R) (K1 : Int → Bool → (List Int) → Option R) : Nat → Int → (List Int) → Option R
  | 0, _, _ => none
  | n + 1, t36, l38 =>
    (bif decide (t36 < (ilen l39)) then
    (bif inb t36 (List.length l39) then
      ((T_impl_within N (List.getD l39 (Int.toNat t36) (0 : Int)) (0 : Int) (9 : Int)).bind fun o45 =>
        (bif !o45.2.1 then
          K0
          else
          (bif (inb (List.getD l39 (Int.toNat t36) (0 : Int)) 10) && (decide ((List.length l38) = 10)) then
            (bif (inb (List.getD l39 (Int.toNat t36) (0 : Int)) 10) && (decide ((List.length l38) = 10)) then
              (T_impl_EpochOk_lp3 N b37 l39 K0 K1 n (iadd .i64 t36 (1 : Int)) (List.set l38 (Int.toNat (List.getD l39 (Int.toNat t36) (0 : Int))) (iadd .i64 (List.getD l38 (Int.toNat (List.getD l39 (Int.toNat t36) (0 : Int))) (0 : Int)) (1 : Int)))) else none) else none))) else none)
    else
    (K1 t36 (decide (t36 < (ilen l39))) l38))

noncomputable def T_impl_EpochOk_lp4 {R : Type} (N : Nat) (t49 : Int) (t50 : Int) (t51 : Int) (t52 : Int) (t53 : Int) (t54 : Int) (t55 : Int) (t56 : Int) (t57 : Int) (t58 : Int) (b60 : Int × List Int × List Bool × List (Int × Int) × List (Int × Int) × List Int) (K0 : Option R) (K1 : Int → Bool → Option R) : Nat → Int → Option R
  | 0, _ => none
  | n + 1, t59 =>
    (bif decide (t59 < (10 : Int)) then
    (bif inb t59 10 then
      (bif (List.getD ([t49, t50, t51, t52, t53, t54, t55, t56, t57, t58]) (Int.toNat t59) (0 : Int)) != (1 : Int) then
        K0
        else
        (T_impl_EpochOk_lp4 N t49 t50 t51 t52 t53 t54 t55 t56 t57 t58 b60 K0 K1 n (iadd .i64 t59 (1 : Int)))) else none)
    else
    (K1 t59 (decide (t59 < (10 : Int)))))

noncomputable def T_impl_EpochOk_lp5 {R : Type} (N : Nat) (t65 : List (Int × Int)) (b68 : Int × List Int × List Bool × List (Int × Int) × List (Int × Int) × List Int) (K0 : Option R) (K1 : Int → Bool → Option R) : Nat → Int → Option R
  | 0, _ => none
  | n + 1, t67 =>
    (bif decide (t67 < (ilen b68.2.2.2.2.1)) then
    (bif inb t67 (List.length t65) then
      ((T_impl_within N (List.getD t65 (Int.toNat t67) ((0 : Int), (0 : Int))).1 (0 : Int) (2 : Int)).bind fun o75 =>
        (bif !o75.2.1 then
          K0
          else
          (bif inb (List.getD t65 (Int.toNat t67) ((0 : Int), (0 : Int))).1 (List.length b68.2.1) then
            (bif decide ((List.getD b68.2.1 (Int.toNat (List.getD t65 (Int.toNat t67) ((0 : Int), (0 : Int))).1) (0 : Int)) < (0 : Int)) then
              K0
              else
              ((T_impl_within N (List.getD t65 (Int.toNat t67) ((0 : Int), (0 : Int))).2 (0 : Int) (9 : Int)).bind fun o76 =>
                (bif !o76.2.1 then
                  K0
                  else
                  (T_impl_EpochOk_lp5 N t65 b68 K0 K1 n (iadd .i64 t67 (1 : Int)))))) else none))) else none)
    else
    (K1 t67 (decide (t67 < (ilen b68.2.2.2.2.1)))))

noncomputable def T_impl_EpochOk (N : Nat) (e1 : Int × List Int × List Bool × List (Int × Int) × List (Int × Int) × List Int) : Option (Unit × (Bool × Unit)) :=
    (bif (ilen e1.2.1) != (3 : Int) then
    (some ((), (false, ())))
    else
    (bif (ilen e1.2.2.1) != (10 : Int) then
      (some ((), (false, ())))
      else
      ((T_impl_within N e1.1 (0 : Int) (205 : Int)).bind fun o2 =>
        (bif !o2.2.1 then
          (some ((), (false, ())))
          else
          (T_impl_EpochOk_lp0 N e1.2.1 e1
            (some ((), (false, ())))
            (fun t9 t10 =>
              (T_impl_EpochOk_lp1 N e1.2.2.1 e1
                (fun t19 t20 l21 =>
                  ((T_impl_copyInts N e1.2.2.2.2.2).bind fun o22 =>
                    (T_impl_EpochOk_lp2 N e1.2.2.2.1 e1 l21
                      (some ((), (false, ())))
                      (fun t32 t33 l34 =>
                        (T_impl_EpochOk_lp3 N e1 l34
                          (some ((), (false, ())))
                          (fun t46 t47 l48 =>
                            (bif decide ((List.length l48) = 10) then
                              (T_impl_EpochOk_lp4 N (List.getD l48 0 (0 : Int)) (List.getD l48 1 (0 : Int)) (List.getD l48 2 (0 : Int)) (List.getD l48 3 (0 : Int)) (List.getD l48 4 (0 : Int)) (List.getD l48 5 (0 : Int)) (List.getD l48 6 (0 : Int)) (List.getD l48 7 (0 : Int)) (List.getD l48 8 (0 : Int)) (List.getD l48 9 (0 : Int)) e1
                                (some ((), (false, ())))
                                (fun t63 t64 =>
                                  (T_impl_EpochOk_lp5 N e1.2.2.2.2.1 e1
                                    (some ((), (false, ())))
                                    (fun t77 t78 =>
                                      (some ((), (true, ()))))
                                     N (0 : Int)))
                                 N (0 : Int)) else none))
                           N (0 : Int) l21))
                       N (0 : Int) o22.2.1)))
                 N (0 : Int) (List.replicate 10 (0 : Int))))
             N (0 : Int))))))

noncomputable def T_laws_eqIntS_lp0 {R : Type} (N : Nat) (a3 : List Int) (b4 : List Int) (K0 : Option R) (K1 : Int → Bool → Option R) : Nat → Int → Option R
  | 0, _ => none
  | n + 1, i5 =>
    (bif decide (i5 < (ilen a3)) then
    (bif inb i5 (List.length a3) then
      (bif inb i5 (List.length b4) then
        (bif (List.getD a3 (Int.toNat i5) (0 : Int)) != (List.getD b4 (Int.toNat i5) (0 : Int)) then
          K0
          else
          (T_laws_eqIntS_lp0 N a3 b4 K0 K1 n (iadd .i64 i5 (1 : Int)))) else none) else none)
    else
    (K1 i5 (decide (i5 < (ilen a3)))))

noncomputable def T_laws_eqIntS (N : Nat) (a1 : List Int) (b2 : List Int) : Option (Unit × (Bool × Unit)) :=
    (bif (ilen a1) != (ilen b2) then
    (some ((), (false, ())))
    else
    (T_laws_eqIntS_lp0 N a1 b2
      (some ((), (false, ())))
      (fun i8 t9 =>
        (some ((), (true, ()))))
       N (0 : Int)))

noncomputable def T_laws_eqBoolS_lp0 {R : Type} (N : Nat) (a3 : List Bool) (b4 : List Bool) (K0 : Option R) (K1 : Int → Bool → Option R) : Nat → Int → Option R
  | 0, _ => none
  | n + 1, i5 =>
    (bif decide (i5 < (ilen a3)) then
    (bif inb i5 (List.length a3) then
      (bif inb i5 (List.length b4) then
        (bif !(beq (List.getD a3 (Int.toNat i5) false) (List.getD b4 (Int.toNat i5) false)) then
          K0
          else
          (T_laws_eqBoolS_lp0 N a3 b4 K0 K1 n (iadd .i64 i5 (1 : Int)))) else none) else none)
    else
    (K1 i5 (decide (i5 < (ilen a3)))))

noncomputable def T_laws_eqBoolS (N : Nat) (a1 : List Bool) (b2 : List Bool) : Option (Unit × (Bool × Unit)) :=
    (bif (ilen a1) != (ilen b2) then
    (some ((), (false, ())))
    else
    (T_laws_eqBoolS_lp0 N a1 b2
      (some ((), (false, ())))
      (fun i8 t9 =>
        (some ((), (true, ()))))
       N (0 : Int)))

noncomputable def T_laws_eqEpBag (N : Nat) (a1 : Int × Int) (b2 : Int × Int) : Option (Unit × (Bool × Unit)) :=
    (bif a1.1 != b2.1 then
    (some ((), (false, ())))
    else
    (bif a1.2 != b2.2 then
      (some ((), (false, ())))
      else
      (some ((), (true, ())))))

noncomputable def T_laws_eqEpBagS_lp0 {R : Type} (N : Nat) (a3 : List (Int × Int)) (b4 : List (Int × Int)) (K0 : Option R) (K1 : Int → Bool → Option R) : Nat → Int → Option R
  | 0, _ => none
  | n + 1, i5 =>
    (bif decide (i5 < (ilen a3)) then
    (bif inb i5 (List.length a3) then
      (bif inb i5 (List.length b4) then
        ((T_laws_eqEpBag N (List.getD a3 (Int.toNat i5) ((0 : Int), (0 : Int))) (List.getD b4 (Int.toNat i5) ((0 : Int), (0 : Int)))).bind fun o9 =>
          (bif !o9.2.1 then
            K0
            else
            (T_laws_eqEpBagS_lp0 N a3 b4 K0 K1 n (iadd .i64 i5 (1 : Int))))) else none) else none)
    else
    (K1 i5 (decide (i5 < (ilen a3)))))

noncomputable def T_laws_eqEpBagS (N : Nat) (a1 : List (Int × Int)) (b2 : List (Int × Int)) : Option (Unit × (Bool × Unit)) :=
    (bif (ilen a1) != (ilen b2) then
    (some ((), (false, ())))
    else
    (T_laws_eqEpBagS_lp0 N a1 b2
      (some ((), (false, ())))
      (fun i10 t11 =>
        (some ((), (true, ()))))
       N (0 : Int)))

noncomputable def T_laws_eqEpHold (N : Nat) (a1 : Int × Int) (b2 : Int × Int) : Option (Unit × (Bool × Unit)) :=
    (bif a1.1 != b2.1 then
    (some ((), (false, ())))
    else
    (bif a1.2 != b2.2 then
      (some ((), (false, ())))
      else
      (some ((), (true, ())))))

noncomputable def T_laws_eqEpHoldS_lp0 {R : Type} (N : Nat) (a3 : List (Int × Int)) (b4 : List (Int × Int)) (K0 : Option R) (K1 : Int → Bool → Option R) : Nat → Int → Option R
  | 0, _ => none
  | n + 1, i5 =>
    (bif decide (i5 < (ilen a3)) then
    (bif inb i5 (List.length a3) then
      (bif inb i5 (List.length b4) then
        ((T_laws_eqEpHold N (List.getD a3 (Int.toNat i5) ((0 : Int), (0 : Int))) (List.getD b4 (Int.toNat i5) ((0 : Int), (0 : Int)))).bind fun o9 =>
          (bif !o9.2.1 then
            K0
            else
            (T_laws_eqEpHoldS_lp0 N a3 b4 K0 K1 n (iadd .i64 i5 (1 : Int))))) else none) else none)
    else
    (K1 i5 (decide (i5 < (ilen a3)))))

noncomputable def T_laws_eqEpHoldS (N : Nat) (a1 : List (Int × Int)) (b2 : List (Int × Int)) : Option (Unit × (Bool × Unit)) :=
    (bif (ilen a1) != (ilen b2) then
    (some ((), (false, ())))
    else
    (T_laws_eqEpHoldS_lp0 N a1 b2
      (some ((), (false, ())))
      (fun i10 t11 =>
        (some ((), (true, ()))))
       N (0 : Int)))

noncomputable def T_laws_eqEpochs (N : Nat) (a1 : Int × List Int × List Bool × List (Int × Int) × List (Int × Int) × List Int) (b2 : Int × List Int × List Bool × List (Int × Int) × List (Int × Int) × List Int) : Option (Unit × (Bool × Unit)) :=
    (bif a1.1 != b2.1 then
    (some ((), (false, ())))
    else
    ((T_laws_eqIntS N a1.2.1 b2.2.1).bind fun o3 =>
      (bif !o3.2.1 then
        (some ((), (false, ())))
        else
        ((T_laws_eqBoolS N a1.2.2.1 b2.2.2.1).bind fun o4 =>
          (bif !o4.2.1 then
            (some ((), (false, ())))
            else
            ((T_laws_eqEpBagS N a1.2.2.2.1 b2.2.2.2.1).bind fun o5 =>
              (bif !o5.2.1 then
                (some ((), (false, ())))
                else
                ((T_laws_eqEpHoldS N a1.2.2.2.2.1 b2.2.2.2.2.1).bind fun o6 =>
                  (bif !o6.2.1 then
                    (some ((), (false, ())))
                    else
                    ((T_laws_eqIntS N a1.2.2.2.2.2 b2.2.2.2.2.2).bind fun o7 =>
                      (bif !o7.2.1 then
                        (some ((), (false, ())))
                        else
                        (some ((), (true, ()))))))))))))))

noncomputable def T_laws_FnExactEpochOk (N : Nat) (aE1 : Int × List Int × List Bool × List (Int × Int) × List (Int × Int) × List Int) : Option (Unit × (Bool × Unit)) :=
    ((T_laws_szEpochs N aE1 (1048576 : Int)).bind fun o2 =>
    (bif decide (o2.2.1 < (0 : Int)) then
      (some ((), (true, ())))
      else
      ((T_laws_toEpochs N aE1).bind fun o3 =>
        ((T_spec_EpochOk N o3.2.1).bind fun o4 =>
          ((T_laws_toEpochs N aE1).bind fun o5 =>
            ((T_impl_EpochOk N o5.2.1).bind fun o6 =>
              (bif !(beq o6.2.1 o4.2.1) then
                (some ((), (false, ())))
                else
                ((T_laws_toEpochs N aE1).bind fun o7 =>
                  ((T_laws_eqEpochs N o5.2.1 o7.2.1).bind fun o8 =>
                    (bif !o8.2.1 then
                      (some ((), (false, ())))
                      else
                      (some ((), (true, ())))))))))))))

noncomputable def T_spec_EpochSafe_lp1 {R : Type} (N : Nat) (i4 : Int) (b6 : Int × List Int × List Bool × List (Int × Int) × List (Int × Int) × List Int) (K0 : Option R) (K1 : Int → Bool → Option R) : Nat → Int → Option R
  | 0, _ => none
  | n + 1, k5 =>
    (bif decide (k5 < (ilen b6.2.2.2.2.1)) then
    (bif inb k5 (List.length b6.2.2.2.2.1) then
      (bif inb i4 (List.length b6.2.2.2.2.2) then
        (bif (List.getD b6.2.2.2.2.1 (Int.toNat k5) ((0 : Int), (0 : Int))).2 == (List.getD b6.2.2.2.2.2 (Int.toNat i4) (0 : Int)) then
          K0
          else
          (T_spec_EpochSafe_lp1 N i4 b6 K0 K1 n (iadd .i64 k5 (1 : Int)))) else none) else none)
    else
    (K1 k5 (decide (k5 < (ilen b6.2.2.2.2.1)))))

noncomputable def T_spec_EpochSafe_lp0 {R : Type} (N : Nat) (b3 : Int × List Int × List Bool × List (Int × Int) × List (Int × Int) × List Int) (K0 : Option R) (K1 : Int → Bool → Option R) : Nat → Int → Option R
  | 0, _ => none
  | n + 1, i2 =>
    (bif decide (i2 < (ilen b3.2.2.2.2.2)) then
    (T_spec_EpochSafe_lp1 N i2 b3
      K0
      (fun k13 t14 =>
        (T_spec_EpochSafe_lp0 N b3 K0 K1 n (iadd .i64 i2 (1 : Int))))
       N (0 : Int))
    else
    (K1 i2 (decide (i2 < (ilen b3.2.2.2.2.2)))))

noncomputable def T_spec_EpochSafe (N : Nat) (e1 : Int × List Int × List Bool × List (Int × Int) × List (Int × Int) × List Int) : Option (Unit × (Bool × Unit)) :=
    (T_spec_EpochSafe_lp0 N e1
    (some ((), (false, ())))
    (fun i15 t16 =>
      (some ((), (true, ()))))
     N (0 : Int))

noncomputable def T_slices_Index___int_int__lp0 {R : Type} (N : Nat) (s3 : List Int) (v4 : Int) (K0 : Int → Option R) (K1 : Int → Bool → Option R) : Nat → Int → Option R
  | 0, _ => none
  | n + 1, t6 =>
    (bif decide (t6 < (ilen s3)) then
    (bif inb t6 (List.length s3) then
      (bif v4 == (List.getD s3 (Int.toNat t6) (0 : Int)) then
        (K0 t6)
        else
        (T_slices_Index___int_int__lp0 N s3 v4 K0 K1 n (iadd .i64 t6 (1 : Int)))) else none)
    else
    (K1 t6 (decide (t6 < (ilen s3)))))

noncomputable def T_slices_Index___int_int_ (N : Nat) (s1 : List Int) (v2 : Int) : Option (Unit × (Int × Unit)) :=
    (T_slices_Index___int_int__lp0 N s1 v2
    (fun t10 =>
      (some ((), (t10, ()))))
    (fun t11 t12 =>
      (some ((), ((-1 : Int), ()))))
     N (0 : Int))

noncomputable def T_slices_Contains___int_int_ (N : Nat) (s1 : List Int) (v2 : Int) : Option (Unit × (Bool × Unit)) :=
    ((T_slices_Index___int_int_ N s1 v2).bind fun o3 =>
    (some ((), (decide (o3.2.1 ≥ (0 : Int)), ()))))

noncomputable def T_impl_EpochSafe_1 (N : Nat) (h1 : Int × Int) (a2 : Int × List Int × List Bool × List (Int × Int) × List (Int × Int) × List Int) : Option (((Int × List Int × List Bool × List (Int × Int) × List (Int × Int) × List Int) × Unit) × (Bool × Unit)) :=
    ((T_slices_Contains___int_int_ N a2.2.2.2.2.2 h1.2).bind fun o3 =>
    (some ((a2, ()), (o3.2.1, ()))))

noncomputable def T_slices_IndexFunc___impl_EpHold_impl_EpHold___impl_EpochSafe_1_lp0 {R : Type} (N : Nat) (s3 : List (Int × Int)) (K0 : Int → (Int × List Int × List Bool × List (Int × Int) × List (Int × Int) × List Int) → Option R) (K1 : Int → Bool → (Int × List Int × List Bool × List (Int × Int) × List (Int × Int) × List Int) → Option R) : Nat → Int → (Int × List Int × List Bool × List (Int × Int) × List (Int × Int) × List Int) → Option R
  | 0, _, _ => none
  | n + 1, t5, b6 =>
    (bif decide (t5 < (ilen s3)) then
    (bif inb t5 (List.length s3) then
      ((T_impl_EpochSafe_1 N (List.getD s3 (Int.toNat t5) ((0 : Int), (0 : Int))) b6).bind fun o14 =>
        (bif o14.2.1 then
          (K0 t5 o14.1.1)
          else
          (T_slices_IndexFunc___impl_EpHold_impl_EpHold___impl_EpochSafe_1_lp0 N s3 K0 K1 n (iadd .i64 t5 (1 : Int)) o14.1.1))) else none)
    else
    (K1 t5 (decide (t5 < (ilen s3))) b6))

noncomputable def T_slices_IndexFunc___impl_EpHold_impl_EpHold___impl_EpochSafe_1 (N : Nat) (s1 : List (Int × Int)) (cap2 : Int × List Int × List Bool × List (Int × Int) × List (Int × Int) × List Int) : Option (((Int × List Int × List Bool × List (Int × Int) × List (Int × Int) × List Int) × Unit) × (Int × Unit)) :=
    (T_slices_IndexFunc___impl_EpHold_impl_EpHold___impl_EpochSafe_1_lp0 N s1
    (fun t15 b16 =>
      (some ((b16, ()), (t15, ()))))
    (fun t17 t18 b19 =>
      (some ((b19, ()), ((-1 : Int), ()))))
     N (0 : Int) cap2)

noncomputable def T_slices_ContainsFunc___impl_EpHold_impl_EpHold___impl_EpochSafe_1 (N : Nat) (s1 : List (Int × Int)) (cap2 : Int × List Int × List Bool × List (Int × Int) × List (Int × Int) × List Int) : Option (((Int × List Int × List Bool × List (Int × Int) × List (Int × Int) × List Int) × Unit) × (Bool × Unit)) :=
    ((T_slices_IndexFunc___impl_EpHold_impl_EpHold___impl_EpochSafe_1 N s1 cap2).bind fun o3 =>
    (some ((o3.1.1, ()), (decide (o3.2.1 ≥ (0 : Int)), ()))))

noncomputable def T_impl_EpochSafe (N : Nat) (e1 : Int × List Int × List Bool × List (Int × Int) × List (Int × Int) × List Int) : Option (Unit × (Bool × Unit)) :=
    ((T_slices_ContainsFunc___impl_EpHold_impl_EpHold___impl_EpochSafe_1 N e1.2.2.2.2.1 e1).bind fun o2 =>
    (some ((), (!o2.2.1, ()))))

noncomputable def T_laws_FnExactEpochSafe (N : Nat) (aE1 : Int × List Int × List Bool × List (Int × Int) × List (Int × Int) × List Int) : Option (Unit × (Bool × Unit)) :=
    ((T_laws_szEpochs N aE1 (1048576 : Int)).bind fun o2 =>
    (bif decide (o2.2.1 < (0 : Int)) then
      (some ((), (true, ())))
      else
      ((T_laws_toEpochs N aE1).bind fun o3 =>
        ((T_spec_EpochSafe N o3.2.1).bind fun o4 =>
          ((T_laws_toEpochs N aE1).bind fun o5 =>
            ((T_impl_EpochSafe N o5.2.1).bind fun o6 =>
              (bif !(beq o6.2.1 o4.2.1) then
                (some ((), (false, ())))
                else
                ((T_laws_toEpochs N aE1).bind fun o7 =>
                  ((T_laws_eqEpochs N o5.2.1 o7.2.1).bind fun o8 =>
                    (bif !o8.2.1 then
                      (some ((), (false, ())))
                      else
                      (some ((), (true, ())))))))))))))

noncomputable def T_laws_szTripleS (N : Nat) (a1 : List (Int × Int × Int)) (left2 : Int) : Option (Unit × (Int × Unit)) :=
    (bif decide ((isub .i64 left2 (ilen a1)) < (0 : Int)) then
    (some ((), ((-1 : Int), ())))
    else
    (some ((), (isub .i64 left2 (ilen a1), ()))))

noncomputable def T_laws_toTriple (N : Nat) (a1 : Int × Int × Int) : Option (Unit × ((Int × Int × Int) × Unit)) :=
    (some ((), (a1, ())))

noncomputable def T_laws_toTripleS_lp0 {R : Type} (N : Nat) (a2 : List (Int × Int × Int)) (K0 : Int → Bool → (List (Int × Int × Int)) → Option R) : Nat → Int → (List (Int × Int × Int)) → Option R
  | 0, _, _ => none
  | n + 1, i3, l4 =>
    (bif decide (i3 < (ilen a2)) then
    (bif inb i3 (List.length a2) then
      ((T_laws_toTriple N (List.getD a2 (Int.toNat i3) ((0 : Int), ((0 : Int), (0 : Int))))).bind fun o9 =>
        (bif inb i3 (List.length l4) then
          (T_laws_toTripleS_lp0 N a2 K0 n (iadd .i64 i3 (1 : Int)) (List.set l4 (Int.toNat i3) o9.2.1)) else none)) else none)
    else
    (K0 i3 (decide (i3 < (ilen a2))) l4))

noncomputable def T_laws_toTripleS (N : Nat) (a1 : List (Int × Int × Int)) : Option (Unit × ((List (Int × Int × Int)) × Unit)) :=
    (bif ((decide ((0 : Int) ≤ (ilen a1))) && (decide ((ilen a1) ≤ (ilen a1)))) && (room (Int.toNat (ilen a1))) then
    (T_laws_toTripleS_lp0 N a1
      (fun i10 t11 l12 =>
        (some ((), (l12, ()))))
       N (0 : Int) (List.replicate (Int.toNat (ilen a1)) ((0 : Int), ((0 : Int), (0 : Int))))) else none)

noncomputable def T_spec_l3Val (N : Nat) (v1 : Int) : Option (Unit × (Bool × Unit)) :=
    ((T_spec_l1In N v1 (0 : Int) (65535 : Int)).bind fun o2 =>
    (some ((), (o2.2.1, ()))))

noncomputable def T_spec_l25Ok (N : Nat) (t1 : Int × Int × Int) : Option (Unit × (Bool × Unit)) :=
    ((T_spec_l3Val N t1.1).bind fun o2 =>
    (bif o2.2.1 then
      ((T_spec_l3Val N t1.2.1).bind fun o3 =>
        (bif o3.2.1 then
          ((T_spec_l3Val N t1.2.2).bind fun o4 =>
            (some ((), (o4.2.1, ()))))
          else
          (some ((), (false, ())))))
      else
      (some ((), (false, ())))))

noncomputable def T_spec_TriplesOk_lp0 {R : Type} (N : Nat) (l2 : List (Int × Int × Int)) (K0 : Option R) (K1 : Int → Bool → Option R) : Nat → Int → Option R
  | 0, _ => none
  | n + 1, i3 =>
    (bif decide (i3 < (ilen l2)) then
    (bif inb i3 (List.length l2) then
      ((T_spec_l25Ok N (List.getD l2 (Int.toNat i3) ((0 : Int), ((0 : Int), (0 : Int))))).bind fun o7 =>
        (bif !o7.2.1 then
          K0
          else
          (T_spec_TriplesOk_lp0 N l2 K0 K1 n (iadd .i64 i3 (1 : Int))))) else none)
    else
    (K1 i3 (decide (i3 < (ilen l2)))))

noncomputable def T_spec_TriplesOk (N : Nat) (l1 : List (Int × Int × Int)) : Option (Unit × (Bool × Unit)) :=
    (bif decide ((ilen l1) > (20 : Int)) then
    (some ((), (false, ())))
    else
    (T_spec_TriplesOk_lp0 N l1
      (some ((), (false, ())))
      (fun i8 t9 =>
        (some ((), (true, ()))))
       N (0 : Int)))

noncomputable def T_spec_SeqValue (N : Nat) (start1 : Int × Int × Int) (l2 : List (Int × Int × Int)) (seq3 : Int) : Option (Unit × ((Int × Int × Int) × (Bool × Unit))) :=
    ((T_spec_l25Ok N start1).bind fun o4 =>
    (bif !o4.2.1 then
      (some ((), (((0 : Int), ((0 : Int), (0 : Int))), (false, ()))))
      else
      ((T_spec_TriplesOk N l2).bind fun o5 =>
        (bif !o5.2.1 then
          (some ((), (((0 : Int), ((0 : Int), (0 : Int))), (false, ()))))
          else
          ((T_spec_l1In N seq3 (0 : Int) (imul .i64 (2 : Int) (ilen l2))).bind fun o6 =>
            (bif !o6.2.1 then
              (some ((), (((0 : Int), ((0 : Int), (0 : Int))), (false, ()))))
              else
              (bif inz (2 : Int) then
                (bif (irem seq3 (2 : Int)) == (1 : Int) then
                  (some ((), (((0 : Int), ((0 : Int), (0 : Int))), (false, ()))))
                  else
                  (bif seq3 == (0 : Int) then
                    (some ((), (start1, (true, ()))))
                    else
                    (bif inz (2 : Int) then
                      (bif inb (isub .i64 (iquo .i64 seq3 (2 : Int)) (1 : Int)) (List.length l2) then
                        (some ((), (List.getD l2 (Int.toNat (isub .i64 (iquo .i64 seq3 (2 : Int)) (1 : Int))) ((0 : Int), ((0 : Int), (0 : Int))), (true, ())))) else none) else none))) else none)))))))

noncomputable def T_impl_isValue (N : Nat) (v1 : Int) : Option (Unit × (Bool × Unit)) :=
    ((T_impl_within N v1 (0 : Int) (65535 : Int)).bind fun o2 =>
    (some ((), (o2.2.1, ()))))

noncomputable def T_impl_isTriple (N : Nat) (t1 : Int × Int × Int) : Option (Unit × (Bool × Unit)) :=
    ((T_impl_isValue N t1.1).bind fun o2 =>
    (bif o2.2.1 then
      ((T_impl_isValue N t1.2.1).bind fun o3 =>
        (bif o3.2.1 then
          ((T_impl_isValue N t1.2.2).bind fun o4 =>
            (some ((), (o4.2.1, ()))))
          else
          (some ((), (false, ())))))
      else
      (some ((), (false, ())))))

noncomputable def T_impl_TriplesOk_lp0 {R : Type} (N : Nat) (l2 : List (Int × Int × Int)) (K0 : Option R) (K1 : Int → Bool → Option R) : Nat → Int → Option R
  | 0, _ => none
  | n + 1, t5 =>
    (bif decide (t5 < (ilen l2)) then
    (bif inb t5 (List.length l2) then
      ((T_impl_isTriple N (List.getD l2 (Int.toNat t5) ((0 : Int), ((0 : Int), (0 : Int))))).bind fun o10 =>
        (bif !o10.2.1 then
          K0
          else
          (T_impl_TriplesOk_lp0 N l2 K0 K1 n (iadd .i64 t5 (1 : Int))))) else none)
    else
    (K1 t5 (decide (t5 < (ilen l2)))))

noncomputable def T_impl_TriplesOk (N : Nat) (l1 : List (Int × Int × Int)) : Option (Unit × (Bool × Unit)) :=
    (T_impl_TriplesOk_lp0 N l1
    (some ((), (false, ())))
    (fun t11 t12 =>
      (some ((), (decide ((ilen l1) ≤ (20 : Int)), ()))))
     N (0 : Int))

noncomputable def T_impl_SeqValue (N : Nat) (start1 : Int × Int × Int) (l2 : List (Int × Int × Int)) (seq3 : Int) : Option (Unit × ((Int × Int × Int) × (Bool × Unit))) :=
    ((T_impl_isTriple N start1).bind fun o4 =>
    (bif !o4.2.1 then
      (some ((), (((0 : Int), ((0 : Int), (0 : Int))), (false, ()))))
      else
      ((T_impl_TriplesOk N l2).bind fun o5 =>
        (bif !o5.2.1 then
          (some ((), (((0 : Int), ((0 : Int), (0 : Int))), (false, ()))))
          else
          ((T_impl_within N seq3 (0 : Int) (imul .i64 (2 : Int) (ilen l2))).bind fun o6 =>
            (bif !o6.2.1 then
              (some ((), (((0 : Int), ((0 : Int), (0 : Int))), (false, ()))))
              else
              (bif inz (2 : Int) then
                (bif (irem seq3 (2 : Int)) == (1 : Int) then
                  (some ((), (((0 : Int), ((0 : Int), (0 : Int))), (false, ()))))
                  else
                  (bif seq3 == (0 : Int) then
                    (some ((), (start1, (true, ()))))
                    else
                    (bif inz (2 : Int) then
                      (bif inb (isub .i64 (iquo .i64 seq3 (2 : Int)) (1 : Int)) (List.length l2) then
                        (some ((), (List.getD l2 (Int.toNat (isub .i64 (iquo .i64 seq3 (2 : Int)) (1 : Int))) ((0 : Int), ((0 : Int), (0 : Int))), (true, ())))) else none) else none))) else none)))))))

noncomputable def T_laws_eqTriple (N : Nat) (a1 : Int × Int × Int) (b2 : Int × Int × Int) : Option (Unit × (Bool × Unit)) :=
    (bif a1.1 != b2.1 then
    (some ((), (false, ())))
    else
    (bif a1.2.1 != b2.2.1 then
      (some ((), (false, ())))
      else
      (bif a1.2.2 != b2.2.2 then
        (some ((), (false, ())))
        else
        (some ((), (true, ()))))))

noncomputable def T_laws_eqTripleS_lp0 {R : Type} (N : Nat) (a3 : List (Int × Int × Int)) (b4 : List (Int × Int × Int)) (K0 : Option R) (K1 : Int → Bool → Option R) : Nat → Int → Option R
  | 0, _ => none
  | n + 1, i5 =>
    (bif decide (i5 < (ilen a3)) then
    (bif inb i5 (List.length a3) then
      (bif inb i5 (List.length b4) then
        ((T_laws_eqTriple N (List.getD a3 (Int.toNat i5) ((0 : Int), ((0 : Int), (0 : Int)))) (List.getD b4 (Int.toNat i5) ((0 : Int), ((0 : Int), (0 : Int))))).bind fun o9 =>
          (bif !o9.2.1 then
            K0
            else
            (T_laws_eqTripleS_lp0 N a3 b4 K0 K1 n (iadd .i64 i5 (1 : Int))))) else none) else none)
    else
    (K1 i5 (decide (i5 < (ilen a3)))))

noncomputable def T_laws_eqTripleS (N : Nat) (a1 : List (Int × Int × Int)) (b2 : List (Int × Int × Int)) : Option (Unit × (Bool × Unit)) :=
    (bif (ilen a1) != (ilen b2) then
    (some ((), (false, ())))
    else
    (T_laws_eqTripleS_lp0 N a1 b2
      (some ((), (false, ())))
      (fun i10 t11 =>
        (some ((), (true, ()))))
       N (0 : Int)))

noncomputable def T_laws_FnExactSeqValue (N : Nat) (aStart1 : Int × Int × Int) (aL2 : List (Int × Int × Int)) (aSeq3 : Int) : Option (Unit × (Bool × Unit)) :=
    ((T_laws_szTripleS N aL2 (1048576 : Int)).bind fun o4 =>
    (bif decide (o4.2.1 < (0 : Int)) then
      (some ((), (true, ())))
      else
      ((T_laws_toTriple N aStart1).bind fun o5 =>
        ((T_laws_toTripleS N aL2).bind fun o6 =>
          ((T_spec_SeqValue N o5.2.1 o6.2.1 aSeq3).bind fun o7 =>
            ((T_laws_toTripleS N aL2).bind fun o8 =>
              ((T_laws_toTriple N aStart1).bind fun o9 =>
                ((T_impl_SeqValue N o9.2.1 o8.2.1 aSeq3).bind fun o10 =>
                  ((T_laws_eqTriple N o10.2.1 o7.2.1).bind fun o11 =>
                    (bif !o11.2.1 then
                      (some ((), (false, ())))
                      else
                      (bif !(beq o10.2.2.1 o7.2.2.1) then
                        (some ((), (false, ())))
                        else
                        ((T_laws_toTripleS N aL2).bind fun o12 =>
                          ((T_laws_eqTripleS N o8.2.1 o12.2.1).bind fun o13 =>
                            (bif !o13.2.1 then
                              (some ((), (false, ())))
                              else
                              (some ((), (true, ())))))))))))))))))

noncomputable def T_laws_FnExactTriplesOk (N : Nat) (aL1 : List (Int × Int × Int)) : Option (Unit × (Bool × Unit)) :=
    ((T_laws_szTripleS N aL1 (1048576 : Int)).bind fun o2 =>
    (bif decide (o2.2.1 < (0 : Int)) then
      (some ((), (true, ())))
      else
      ((T_laws_toTripleS N aL1).bind fun o3 =>
        ((T_spec_TriplesOk N o3.2.1).bind fun o4 =>
          ((T_laws_toTripleS N aL1).bind fun o5 =>
            ((T_impl_TriplesOk N o5.2.1).bind fun o6 =>
              (bif !(beq o6.2.1 o4.2.1) then
                (some ((), (false, ())))
                else
                ((T_laws_toTripleS N aL1).bind fun o7 =>
                  ((T_laws_eqTripleS N o5.2.1 o7.2.1).bind fun o8 =>
                    (bif !o8.2.1 then
                      (some ((), (false, ())))
                      else
                      (some ((), (true, ())))))))))))))

end Go.Sx
