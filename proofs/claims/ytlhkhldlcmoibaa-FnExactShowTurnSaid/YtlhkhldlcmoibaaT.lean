/- What each Go function computes, as a Lean function. -/
import Derived.Test.YtlhkhldlcmoibaaM2
namespace Go.Sx
set_option linter.unusedVariables false

def T_spec_l1In (N : Nat) (x1 : Int) (low2 : Int) (high3 : Int) : Option (Unit × (Bool × Unit)) :=
    (bif decide (x1 ≥ low2) then
    (some ((), (decide (x1 ≤ high3), ())))
    else
    (some ((), (false, ()))))

def T_spec_PhaseWord (N : Nat) (phase1 : Int) : Option (Unit × ((List UInt8) × Unit)) :=
    ((T_spec_l1In N phase1 (0 : Int) (8 : Int)).bind fun o2 =>
    (bif !o2.2.1 then
      (some ((), (([] : List UInt8), ())))
      else
      (bif inb phase1 (List.length ([([105, 100, 108, 101] : List UInt8), ([114, 117, 110] : List UInt8), ([102, 111, 114, 107] : List UInt8), ([117, 110, 119, 105, 110, 100] : List UInt8), ([101, 120, 116, 101, 110, 100] : List UInt8), ([99, 111, 109, 109, 105, 116] : List UInt8), ([117, 110, 100, 111] : List UInt8), ([102, 114, 101, 101] : List UInt8), ([100, 111, 110, 101] : List UInt8)])) then
        (some ((), (List.getD ([([105, 100, 108, 101] : List UInt8), ([114, 117, 110] : List UInt8), ([102, 111, 114, 107] : List UInt8), ([117, 110, 119, 105, 110, 100] : List UInt8), ([101, 120, 116, 101, 110, 100] : List UInt8), ([99, 111, 109, 109, 105, 116] : List UInt8), ([117, 110, 100, 111] : List UInt8), ([102, 114, 101, 101] : List UInt8), ([100, 111, 110, 101] : List UInt8)]) (Int.toNat phase1) ([] : List UInt8), ()))) else none)))

def T_spec_Dec_lp0 {R : Type} (N : Nat) (neg4 : Bool) (K0 : Int → (List UInt8) → Bool → Option R) : Nat → Int → (List UInt8) → Option R
  | 0, _, _ => none
  | n + 1, n2, out3 =>
    (bif n2 != (0 : Int) then
    (bif inz (10 : Int) then
      (bif decide ((irem n2 (10 : Int)) < (0 : Int)) then
        (bif sfit (toStr ([(IntKind.wrap .u8 (iadd .i64 (48 : Int) (isub .i64 (0 : Int) (irem n2 (10 : Int)))))])) out3 then
          (bif inz (10 : Int) then
            (T_spec_Dec_lp0 N neg4 K0 n (iquo .i64 n2 (10 : Int)) ((toStr ([(IntKind.wrap .u8 (iadd .i64 (48 : Int) (isub .i64 (0 : Int) (irem n2 (10 : Int)))))])) ++ out3)) else none) else none)
        else
        (bif sfit (toStr ([(IntKind.wrap .u8 (iadd .i64 (48 : Int) (irem n2 (10 : Int))))])) out3 then
          (bif inz (10 : Int) then
            (T_spec_Dec_lp0 N neg4 K0 n (iquo .i64 n2 (10 : Int)) ((toStr ([(IntKind.wrap .u8 (iadd .i64 (48 : Int) (irem n2 (10 : Int))))])) ++ out3)) else none) else none)) else none)
    else
    (K0 n2 out3 (n2 != (0 : Int))))

def T_spec_Dec (N : Nat) (n1 : Int) : Option (Unit × ((List UInt8) × Unit)) :=
    (bif n1 == (0 : Int) then
    (some ((), (([48] : List UInt8), ())))
    else
    (T_spec_Dec_lp0 N (decide (n1 < (0 : Int)))
      (fun n8 out9 t10 =>
        (bif decide (n1 < (0 : Int)) then
          (bif sfit ([45] : List UInt8) out9 then
            (some ((), (([45] : List UInt8) ++ out9, ()))) else none)
          else
          (some ((), (out9, ())))))
       N n1 ([] : List UInt8)))

def T_spec_ShowTurn (N : Nat) (t1 : Int × Int × Int × Int) : Option (Unit × ((List UInt8) × Unit)) :=
    ((T_spec_PhaseWord N t1.2.2.1).bind fun o2 =>
    (bif seq o2.2.1 ([] : List UInt8) then
      (some ((), (([] : List UInt8), ())))
      else
      ((T_spec_PhaseWord N t1.2.2.2).bind fun o3 =>
        (bif seq o3.2.1 ([] : List UInt8) then
          (some ((), (([] : List UInt8), ())))
          else
          ((T_spec_Dec N t1.1).bind fun o4 =>
            (bif sfit o4.2.1 ([32] : List UInt8) then
              ((T_spec_Dec N t1.2.1).bind fun o5 =>
                (bif sfit (o4.2.1 ++ ([32] : List UInt8)) o5.2.1 then
                  (bif sfit ((o4.2.1 ++ ([32] : List UInt8)) ++ o5.2.1) ([32] : List UInt8) then
                    ((T_spec_PhaseWord N t1.2.2.1).bind fun o6 =>
                      (bif sfit (((o4.2.1 ++ ([32] : List UInt8)) ++ o5.2.1) ++ ([32] : List UInt8)) o6.2.1 then
                        (bif sfit ((((o4.2.1 ++ ([32] : List UInt8)) ++ o5.2.1) ++ ([32] : List UInt8)) ++ o6.2.1) ([32] : List UInt8) then
                          ((T_spec_PhaseWord N t1.2.2.2).bind fun o7 =>
                            (bif sfit (((((o4.2.1 ++ ([32] : List UInt8)) ++ o5.2.1) ++ ([32] : List UInt8)) ++ o6.2.1) ++ ([32] : List UInt8)) o7.2.1 then
                              (some ((), ((((((o4.2.1 ++ ([32] : List UInt8)) ++ o5.2.1) ++ ([32] : List UInt8)) ++ o6.2.1) ++ ([32] : List UInt8)) ++ o7.2.1, ()))) else none)) else none) else none)) else none) else none)) else none))))))

def T_laws_toTurn (N : Nat) (a1 : Int × Int × Int × Int) : Option (Unit × ((Int × Int × Int × Int) × Unit)) :=
    (some ((), (a1, ())))

def T_impl_within (N : Nat) (x1 : Int) (lo2 : Int) (hi3 : Int) : Option (Unit × (Bool × Unit)) :=
    (bif decide (x1 ≥ lo2) then
    (some ((), (decide (x1 ≤ hi3), ())))
    else
    (some ((), (false, ()))))

def T_impl_PhaseWord (N : Nat) (phase1 : Int) : Option (Unit × ((List UInt8) × Unit)) :=
    ((T_impl_within N phase1 (0 : Int) (8 : Int)).bind fun o2 =>
    (bif !o2.2.1 then
      (some ((), (([] : List UInt8), ())))
      else
      (bif inb phase1 (List.length ([([105, 100, 108, 101] : List UInt8), ([114, 117, 110] : List UInt8), ([102, 111, 114, 107] : List UInt8), ([117, 110, 119, 105, 110, 100] : List UInt8), ([101, 120, 116, 101, 110, 100] : List UInt8), ([99, 111, 109, 109, 105, 116] : List UInt8), ([117, 110, 100, 111] : List UInt8), ([102, 114, 101, 101] : List UInt8), ([100, 111, 110, 101] : List UInt8)])) then
        (some ((), (List.getD ([([105, 100, 108, 101] : List UInt8), ([114, 117, 110] : List UInt8), ([102, 111, 114, 107] : List UInt8), ([117, 110, 119, 105, 110, 100] : List UInt8), ([101, 120, 116, 101, 110, 100] : List UInt8), ([99, 111, 109, 109, 105, 116] : List UInt8), ([117, 110, 100, 111] : List UInt8), ([102, 114, 101, 101] : List UInt8), ([100, 111, 110, 101] : List UInt8)]) (Int.toNat phase1) ([] : List UInt8), ()))) else none)))

def T_impl_Dec_lp0 {R : Type} (N : Nat) (n2 : Int) (K0 : Int → Bool → (List Int) → Option R) : Nat → Int → (List Int) → Option R
  | 0, _, _ => none
  | n + 1, m3, l4 =>
    (bif m3 != (0 : Int) then
    (bif inz (10 : Int) then
      (bif decide ((irem m3 (10 : Int)) < (0 : Int)) then
        (bif room ((List.length l4) + (List.length ([(IntKind.wrap .u8 (iadd .i64 (48 : Int) (isub .i64 (0 : Int) (irem m3 (10 : Int)))))]))) then
          (bif inz (10 : Int) then
            (T_impl_Dec_lp0 N n2 K0 n (iquo .i64 m3 (10 : Int)) (List.append l4 ([(IntKind.wrap .u8 (iadd .i64 (48 : Int) (isub .i64 (0 : Int) (irem m3 (10 : Int)))))]))) else none) else none)
        else
        (bif room ((List.length l4) + (List.length ([(IntKind.wrap .u8 (iadd .i64 (48 : Int) (irem m3 (10 : Int))))]))) then
          (bif inz (10 : Int) then
            (T_impl_Dec_lp0 N n2 K0 n (iquo .i64 m3 (10 : Int)) (List.append l4 ([(IntKind.wrap .u8 (iadd .i64 (48 : Int) (irem m3 (10 : Int))))]))) else none) else none)) else none)
    else
    (K0 m3 (m3 != (0 : Int)) l4))

def T_impl_Dec_lp1 {R : Type} (N : Nat) (K0 : Int → Int → Bool → (List Int) → Option R) : Nat → Int → Int → (List Int) → Option R
  | 0, _, _, _ => none
  | n + 1, i11, j12, l13 =>
    (bif decide (i11 < j12) then
    (bif inb j12 (List.length l13) then
      (bif inb i11 (List.length l13) then
        (bif inb i11 (List.length l13) then
          (bif inb j12 (List.length (List.set l13 (Int.toNat i11) (List.getD l13 (Int.toNat j12) (0 : Int)))) then
            (T_impl_Dec_lp1 N K0 n (iadd .i64 i11 (1 : Int)) (isub .i64 j12 (1 : Int)) (List.set (List.set l13 (Int.toNat i11) (List.getD l13 (Int.toNat j12) (0 : Int))) (Int.toNat j12) (List.getD l13 (Int.toNat i11) (0 : Int)))) else none) else none) else none) else none)
    else
    (K0 i11 j12 (decide (i11 < j12)) l13))

def T_impl_Dec (N : Nat) (n1 : Int) : Option (Unit × ((List UInt8) × Unit)) :=
    (bif n1 == (0 : Int) then
    (some ((), (([48] : List UInt8), ())))
    else
    (T_impl_Dec_lp0 N n1
      (fun m8 t9 l10 =>
        (bif decide (n1 < (0 : Int)) then
          (bif room ((List.length l10) + (List.length ([(45 : Int)]))) then
            (T_impl_Dec_lp1 N
              (fun i18 j19 t20 l21 =>
                (some ((), (toStr l21, ()))))
               N (0 : Int) (isub .i64 (ilen (List.append l10 ([(45 : Int)]))) (1 : Int)) (List.append l10 ([(45 : Int)]))) else none)
          else
          (T_impl_Dec_lp1 N
            (fun i22 j23 t24 l25 =>
              (some ((), (toStr l25, ()))))
             N (0 : Int) (isub .i64 (ilen l10) (1 : Int)) l10)))
       N n1 ([] : List Int)))

def T_impl_ShowTurn (N : Nat) (t1 : Int × Int × Int × Int) : Option (Unit × ((List UInt8) × Unit)) :=
    ((T_impl_PhaseWord N t1.2.2.1).bind fun o2 =>
    ((T_impl_PhaseWord N t1.2.2.2).bind fun o3 =>
      (bif seq o2.2.1 ([] : List UInt8) then
        (some ((), (([] : List UInt8), ())))
        else
        (bif seq o3.2.1 ([] : List UInt8) then
          (some ((), (([] : List UInt8), ())))
          else
          ((T_impl_Dec N t1.1).bind fun o4 =>
            (bif sfit o4.2.1 ([32] : List UInt8) then
              ((T_impl_Dec N t1.2.1).bind fun o5 =>
                (bif sfit (o4.2.1 ++ ([32] : List UInt8)) o5.2.1 then
                  (bif sfit ((o4.2.1 ++ ([32] : List UInt8)) ++ o5.2.1) ([32] : List UInt8) then
                    (bif sfit (((o4.2.1 ++ ([32] : List UInt8)) ++ o5.2.1) ++ ([32] : List UInt8)) o2.2.1 then
                      (bif sfit ((((o4.2.1 ++ ([32] : List UInt8)) ++ o5.2.1) ++ ([32] : List UInt8)) ++ o2.2.1) ([32] : List UInt8) then
                        (bif sfit (((((o4.2.1 ++ ([32] : List UInt8)) ++ o5.2.1) ++ ([32] : List UInt8)) ++ o2.2.1) ++ ([32] : List UInt8)) o3.2.1 then
                          (some ((), ((((((o4.2.1 ++ ([32] : List UInt8)) ++ o5.2.1) ++ ([32] : List UInt8)) ++ o2.2.1) ++ ([32] : List UInt8)) ++ o3.2.1, ()))) else none) else none) else none) else none) else none)) else none))))))

def T_laws_FnExactShowTurn (N : Nat) (aT1 : Int × Int × Int × Int) : Option (Unit × (Bool × Unit)) :=
    ((T_laws_toTurn N aT1).bind fun o2 =>
    ((T_spec_ShowTurn N o2.2.1).bind fun o3 =>
      ((T_laws_toTurn N aT1).bind fun o4 =>
        ((T_impl_ShowTurn N o4.2.1).bind fun o5 =>
          (bif !(seq o5.2.1 o3.2.1) then
            (some ((), (false, ())))
            else
            (some ((), (true, ()))))))))

def T_laws_FnExactPhaseWord (N : Nat) (aPhase1 : Int) : Option (Unit × (Bool × Unit)) :=
    ((T_spec_PhaseWord N aPhase1).bind fun o2 =>
    ((T_impl_PhaseWord N aPhase1).bind fun o3 =>
      (bif !(seq o3.2.1 o2.2.1) then
        (some ((), (false, ())))
        else
        (some ((), (true, ()))))))

def T_spec_ShowTally (N : Nat) (t1 : Int × Int × Int × Int × Int × Int × Int) : Option (Unit × ((List UInt8) × Unit)) :=
    ((T_spec_Dec N t1.1).bind fun o2 =>
    (bif sfit ([105, 100, 108, 101, 32] : List UInt8) o2.2.1 then
      (bif sfit (([105, 100, 108, 101, 32] : List UInt8) ++ o2.2.1) ([32, 108, 105, 118, 101, 32] : List UInt8) then
        ((T_spec_Dec N t1.2.1).bind fun o3 =>
          (bif sfit ((([105, 100, 108, 101, 32] : List UInt8) ++ o2.2.1) ++ ([32, 108, 105, 118, 101, 32] : List UInt8)) o3.2.1 then
            (bif sfit (((([105, 100, 108, 101, 32] : List UInt8) ++ o2.2.1) ++ ([32, 108, 105, 118, 101, 32] : List UInt8)) ++ o3.2.1) ([32, 100, 111, 110, 101, 32] : List UInt8) then
              ((T_spec_Dec N t1.2.2.1).bind fun o4 =>
                (bif sfit ((((([105, 100, 108, 101, 32] : List UInt8) ++ o2.2.1) ++ ([32, 108, 105, 118, 101, 32] : List UInt8)) ++ o3.2.1) ++ ([32, 100, 111, 110, 101, 32] : List UInt8)) o4.2.1 then
                  (bif sfit (((((([105, 100, 108, 101, 32] : List UInt8) ++ o2.2.1) ++ ([32, 108, 105, 118, 101, 32] : List UInt8)) ++ o3.2.1) ++ ([32, 100, 111, 110, 101, 32] : List UInt8)) ++ o4.2.1) ([32, 97, 98, 111, 114, 116, 101, 100, 32] : List UInt8) then
                    ((T_spec_Dec N t1.2.2.2.1).bind fun o5 =>
                      (bif sfit ((((((([105, 100, 108, 101, 32] : List UInt8) ++ o2.2.1) ++ ([32, 108, 105, 118, 101, 32] : List UInt8)) ++ o3.2.1) ++ ([32, 100, 111, 110, 101, 32] : List UInt8)) ++ o4.2.1) ++ ([32, 97, 98, 111, 114, 116, 101, 100, 32] : List UInt8)) o5.2.1 then
                        (bif sfit (((((((([105, 100, 108, 101, 32] : List UInt8) ++ o2.2.1) ++ ([32, 108, 105, 118, 101, 32] : List UInt8)) ++ o3.2.1) ++ ([32, 100, 111, 110, 101, 32] : List UInt8)) ++ o4.2.1) ++ ([32, 97, 98, 111, 114, 116, 101, 100, 32] : List UInt8)) ++ o5.2.1) ([32, 116, 114, 105, 101, 115, 32] : List UInt8) then
                          ((T_spec_Dec N t1.2.2.2.2.1).bind fun o6 =>
                            (bif sfit ((((((((([105, 100, 108, 101, 32] : List UInt8) ++ o2.2.1) ++ ([32, 108, 105, 118, 101, 32] : List UInt8)) ++ o3.2.1) ++ ([32, 100, 111, 110, 101, 32] : List UInt8)) ++ o4.2.1) ++ ([32, 97, 98, 111, 114, 116, 101, 100, 32] : List UInt8)) ++ o5.2.1) ++ ([32, 116, 114, 105, 101, 115, 32] : List UInt8)) o6.2.1 then
                              (bif sfit (((((((((([105, 100, 108, 101, 32] : List UInt8) ++ o2.2.1) ++ ([32, 108, 105, 118, 101, 32] : List UInt8)) ++ o3.2.1) ++ ([32, 100, 111, 110, 101, 32] : List UInt8)) ++ o4.2.1) ++ ([32, 97, 98, 111, 114, 116, 101, 100, 32] : List UInt8)) ++ o5.2.1) ++ ([32, 116, 114, 105, 101, 115, 32] : List UInt8)) ++ o6.2.1) ([32, 108, 111, 99, 107, 101, 100, 32] : List UInt8) then
                                ((T_spec_Dec N t1.2.2.2.2.2.1).bind fun o7 =>
                                  (bif sfit ((((((((((([105, 100, 108, 101, 32] : List UInt8) ++ o2.2.1) ++ ([32, 108, 105, 118, 101, 32] : List UInt8)) ++ o3.2.1) ++ ([32, 100, 111, 110, 101, 32] : List UInt8)) ++ o4.2.1) ++ ([32, 97, 98, 111, 114, 116, 101, 100, 32] : List UInt8)) ++ o5.2.1) ++ ([32, 116, 114, 105, 101, 115, 32] : List UInt8)) ++ o6.2.1) ++ ([32, 108, 111, 99, 107, 101, 100, 32] : List UInt8)) o7.2.1 then
                                    (bif sfit (((((((((((([105, 100, 108, 101, 32] : List UInt8) ++ o2.2.1) ++ ([32, 108, 105, 118, 101, 32] : List UInt8)) ++ o3.2.1) ++ ([32, 100, 111, 110, 101, 32] : List UInt8)) ++ o4.2.1) ++ ([32, 97, 98, 111, 114, 116, 101, 100, 32] : List UInt8)) ++ o5.2.1) ++ ([32, 116, 114, 105, 101, 115, 32] : List UInt8)) ++ o6.2.1) ++ ([32, 108, 111, 99, 107, 101, 100, 32] : List UInt8)) ++ o7.2.1) ([32, 104, 101, 108, 100, 32] : List UInt8) then
                                      ((T_spec_Dec N t1.2.2.2.2.2.2).bind fun o8 =>
                                        (bif sfit ((((((((((((([105, 100, 108, 101, 32] : List UInt8) ++ o2.2.1) ++ ([32, 108, 105, 118, 101, 32] : List UInt8)) ++ o3.2.1) ++ ([32, 100, 111, 110, 101, 32] : List UInt8)) ++ o4.2.1) ++ ([32, 97, 98, 111, 114, 116, 101, 100, 32] : List UInt8)) ++ o5.2.1) ++ ([32, 116, 114, 105, 101, 115, 32] : List UInt8)) ++ o6.2.1) ++ ([32, 108, 111, 99, 107, 101, 100, 32] : List UInt8)) ++ o7.2.1) ++ ([32, 104, 101, 108, 100, 32] : List UInt8)) o8.2.1 then
                                          (some ((), (((((((((((((([105, 100, 108, 101, 32] : List UInt8) ++ o2.2.1) ++ ([32, 108, 105, 118, 101, 32] : List UInt8)) ++ o3.2.1) ++ ([32, 100, 111, 110, 101, 32] : List UInt8)) ++ o4.2.1) ++ ([32, 97, 98, 111, 114, 116, 101, 100, 32] : List UInt8)) ++ o5.2.1) ++ ([32, 116, 114, 105, 101, 115, 32] : List UInt8)) ++ o6.2.1) ++ ([32, 108, 111, 99, 107, 101, 100, 32] : List UInt8)) ++ o7.2.1) ++ ([32, 104, 101, 108, 100, 32] : List UInt8)) ++ o8.2.1, ()))) else none)) else none) else none)) else none) else none)) else none) else none)) else none) else none)) else none) else none)) else none) else none))

def T_laws_toTally (N : Nat) (a1 : Int × Int × Int × Int × Int × Int × Int) : Option (Unit × ((Int × Int × Int × Int × Int × Int × Int) × Unit)) :=
    (some ((), (a1, ())))

def T_impl_ShowTally (N : Nat) (t1 : Int × Int × Int × Int × Int × Int × Int) : Option (Unit × ((List UInt8) × Unit)) :=
    ((T_impl_Dec N t1.1).bind fun o2 =>
    (bif sfit ([105, 100, 108, 101, 32] : List UInt8) o2.2.1 then
      (bif sfit (([105, 100, 108, 101, 32] : List UInt8) ++ o2.2.1) ([32, 108, 105, 118, 101, 32] : List UInt8) then
        ((T_impl_Dec N t1.2.1).bind fun o3 =>
          (bif sfit ((([105, 100, 108, 101, 32] : List UInt8) ++ o2.2.1) ++ ([32, 108, 105, 118, 101, 32] : List UInt8)) o3.2.1 then
            (bif sfit (((([105, 100, 108, 101, 32] : List UInt8) ++ o2.2.1) ++ ([32, 108, 105, 118, 101, 32] : List UInt8)) ++ o3.2.1) ([32, 100, 111, 110, 101, 32] : List UInt8) then
              ((T_impl_Dec N t1.2.2.1).bind fun o4 =>
                (bif sfit ((((([105, 100, 108, 101, 32] : List UInt8) ++ o2.2.1) ++ ([32, 108, 105, 118, 101, 32] : List UInt8)) ++ o3.2.1) ++ ([32, 100, 111, 110, 101, 32] : List UInt8)) o4.2.1 then
                  (bif sfit (((((([105, 100, 108, 101, 32] : List UInt8) ++ o2.2.1) ++ ([32, 108, 105, 118, 101, 32] : List UInt8)) ++ o3.2.1) ++ ([32, 100, 111, 110, 101, 32] : List UInt8)) ++ o4.2.1) ([32, 97, 98, 111, 114, 116, 101, 100, 32] : List UInt8) then
                    ((T_impl_Dec N t1.2.2.2.1).bind fun o5 =>
                      (bif sfit ((((((([105, 100, 108, 101, 32] : List UInt8) ++ o2.2.1) ++ ([32, 108, 105, 118, 101, 32] : List UInt8)) ++ o3.2.1) ++ ([32, 100, 111, 110, 101, 32] : List UInt8)) ++ o4.2.1) ++ ([32, 97, 98, 111, 114, 116, 101, 100, 32] : List UInt8)) o5.2.1 then
                        (bif sfit (((((((([105, 100, 108, 101, 32] : List UInt8) ++ o2.2.1) ++ ([32, 108, 105, 118, 101, 32] : List UInt8)) ++ o3.2.1) ++ ([32, 100, 111, 110, 101, 32] : List UInt8)) ++ o4.2.1) ++ ([32, 97, 98, 111, 114, 116, 101, 100, 32] : List UInt8)) ++ o5.2.1) ([32, 116, 114, 105, 101, 115, 32] : List UInt8) then
                          ((T_impl_Dec N t1.2.2.2.2.1).bind fun o6 =>
                            (bif sfit ((((((((([105, 100, 108, 101, 32] : List UInt8) ++ o2.2.1) ++ ([32, 108, 105, 118, 101, 32] : List UInt8)) ++ o3.2.1) ++ ([32, 100, 111, 110, 101, 32] : List UInt8)) ++ o4.2.1) ++ ([32, 97, 98, 111, 114, 116, 101, 100, 32] : List UInt8)) ++ o5.2.1) ++ ([32, 116, 114, 105, 101, 115, 32] : List UInt8)) o6.2.1 then
                              (bif sfit (((((((((([105, 100, 108, 101, 32] : List UInt8) ++ o2.2.1) ++ ([32, 108, 105, 118, 101, 32] : List UInt8)) ++ o3.2.1) ++ ([32, 100, 111, 110, 101, 32] : List UInt8)) ++ o4.2.1) ++ ([32, 97, 98, 111, 114, 116, 101, 100, 32] : List UInt8)) ++ o5.2.1) ++ ([32, 116, 114, 105, 101, 115, 32] : List UInt8)) ++ o6.2.1) ([32, 108, 111, 99, 107, 101, 100, 32] : List UInt8) then
                                ((T_impl_Dec N t1.2.2.2.2.2.1).bind fun o7 =>
                                  (bif sfit ((((((((((([105, 100, 108, 101, 32] : List UInt8) ++ o2.2.1) ++ ([32, 108, 105, 118, 101, 32] : List UInt8)) ++ o3.2.1) ++ ([32, 100, 111, 110, 101, 32] : List UInt8)) ++ o4.2.1) ++ ([32, 97, 98, 111, 114, 116, 101, 100, 32] : List UInt8)) ++ o5.2.1) ++ ([32, 116, 114, 105, 101, 115, 32] : List UInt8)) ++ o6.2.1) ++ ([32, 108, 111, 99, 107, 101, 100, 32] : List UInt8)) o7.2.1 then
                                    (bif sfit (((((((((((([105, 100, 108, 101, 32] : List UInt8) ++ o2.2.1) ++ ([32, 108, 105, 118, 101, 32] : List UInt8)) ++ o3.2.1) ++ ([32, 100, 111, 110, 101, 32] : List UInt8)) ++ o4.2.1) ++ ([32, 97, 98, 111, 114, 116, 101, 100, 32] : List UInt8)) ++ o5.2.1) ++ ([32, 116, 114, 105, 101, 115, 32] : List UInt8)) ++ o6.2.1) ++ ([32, 108, 111, 99, 107, 101, 100, 32] : List UInt8)) ++ o7.2.1) ([32, 104, 101, 108, 100, 32] : List UInt8) then
                                      ((T_impl_Dec N t1.2.2.2.2.2.2).bind fun o8 =>
                                        (bif sfit ((((((((((((([105, 100, 108, 101, 32] : List UInt8) ++ o2.2.1) ++ ([32, 108, 105, 118, 101, 32] : List UInt8)) ++ o3.2.1) ++ ([32, 100, 111, 110, 101, 32] : List UInt8)) ++ o4.2.1) ++ ([32, 97, 98, 111, 114, 116, 101, 100, 32] : List UInt8)) ++ o5.2.1) ++ ([32, 116, 114, 105, 101, 115, 32] : List UInt8)) ++ o6.2.1) ++ ([32, 108, 111, 99, 107, 101, 100, 32] : List UInt8)) ++ o7.2.1) ++ ([32, 104, 101, 108, 100, 32] : List UInt8)) o8.2.1 then
                                          (some ((), (((((((((((((([105, 100, 108, 101, 32] : List UInt8) ++ o2.2.1) ++ ([32, 108, 105, 118, 101, 32] : List UInt8)) ++ o3.2.1) ++ ([32, 100, 111, 110, 101, 32] : List UInt8)) ++ o4.2.1) ++ ([32, 97, 98, 111, 114, 116, 101, 100, 32] : List UInt8)) ++ o5.2.1) ++ ([32, 116, 114, 105, 101, 115, 32] : List UInt8)) ++ o6.2.1) ++ ([32, 108, 111, 99, 107, 101, 100, 32] : List UInt8)) ++ o7.2.1) ++ ([32, 104, 101, 108, 100, 32] : List UInt8)) ++ o8.2.1, ()))) else none)) else none) else none)) else none) else none)) else none) else none)) else none) else none)) else none) else none)) else none) else none))

def T_laws_FnExactShowTally (N : Nat) (aT1 : Int × Int × Int × Int × Int × Int × Int) : Option (Unit × (Bool × Unit)) :=
    ((T_laws_toTally N aT1).bind fun o2 =>
    ((T_spec_ShowTally N o2.2.1).bind fun o3 =>
      ((T_laws_toTally N aT1).bind fun o4 =>
        ((T_impl_ShowTally N o4.2.1).bind fun o5 =>
          (bif !(seq o5.2.1 o3.2.1) then
            (some ((), (false, ())))
            else
            (some ((), (true, ()))))))))

end Go.Sx
