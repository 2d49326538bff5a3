/- What each Go function computes, as a Lean function. -/
import Derived.Test.YtfbomdanghhgcaaM3
namespace Go.Sx
set_option linter.unusedVariables false

noncomputable def T_laws_big (N : Nat) (code1 : List Int) : Option (Unit × (Bool × Unit)) :=
    (some ((), (decide ((ilen code1) > (1048576 : Int)), ())))

noncomputable def T_spec_l1New_lp0 {R : Type} (N : Nat) (code2 : List Int) (K0 : Int → Int → Bool → Option R) : Nat → Int → Int → Option R
  | 0, _, _ => none
  | n + 1, h3, i4 =>
    (bif decide (i4 < (ilen code2)) then
    (bif decide (i4 < (4000 : Int)) then
      (bif inb i4 (List.length code2) then
        (T_spec_l1New_lp0 N code2 K0 n (iand .i64 (iadd .i64 (iadd .i64 (imul .i64 h3 (131 : Int)) (IntKind.wrap .i64 (List.getD code2 (Int.toNat i4) (0 : Int)))) (7 : Int)) (1073741823 : Int)) (iadd .i64 i4 (1 : Int))) else none)
      else
      (K0 h3 i4 (decide (i4 < (4000 : Int)))))
    else
    (K0 h3 i4 false))

noncomputable def T_spec_l1New (N : Nat) (code1 : List Int) : Option (Unit × ((List Int × Int × Int) × Unit)) :=
    (T_spec_l1New_lp0 N code1
    (fun h8 i9 t10 =>
      (some ((), ((code1, ((0 : Int), h8)), ()))))
     N (iadd .i64 (10101 : Int) (ilen code1)) (0 : Int))

noncomputable def T_spec_l1Byte (N : Nat) (c1 : List Int × Int × Int) : Option (((List Int × Int × Int) × Unit) × (Int × Unit)) :=
    (bif inn (33 : Int) then
    (bif inn (45 : Int) then
      (bif decide (c1.2.1 < (ilen c1.1)) then
        (bif inb c1.2.1 (List.length c1.1) then
          (some (((c1.1, (iadd .i64 c1.2.1 (1 : Int), iadd .i64 (imul .i64 c1.2.2 (6364136223846793005 : Int)) (1442695040888963407 : Int))), ()), (iand .i64 (iadd .i64 (iand .i64 (ixor .i64 (ishr .i64 (iadd .i64 (imul .i64 c1.2.2 (6364136223846793005 : Int)) (1442695040888963407 : Int)) (33 : Int)) (ishr .i64 (iadd .i64 (imul .i64 c1.2.2 (6364136223846793005 : Int)) (1442695040888963407 : Int)) (45 : Int))) (255 : Int)) (IntKind.wrap .i64 (List.getD c1.1 (Int.toNat c1.2.1) (0 : Int)))) (255 : Int), ()))) else none)
        else
        (some (((c1.1, (c1.2.1, iadd .i64 (imul .i64 c1.2.2 (6364136223846793005 : Int)) (1442695040888963407 : Int))), ()), (iand .i64 (ixor .i64 (ishr .i64 (iadd .i64 (imul .i64 c1.2.2 (6364136223846793005 : Int)) (1442695040888963407 : Int)) (33 : Int)) (ishr .i64 (iadd .i64 (imul .i64 c1.2.2 (6364136223846793005 : Int)) (1442695040888963407 : Int)) (45 : Int))) (255 : Int), ())))) else none) else none)

noncomputable def T_spec_l1Below (N : Nat) (c1 : List Int × Int × Int) (n2 : Int) : Option (((List Int × Int × Int) × Unit) × (Int × Unit)) :=
    (bif decide (n2 ≤ (0 : Int)) then
    (some ((c1, ()), ((0 : Int), ())))
    else
    (bif decide (n2 ≤ (256 : Int)) then
      ((T_spec_l1Byte N c1).bind fun o3 =>
        (bif inz n2 then
          (some ((o3.1.1, ()), (irem o3.2.1 n2, ()))) else none))
      else
      ((T_spec_l1Byte N c1).bind fun o4 =>
        ((T_spec_l1Byte N o4.1.1).bind fun o5 =>
          ((T_spec_l1Byte N o5.1.1).bind fun o6 =>
            ((T_spec_l1Byte N o6.1.1).bind fun o7 =>
              (bif inz n2 then
                (some ((o7.1.1, ()), (irem (iadd .i64 (iadd .i64 (iadd .i64 (imul .i64 o4.2.1 (16777216 : Int)) (imul .i64 o5.2.1 (65536 : Int))) (imul .i64 o6.2.1 (256 : Int))) o7.2.1) n2, ()))) else none)))))))

noncomputable def T_spec_l26Acts_lp0 {R : Type} (N : Nat) (K0 : Int → Bool → (List Int × Int × Int) → (List (Int × Int × Int)) → Option R) : Nat → Int → (List Int × Int × Int) → (List (Int × Int × Int)) → Option R
  | 0, _, _, _ => none
  | n + 1, n4, b5, l6 =>
    (bif decide (n4 > (0 : Int)) then
    ((T_spec_l1Below N b5 (5 : Int)).bind fun o14 =>
      ((T_spec_l1Below N o14.1.1 (3 : Int)).bind fun o15 =>
        ((T_spec_l1Below N o15.1.1 (10 : Int)).bind fun o16 =>
          (bif room ((List.length l6) + (List.length ([(iadd .i64 (1 : Int) o14.2.1, (o15.2.1, o16.2.1))]))) then
            (T_spec_l26Acts_lp0 N K0 n (isub .i64 n4 (1 : Int)) o16.1.1 (List.append l6 ([(iadd .i64 (1 : Int) o14.2.1, (o15.2.1, o16.2.1))]))) else none))))
    else
    (K0 n4 (decide (n4 > (0 : Int))) b5 l6))

noncomputable def T_spec_l26Acts (N : Nat) (c1 : List Int × Int × Int) (most2 : Int) : Option (((List Int × Int × Int) × Unit) × ((List (Int × Int × Int)) × Unit)) :=
    ((T_spec_l1Below N c1 (iadd .i64 most2 (1 : Int))).bind fun o3 =>
    (T_spec_l26Acts_lp0 N
      (fun n17 t18 b19 l20 =>
        (some ((b19, ()), (l20, ()))))
       N o3.2.1 o3.1.1 ([] : List (Int × Int × Int))))

noncomputable def T_spec_l26Any_lp0 {R : Type} (N : Nat) (K0 : Bool → (List Int × Int × Int) → (List (Int × Int × Int)) → Option R) : Nat → (List Int × Int × Int) → (List (Int × Int × Int)) → Option R
  | 0, _, _ => none
  | n + 1, b4, l5 =>
    ((T_spec_l1Below N b4 (2 : Int)).bind fun o10 =>
    (bif decide ((ilen l5) < (iadd .i64 (200 : Int) o10.2.1)) then
      (bif room ((List.length l5) + (List.length ([((5 : Int), ((0 : Int), (0 : Int)))]))) then
        (T_spec_l26Any_lp0 N K0 n o10.1.1 (List.append l5 ([((5 : Int), ((0 : Int), (0 : Int)))]))) else none)
      else
      (K0 (decide ((ilen l5) < (iadd .i64 (200 : Int) o10.2.1))) o10.1.1 l5)))

noncomputable def T_spec_l26Any (N : Nat) (c1 : List Int × Int × Int) : Option (((List Int × Int × Int) × Unit) × ((List (Int × Int × Int)) × Unit)) :=
    ((T_spec_l26Acts N c1 (80 : Int)).bind fun o2 =>
    ((T_spec_l1Below N o2.1.1 (20 : Int)).bind fun o3 =>
      (bif o3.2.1 == (0 : Int) then
        (bif room ((List.length o2.2.1) + (List.length ([((0 : Int), ((0 : Int), (0 : Int))), ((1 : Int), ((3 : Int), (0 : Int))), ((3 : Int), ((0 : Int), (10 : Int))), ((6 : Int), ((-1 : Int), (0 : Int)))]))) then
          (some ((o3.1.1, ()), (List.append o2.2.1 ([((0 : Int), ((0 : Int), (0 : Int))), ((1 : Int), ((3 : Int), (0 : Int))), ((3 : Int), ((0 : Int), (10 : Int))), ((6 : Int), ((-1 : Int), (0 : Int)))]), ()))) else none)
        else
        (bif o3.2.1 == (1 : Int) then
          (T_spec_l26Any_lp0 N
            (fun t11 b12 l13 =>
              (some ((b12, ()), (l13, ()))))
             N o3.1.1 o2.2.1)
          else
          (some ((o3.1.1, ()), (o2.2.1, ())))))))

noncomputable def T_spec_DrawEpochPlay (N : Nat) (code1 : List Int) : Option (Unit × ((List (Int × Int × Int)) × Unit)) :=
    ((T_spec_l1New N code1).bind fun o2 =>
    ((T_spec_l26Any N o2.2.1).bind fun o3 =>
      (some ((), (o3.2.1, ())))))

noncomputable def T_impl_Epochs_move_lp0 {R : Type} (N : Nat) (t2 : Int) (b4 : Int) (l5 : List Int) (l6 : List Bool) (l7 : List (Int × Int)) (l8 : List (Int × Int)) (l9 : List Int) (K0 : Int → Bool → Option R) (K1 : Int → Bool → Option R) : Nat → Int → Option R
  | 0, _ => none
  | n + 1, t3 =>
    (bif decide (t3 < t2) then
    (bif inb t3 (List.length l5) then
      (bif decide ((List.getD l5 (Int.toNat t3) (0 : Int)) ≥ (0 : Int)) then
        (bif (List.getD l5 (Int.toNat t3) (0 : Int)) != b4 then
          (K0 t3 ((List.getD l5 (Int.toNat t3) (0 : Int)) != b4))
          else
          (T_impl_Epochs_move_lp0 N t2 b4 l5 l6 l7 l8 l9 K0 K1 n (iadd .i64 t3 (1 : Int))))
        else
        (T_impl_Epochs_move_lp0 N t2 b4 l5 l6 l7 l8 l9 K0 K1 n (iadd .i64 t3 (1 : Int)))) else none)
    else
    (K1 t3 (decide (t3 < t2))))

noncomputable def T_impl_Epochs_move_lp1 {R : Type} (N : Nat) (t18 : Int) (b20 : Int) (l22 : List (Int × Int)) (l23 : List Int) (l24 : List Bool) (l25 : List (Int × Int)) (K0 : Int → Bool → (List (Int × Int)) → (List Int) → Option R) : Nat → Int → (List (Int × Int)) → (List Int) → Option R
  | 0, _, _, _ => none
  | n + 1, t19, l21, l26 =>
    (bif decide (t19 < t18) then
    (bif inb t19 (List.length l22) then
      (bif decide ((List.getD l22 (Int.toNat t19) ((0 : Int), (0 : Int))).2 ≤ (isub .i64 b20 (2 : Int))) then
        (bif room ((List.length l26) + (List.length ([(List.getD l22 (Int.toNat t19) ((0 : Int), (0 : Int))).1]))) then
          (T_impl_Epochs_move_lp1 N t18 b20 l22 l23 l24 l25 K0 n (iadd .i64 t19 (1 : Int)) l21 (List.append l26 ([(List.getD l22 (Int.toNat t19) ((0 : Int), (0 : Int))).1]))) else none)
        else
        (bif room ((List.length l21) + (List.length ([(List.getD l22 (Int.toNat t19) ((0 : Int), (0 : Int)))]))) then
          (T_impl_Epochs_move_lp1 N t18 b20 l22 l23 l24 l25 K0 n (iadd .i64 t19 (1 : Int)) (List.append l21 ([(List.getD l22 (Int.toNat t19) ((0 : Int), (0 : Int)))])) l26) else none)) else none)
    else
    (K0 t19 (decide (t19 < t18)) l21 l26))

noncomputable def T_impl_Epochs_move (N : Nat) (e1 : Int × List Int × List Bool × List (Int × Int) × List (Int × Int) × List Int) : Option (((Int × List Int × List Bool × List (Int × Int) × List (Int × Int) × List Int) × Unit) × Unit) :=
    (T_impl_Epochs_move_lp0 N (ilen e1.2.1) e1.1 e1.2.1 e1.2.2.1 e1.2.2.2.1 e1.2.2.2.2.1 e1.2.2.2.2.2
    (fun t14 t15 =>
      (some ((e1, ()), ())))
    (fun t16 t17 =>
      (T_impl_Epochs_move_lp1 N (ilen e1.2.2.2.1) (iadd .i64 e1.1 (1 : Int)) e1.2.2.2.1 e1.2.1 e1.2.2.1 e1.2.2.2.2.1
        (fun t31 t32 l33 l34 =>
          (some (((iadd .i64 e1.1 (1 : Int), (e1.2.1, (e1.2.2.1, (l33, (e1.2.2.2.2.1, l34))))), ()), ())))
         N (0 : Int) ([] : List (Int × Int)) e1.2.2.2.2.2))
     N (0 : Int))

noncomputable def T_impl_within (N : Nat) (x1 : Int) (lo2 : Int) (hi3 : Int) : Option (Unit × (Bool × Unit)) :=
    (bif decide (x1 ≥ lo2) then
    (some ((), (decide (x1 ≤ hi3), ())))
    else
    (some ((), (false, ()))))

noncomputable def T_impl_Epochs_act_1 (N : Nat) (x1 : Int × Int) (a2 : Int × Int × Int) : Option (((Int × Int × Int) × Unit) × (Bool × Unit)) :=
    (some ((a2, ()), (x1.1 == a2.2.1, ())))

noncomputable def T_slices_IndexFunc___impl_EpHold_impl_EpHold___impl_Epochs_act_1_lp0 {R : Type} (N : Nat) (s3 : List (Int × Int)) (K0 : Int → (Int × Int × Int) → Option R) (K1 : Int → Bool → (Int × Int × Int) → Option R) : Nat → Int → (Int × Int × Int) → Option R
  | 0, _, _ => none
  | n + 1, t5, b6 =>
    (bif decide (t5 < (ilen s3)) then
    (bif inb t5 (List.length s3) then
      ((T_impl_Epochs_act_1 N (List.getD s3 (Int.toNat t5) ((0 : Int), (0 : Int))) b6).bind fun o14 =>
        (bif o14.2.1 then
          (K0 t5 o14.1.1)
          else
          (T_slices_IndexFunc___impl_EpHold_impl_EpHold___impl_Epochs_act_1_lp0 N s3 K0 K1 n (iadd .i64 t5 (1 : Int)) o14.1.1))) else none)
    else
    (K1 t5 (decide (t5 < (ilen s3))) b6))

noncomputable def T_slices_IndexFunc___impl_EpHold_impl_EpHold___impl_Epochs_act_1 (N : Nat) (s1 : List (Int × Int)) (cap2 : Int × Int × Int) : Option (((Int × Int × Int) × Unit) × (Int × Unit)) :=
    (T_slices_IndexFunc___impl_EpHold_impl_EpHold___impl_Epochs_act_1_lp0 N s1
    (fun t15 b16 =>
      (some ((b16, ()), (t15, ()))))
    (fun t17 t18 b19 =>
      (some ((b19, ()), ((-1 : Int), ()))))
     N (0 : Int) cap2)

noncomputable def T_slices_DeleteFunc___impl_EpHold_impl_EpHold___impl_Epochs_act_1_lp0 {R : Type} (N : Nat) (K0 : Int → Int → Bool → (List (Int × Int)) → (Int × Int × Int) → Option R) : Nat → Int → Int → (List (Int × Int)) → (Int × Int × Int) → Option R
  | 0, _, _, _, _ => none
  | n + 1, i4, j5, l6, b7 =>
    (bif decide (j5 < (ilen l6)) then
    (bif inb j5 (List.length l6) then
      ((T_impl_Epochs_act_1 N (List.getD l6 (Int.toNat j5) ((0 : Int), (0 : Int))) b7).bind fun o14 =>
        (bif !o14.2.1 then
          (bif inb i4 (List.length l6) then
            (T_slices_DeleteFunc___impl_EpHold_impl_EpHold___impl_Epochs_act_1_lp0 N K0 n (iadd .i64 i4 (1 : Int)) (iadd .i64 j5 (1 : Int)) (List.set l6 (Int.toNat i4) (List.getD l6 (Int.toNat j5) ((0 : Int), (0 : Int)))) o14.1.1) else none)
          else
          (T_slices_DeleteFunc___impl_EpHold_impl_EpHold___impl_Epochs_act_1_lp0 N K0 n i4 (iadd .i64 j5 (1 : Int)) l6 o14.1.1))) else none)
    else
    (K0 i4 j5 (decide (j5 < (ilen l6))) l6 b7))

noncomputable def T_slices_DeleteFunc___impl_EpHold_impl_EpHold___impl_Epochs_act_1 (N : Nat) (s1 : List (Int × Int)) (cap2 : Int × Int × Int) : Option (((Int × Int × Int) × Unit) × ((List (Int × Int)) × Unit)) :=
    ((T_slices_IndexFunc___impl_EpHold_impl_EpHold___impl_Epochs_act_1 N s1 cap2).bind fun o3 =>
    (bif o3.2.1 == (-1 : Int) then
      (some ((o3.1.1, ()), (s1, ())))
      else
      (T_slices_DeleteFunc___impl_EpHold_impl_EpHold___impl_Epochs_act_1_lp0 N
        (fun i15 j16 t17 l18 b19 =>
          (bif (decide ((0 : Int) ≤ i15)) && (decide (i15 ≤ ((List.length l18) : Int))) then
            (bif (decide ((0 : Int) ≤ i15)) && (decide (i15 ≤ ((List.length ((List.take (Int.toNat i15) l18) ++ List.replicate ((List.length l18) - (Int.toNat i15)) ((0 : Int), (0 : Int)) ++ (List.drop (List.length l18) l18))) : Int))) then
              (some ((b19, ()), (List.take (Int.toNat i15) ((List.take (Int.toNat i15) l18) ++ List.replicate ((List.length l18) - (Int.toNat i15)) ((0 : Int), (0 : Int)) ++ (List.drop (List.length l18) l18)), ()))) else none) else none))
         N o3.2.1 (iadd .i64 o3.2.1 (1 : Int)) s1 o3.1.1)))

noncomputable def T_slices_Index___impl_EpHold_impl_EpHold__lp0 {R : Type} (N : Nat) (s3 : List (Int × Int)) (b6 : Int × Int) (K0 : Int → Option R) (K1 : Int → Bool → Option R) : Nat → Int → Option R
  | 0, _ => none
  | n + 1, t5 =>
    (bif decide (t5 < (ilen s3)) then
    (bif inb t5 (List.length s3) then
      (bif (ieq b6.1 (List.getD s3 (Int.toNat t5) ((0 : Int), (0 : Int))).1) && ((ieq b6.2 (List.getD s3 (Int.toNat t5) ((0 : Int), (0 : Int))).2) && true) then
        (K0 t5)
        else
        (T_slices_Index___impl_EpHold_impl_EpHold__lp0 N s3 b6 K0 K1 n (iadd .i64 t5 (1 : Int)))) else none)
    else
    (K1 t5 (decide (t5 < (ilen s3)))))

noncomputable def T_slices_Index___impl_EpHold_impl_EpHold_ (N : Nat) (s1 : List (Int × Int)) (v2 : Int × Int) : Option (Unit × (Int × Unit)) :=
    (T_slices_Index___impl_EpHold_impl_EpHold__lp0 N s1 v2
    (fun t10 =>
      (some ((), (t10, ()))))
    (fun t11 t12 =>
      (some ((), ((-1 : Int), ()))))
     N (0 : Int))

noncomputable def T_slices_Contains___impl_EpHold_impl_EpHold_ (N : Nat) (s1 : List (Int × Int)) (v2 : Int × Int) : Option (Unit × (Bool × Unit)) :=
    ((T_slices_Index___impl_EpHold_impl_EpHold_ N s1 v2).bind fun o3 =>
    (some ((), (decide (o3.2.1 ≥ (0 : Int)), ()))))

noncomputable def T_impl_Epochs_act (N : Nat) (e1 : Int × List Int × List Bool × List (Int × Int) × List (Int × Int) × List Int) (a2 : Int × Int × Int) : Option (((Int × List Int × List Bool × List (Int × Int) × List (Int × Int) × List Int) × Unit) × Unit) :=
    (bif a2.1 == (5 : Int) then
    ((T_impl_Epochs_move N e1).bind fun o3 =>
      (some ((o3.1.1, ()), ())))
    else
    ((T_impl_within N a2.2.1 (0 : Int) (2 : Int)).bind fun o4 =>
      (bif !o4.2.1 then
        (some ((e1, ()), ()))
        else
        ((T_impl_within N a2.2.2 (0 : Int) (9 : Int)).bind fun o5 =>
          (bif !o5.2.1 then
            (some ((e1, ()), ()))
            else
            (bif inb a2.2.1 (List.length e1.2.1) then
              (bif a2.1 == (1 : Int) then
                (bif (List.getD e1.2.1 (Int.toNat a2.2.1) (0 : Int)) == (-1 : Int) then
                  (bif inb a2.2.1 (List.length e1.2.1) then
                    (some (((e1.1, (List.set e1.2.1 (Int.toNat a2.2.1) e1.1, e1.2.2)), ()), ())) else none)
                  else
                  (some ((e1, ()), ())))
                else
                (bif a2.1 == (2 : Int) then
                  (bif inb a2.2.1 (List.length e1.2.1) then
                    ((T_slices_DeleteFunc___impl_EpHold_impl_EpHold___impl_Epochs_act_1 N e1.2.2.2.2.1 a2).bind fun o6 =>
                      (some (((e1.1, (List.set e1.2.1 (Int.toNat a2.2.1) (-1 : Int), (e1.2.2.1, (e1.2.2.2.1, (o6.2.1, e1.2.2.2.2.2))))), ()), ()))) else none)
                  else
                  (bif a2.1 == (3 : Int) then
                    (bif (List.getD e1.2.1 (Int.toNat a2.2.1) (0 : Int)) != (-1 : Int) then
                      (bif inb a2.2.2 (List.length e1.2.2.1) then
                        (bif List.getD e1.2.2.1 (Int.toNat a2.2.2) false then
                          ((T_slices_Contains___impl_EpHold_impl_EpHold_ N e1.2.2.2.2.1 a2.2).bind fun o7 =>
                            (bif !o7.2.1 then
                              (bif room ((List.length e1.2.2.2.2.1) + (List.length ([a2.2]))) then
                                (some (((e1.1, (e1.2.1, (e1.2.2.1, (e1.2.2.2.1, (List.append e1.2.2.2.2.1 ([a2.2]), e1.2.2.2.2.2))))), ()), ())) else none)
                              else
                              (some ((e1, ()), ()))))
                          else
                          (some ((e1, ()), ()))) else none)
                      else
                      (some ((e1, ()), ())))
                    else
                    (bif a2.1 == (4 : Int) then
                      (bif (List.getD e1.2.1 (Int.toNat a2.2.1) (0 : Int)) != (-1 : Int) then
                        (bif inb a2.2.2 (List.length e1.2.2.1) then
                          (bif List.getD e1.2.2.1 (Int.toNat a2.2.2) false then
                            (bif inb a2.2.2 (List.length e1.2.2.1) then
                              (bif room ((List.length e1.2.2.2.1) + (List.length ([(a2.2.2, e1.1)]))) then
                                (some (((e1.1, (e1.2.1, (List.set e1.2.2.1 (Int.toNat a2.2.2) false, (List.append e1.2.2.2.1 ([(a2.2.2, e1.1)]), e1.2.2.2.2)))), ()), ())) else none) else none)
                            else
                            (some ((e1, ()), ()))) else none)
                        else
                        (some ((e1, ()), ())))
                      else
                      (some ((e1, ()), ())))))) else none))))))

noncomputable def T_impl_EpochPlay_lp0 {R : Type} (N : Nat) (acts2 : List (Int × Int × Int)) (K0 : Int → Bool → (List Int) → Option R) : Nat → Int → (List Int) → Option R
  | 0, _, _ => none
  | n + 1, t3, l6 =>
    (bif decide (t3 < (3 : Int)) then
    (bif room ((List.length l6) + (List.length ([(-1 : Int)]))) then
      (T_impl_EpochPlay_lp0 N acts2 K0 n (iadd .i64 t3 (1 : Int)) (List.append l6 ([(-1 : Int)]))) else none)
    else
    (K0 t3 (decide (t3 < (3 : Int))) l6))

noncomputable def T_impl_EpochPlay_lp1 {R : Type} (N : Nat) (acts13 : List (Int × Int × Int)) (l17 : List Int) (K0 : Int → Bool → (List Bool) → Option R) : Nat → Int → (List Bool) → Option R
  | 0, _, _ => none
  | n + 1, t14, l18 =>
    (bif decide (t14 < (10 : Int)) then
    (bif room ((List.length l18) + (List.length ([true]))) then
      (T_impl_EpochPlay_lp1 N acts13 l17 K0 n (iadd .i64 t14 (1 : Int)) (List.append l18 ([true]))) else none)
    else
    (K0 t14 (decide (t14 < (10 : Int))) l18))

noncomputable def T_impl_EpochPlay_lp2 {R : Type} (N : Nat) (t25 : List (Int × Int × Int)) (K0 : Int → Bool → Int → (List Int) → (List Bool) → (List (Int × Int)) → (List (Int × Int)) → (List Int) → Option R) : Nat → Int → Int → (List Int) → (List Bool) → (List (Int × Int)) → (List (Int × Int)) → (List Int) → Option R
  | 0, _, _, _, _, _, _, _ => none
  | n + 1, t27, b29, l30, l31, l32, l33, l34 =>
    (bif decide (t27 < (ilen t25)) then
    (bif inb t27 (List.length t25) then
      ((T_impl_Epochs_act N (b29, (l30, (l31, (l32, (l33, l34))))) (List.getD t25 (Int.toNat t27) ((0 : Int), ((0 : Int), (0 : Int))))).bind fun o45 =>
        (T_impl_EpochPlay_lp2 N t25 K0 n (iadd .i64 t27 (1 : Int)) o45.1.1.1 o45.1.1.2.1 o45.1.1.2.2.1 o45.1.1.2.2.2.1 o45.1.1.2.2.2.2.1 o45.1.1.2.2.2.2.2)) else none)
    else
    (K0 t27 (decide (t27 < (ilen t25))) b29 l30 l31 l32 l33 l34))

noncomputable def T_impl_EpochPlay (N : Nat) (acts1 : List (Int × Int × Int)) : Option (Unit × ((Int × List Int × List Bool × List (Int × Int) × List (Int × Int) × List Int) × Unit)) :=
    (bif decide ((ilen acts1) > (200 : Int)) then
    (some ((), (((0 : Int), (([] : List Int), (([] : List Bool), (([] : List (Int × Int)), (([] : List (Int × Int)), ([] : List Int)))))), ())))
    else
    (T_impl_EpochPlay_lp0 N acts1
      (fun t10 t11 l12 =>
        (T_impl_EpochPlay_lp1 N acts1 l12
          (fun t22 t23 l24 =>
            (T_impl_EpochPlay_lp2 N acts1
              (fun t46 t47 b48 l49 l50 l51 l52 l53 =>
                (some ((), ((b48, (l49, (l50, (l51, (l52, l53))))), ()))))
               N (0 : Int) (0 : Int) l12 l24 ([] : List (Int × Int)) ([] : List (Int × Int)) ([] : List Int)))
           N (0 : Int) ([] : List Bool)))
       N (0 : Int) ([] : List Int)))

noncomputable def T_impl_EpochFlush_lp0 {R : Type} (N : Nat) (K0 : Int → Bool → Int → (List Int) → (List Bool) → (List (Int × Int)) → (List (Int × Int)) → (List Int) → Option R) : Nat → Int → Int → (List Int) → (List Bool) → (List (Int × Int)) → (List (Int × Int)) → (List Int) → Option R
  | 0, _, _, _, _, _, _, _ => none
  | n + 1, t3, b5, l6, l7, l8, l9, l10 =>
    (bif decide (t3 < (3 : Int)) then
    ((T_impl_Epochs_act N (b5, (l6, (l7, (l8, (l9, l10))))) ((2 : Int), (t3, (0 : Int)))).bind fun o21 =>
      (T_impl_EpochFlush_lp0 N K0 n (iadd .i64 t3 (1 : Int)) o21.1.1.1 o21.1.1.2.1 o21.1.1.2.2.1 o21.1.1.2.2.2.1 o21.1.1.2.2.2.2.1 o21.1.1.2.2.2.2.2))
    else
    (K0 t3 (decide (t3 < (3 : Int))) b5 l6 l7 l8 l9 l10))

noncomputable def T_impl_EpochFlush (N : Nat) (acts1 : List (Int × Int × Int)) : Option (Unit × ((Int × List Int × List Bool × List (Int × Int) × List (Int × Int) × List Int) × Unit)) :=
    (bif decide ((ilen acts1) > (200 : Int)) then
    (some ((), (((0 : Int), (([] : List Int), (([] : List Bool), (([] : List (Int × Int)), (([] : List (Int × Int)), ([] : List Int)))))), ())))
    else
    ((T_impl_EpochPlay N acts1).bind fun o2 =>
      (T_impl_EpochFlush_lp0 N
        (fun t22 t23 b24 l25 l26 l27 l28 l29 =>
          ((T_impl_Epochs_move N (b24, (l25, (l26, (l27, (l28, l29)))))).bind fun o30 =>
            ((T_impl_Epochs_move N o30.1.1).bind fun o31 =>
              (some ((), (o31.1.1, ()))))))
         N (0 : Int) o2.2.1.1 o2.2.1.2.1 o2.2.1.2.2.1 o2.2.1.2.2.2.1 o2.2.1.2.2.2.2.1 o2.2.1.2.2.2.2.2)))

noncomputable def T_spec_EpochSafe_lp1 {R : Type} (N : Nat) (i4 : Int) (b6 : Int × List Int × List Bool × List (Int × Int) × List (Int × Int) × List Int) (K0 : Option R) (K1 : Int → Bool → Option R) : Nat → Int → Option R
  | 0, _ => none
  | n + 1, k5 =>
    (bif decide (k5 < (ilen b6.2.2.2.2.1)) then
    (bif inb k5 (List.length b6.2.2.2.2.1) then
      (bif inb i4 (List.length b6.2.2.2.2.2) then
        (bif (List.getD b6.2.2.2.2.1 (Int.toNat k5) ((0 : Int), (0 : Int))).2 == (List.getD b6.2.2.2.2.2 (Int.toNat i4) (0 : Int)) then
          K0
          else
          (T_spec_EpochSafe_lp1 N i4 b6 K0 K1 n (iadd .i64 k5 (1 : Int)))) else none) else none)
    else
    (K1 k5 (decide (k5 < (ilen b6.2.2.2.2.1)))))

noncomputable def T_spec_EpochSafe_lp0 {R : Type} (N : Nat) (b3 : Int × List Int × List Bool × List (Int × Int) × List (Int × Int) × List Int) (K0 : Option R) (K1 : Int → Bool → Option R) : Nat → Int → Option R
  | 0, _ => none
  | n + 1, i2 =>
    (bif decide (i2 < (ilen b3.2.2.2.2.2)) then
    (T_spec_EpochSafe_lp1 N i2 b3
      K0
      (fun k13 t14 =>
        (T_spec_EpochSafe_lp0 N b3 K0 K1 n (iadd .i64 i2 (1 : Int))))
       N (0 : Int))
    else
    (K1 i2 (decide (i2 < (ilen b3.2.2.2.2.2)))))

noncomputable def T_spec_EpochSafe (N : Nat) (e1 : Int × List Int × List Bool × List (Int × Int) × List (Int × Int) × List Int) : Option (Unit × (Bool × Unit)) :=
    (T_spec_EpochSafe_lp0 N e1
    (some ((), (false, ())))
    (fun i15 t16 =>
      (some ((), (true, ()))))
     N (0 : Int))

noncomputable def T_spec_l1In (N : Nat) (x1 : Int) (low2 : Int) (high3 : Int) : Option (Unit × (Bool × Unit)) :=
    (bif decide (x1 ≥ low2) then
    (some ((), (decide (x1 ≤ high3), ())))
    else
    (some ((), (false, ()))))

noncomputable def T_spec_EpochOk_lp0 {R : Type} (N : Nat) (b4 : Int × List Int × List Bool × List (Int × Int) × List (Int × Int) × List Int) (K0 : Option R) (K1 : Int → Bool → Option R) : Nat → Int → Option R
  | 0, _ => none
  | n + 1, i3 =>
    (bif decide (i3 < (ilen b4.2.1)) then
    (bif inb i3 (List.length b4.2.1) then
      (bif (List.getD b4.2.1 (Int.toNat i3) (0 : Int)) != (-1 : Int) then
        (bif inb i3 (List.length b4.2.1) then
          ((T_spec_l1In N (List.getD b4.2.1 (Int.toNat i3) (0 : Int)) (isub .i64 b4.1 (1 : Int)) b4.1).bind fun o8 =>
            (bif !o8.2.1 then
              K0
              else
              (T_spec_EpochOk_lp0 N b4 K0 K1 n (iadd .i64 i3 (1 : Int))))) else none)
        else
        (T_spec_EpochOk_lp0 N b4 K0 K1 n (iadd .i64 i3 (1 : Int)))) else none)
    else
    (K1 i3 (decide (i3 < (ilen b4.2.1)))))

noncomputable def T_spec_EpochOk_lp1 {R : Type} (N : Nat) (b12 : Int × List Int × List Bool × List (Int × Int) × List (Int × Int) × List Int) (K0 : Int → Bool → (List Int) → Option R) : Nat → Int → (List Int) → Option R
  | 0, _, _ => none
  | n + 1, i11, l13 =>
    (bif decide (i11 < (10 : Int)) then
    (bif inb i11 (List.length b12.2.2.1) then
      (bif List.getD b12.2.2.1 (Int.toNat i11) false then
        (bif inb i11 (List.length l13) then
          (T_spec_EpochOk_lp1 N b12 K0 n (iadd .i64 i11 (1 : Int)) (List.set l13 (Int.toNat i11) (1 : Int))) else none)
        else
        (T_spec_EpochOk_lp1 N b12 K0 n (iadd .i64 i11 (1 : Int)) l13)) else none)
    else
    (K0 i11 (decide (i11 < (10 : Int))) l13))

noncomputable def T_spec_EpochOk_lp2 {R : Type} (N : Nat) (b21 : Int × List Int × List Bool × List (Int × Int) × List (Int × Int) × List Int) (K0 : Option R) (K1 : Int → Bool → (List Int) → Option R) : Nat → Int → (List Int) → Option R
  | 0, _, _ => none
  | n + 1, i20, l22 =>
    (bif decide (i20 < (ilen b21.2.2.2.1)) then
    (bif inb i20 (List.length b21.2.2.2.1) then
      ((T_spec_l1In N (List.getD b21.2.2.2.1 (Int.toNat i20) ((0 : Int), (0 : Int))).1 (0 : Int) (9 : Int)).bind fun o28 =>
        (bif !o28.2.1 then
          K0
          else
          (bif inb i20 (List.length b21.2.2.2.1) then
            ((T_spec_l1In N (List.getD b21.2.2.2.1 (Int.toNat i20) ((0 : Int), (0 : Int))).2 (isub .i64 b21.1 (1 : Int)) b21.1).bind fun o29 =>
              (bif !o29.2.1 then
                K0
                else
                (bif inb i20 (List.length b21.2.2.2.1) then
                  (bif inb i20 (List.length b21.2.2.2.1) then
                    (bif inb (List.getD b21.2.2.2.1 (Int.toNat i20) ((0 : Int), (0 : Int))).1 (List.length l22) then
                      (bif inb (List.getD b21.2.2.2.1 (Int.toNat i20) ((0 : Int), (0 : Int))).1 (List.length l22) then
                        (T_spec_EpochOk_lp2 N b21 K0 K1 n (iadd .i64 i20 (1 : Int)) (List.set l22 (Int.toNat (List.getD b21.2.2.2.1 (Int.toNat i20) ((0 : Int), (0 : Int))).1) (iadd .i64 (List.getD l22 (Int.toNat (List.getD b21.2.2.2.1 (Int.toNat i20) ((0 : Int), (0 : Int))).1) (0 : Int)) (1 : Int)))) else none) else none) else none) else none))) else none))) else none)
    else
    (K1 i20 (decide (i20 < (ilen b21.2.2.2.1))) l22))

noncomputable def T_spec_EpochOk_lp3 {R : Type} (N : Nat) (b34 : Int × List Int × List Bool × List (Int × Int) × List (Int × Int) × List Int) (K0 : Option R) (K1 : Int → Bool → (List Int) → Option R) : Nat → Int → (List Int) → Option R
  | 0, _, _ => none
  | n + 1, i33, l35 =>
    (bif decide (i33 < (ilen b34.2.2.2.2.2)) then
    (bif inb i33 (List.length b34.2.2.2.2.2) then
      ((T_spec_l1In N (List.getD b34.2.2.2.2.2 (Int.toNat i33) (0 : Int)) (0 : Int) (9 : Int)).bind fun o40 =>
        (bif !o40.2.1 then
          K0
          else
          (bif inb i33 (List.length b34.2.2.2.2.2) then
            (bif inb i33 (List.length b34.2.2.2.2.2) then
              (bif inb (List.getD b34.2.2.2.2.2 (Int.toNat i33) (0 : Int)) (List.length l35) then
                (bif inb (List.getD b34.2.2.2.2.2 (Int.toNat i33) (0 : Int)) (List.length l35) then
                  (T_spec_EpochOk_lp3 N b34 K0 K1 n (iadd .i64 i33 (1 : Int)) (List.set l35 (Int.toNat (List.getD b34.2.2.2.2.2 (Int.toNat i33) (0 : Int))) (iadd .i64 (List.getD l35 (Int.toNat (List.getD b34.2.2.2.2.2 (Int.toNat i33) (0 : Int))) (0 : Int)) (1 : Int)))) else none) else none) else none) else none))) else none)
    else
    (K1 i33 (decide (i33 < (ilen b34.2.2.2.2.2))) l35))

noncomputable def T_spec_EpochOk_lp4 {R : Type} (N : Nat) (b45 : Int × List Int × List Bool × List (Int × Int) × List (Int × Int) × List Int) (l46 : List Int) (K0 : Option R) (K1 : Int → Bool → Option R) : Nat → Int → Option R
  | 0, _ => none
  | n + 1, i44 =>
    (bif decide (i44 < (10 : Int)) then
    (bif inb i44 (List.length l46) then
      (bif (List.getD l46 (Int.toNat i44) (0 : Int)) != (1 : Int) then
        K0
        else
        (T_spec_EpochOk_lp4 N b45 l46 K0 K1 n (iadd .i64 i44 (1 : Int)))) else none)
    else
    (K1 i44 (decide (i44 < (10 : Int)))))

noncomputable def T_spec_EpochOk_lp5 {R : Type} (N : Nat) (b52 : Int × List Int × List Bool × List (Int × Int) × List (Int × Int) × List Int) (K0 : Option R) (K1 : Int → Bool → Option R) : Nat → Int → Option R
  | 0, _ => none
  | n + 1, i51 =>
    (bif decide (i51 < (ilen b52.2.2.2.2.1)) then
    (bif inb i51 (List.length b52.2.2.2.2.1) then
      ((T_spec_l1In N (List.getD b52.2.2.2.2.1 (Int.toNat i51) ((0 : Int), (0 : Int))).1 (0 : Int) (2 : Int)).bind fun o57 =>
        (bif !o57.2.1 then
          K0
          else
          ((T_spec_l1In N (List.getD b52.2.2.2.2.1 (Int.toNat i51) ((0 : Int), (0 : Int))).2 (0 : Int) (9 : Int)).bind fun o58 =>
            (bif !o58.2.1 then
              K0
              else
              (bif inb (List.getD b52.2.2.2.2.1 (Int.toNat i51) ((0 : Int), (0 : Int))).1 (List.length b52.2.1) then
                (bif decide ((List.getD b52.2.1 (Int.toNat (List.getD b52.2.2.2.2.1 (Int.toNat i51) ((0 : Int), (0 : Int))).1) (0 : Int)) < (0 : Int)) then
                  K0
                  else
                  (T_spec_EpochOk_lp5 N b52 K0 K1 n (iadd .i64 i51 (1 : Int)))) else none))))) else none)
    else
    (K1 i51 (decide (i51 < (ilen b52.2.2.2.2.1)))))

noncomputable def T_spec_EpochOk (N : Nat) (e1 : Int × List Int × List Bool × List (Int × Int) × List (Int × Int) × List Int) : Option (Unit × (Bool × Unit)) :=
    (bif (ilen e1.2.1) != (3 : Int) then
    (some ((), (false, ())))
    else
    (bif (ilen e1.2.2.1) != (10 : Int) then
      (some ((), (false, ())))
      else
      ((T_spec_l1In N e1.1 (0 : Int) (205 : Int)).bind fun o2 =>
        (bif !o2.2.1 then
          (some ((), (false, ())))
          else
          (T_spec_EpochOk_lp0 N e1
            (some ((), (false, ())))
            (fun i9 t10 =>
              (bif ((decide ((0 : Int) ≤ (10 : Int))) && (decide ((10 : Int) ≤ (10 : Int)))) && (room (Int.toNat (10 : Int))) then
                (T_spec_EpochOk_lp1 N e1
                  (fun i17 t18 l19 =>
                    (T_spec_EpochOk_lp2 N e1
                      (some ((), (false, ())))
                      (fun i30 t31 l32 =>
                        (T_spec_EpochOk_lp3 N e1
                          (some ((), (false, ())))
                          (fun i41 t42 l43 =>
                            (T_spec_EpochOk_lp4 N e1 l43
                              (some ((), (false, ())))
                              (fun i49 t50 =>
                                (T_spec_EpochOk_lp5 N e1
                                  (some ((), (false, ())))
                                  (fun i59 t60 =>
                                    (some ((), (true, ()))))
                                   N (0 : Int)))
                               N (0 : Int)))
                           N (0 : Int) l32))
                       N (0 : Int) l19))
                   N (0 : Int) (List.replicate (Int.toNat (10 : Int)) (0 : Int))) else none))
             N (0 : Int))))))

noncomputable def T_slices_Index___int_int__lp0 {R : Type} (N : Nat) (s3 : List Int) (v4 : Int) (K0 : Int → Option R) (K1 : Int → Bool → Option R) : Nat → Int → Option R
  | 0, _ => none
  | n + 1, t6 =>
    (bif decide (t6 < (ilen s3)) then
    (bif inb t6 (List.length s3) then
      (bif v4 == (List.getD s3 (Int.toNat t6) (0 : Int)) then
        (K0 t6)
        else
        (T_slices_Index___int_int__lp0 N s3 v4 K0 K1 n (iadd .i64 t6 (1 : Int)))) else none)
    else
    (K1 t6 (decide (t6 < (ilen s3)))))

noncomputable def T_slices_Index___int_int_ (N : Nat) (s1 : List Int) (v2 : Int) : Option (Unit × (Int × Unit)) :=
    (T_slices_Index___int_int__lp0 N s1 v2
    (fun t10 =>
      (some ((), (t10, ()))))
    (fun t11 t12 =>
      (some ((), ((-1 : Int), ()))))
     N (0 : Int))

noncomputable def T_slices_Contains___int_int_ (N : Nat) (s1 : List Int) (v2 : Int) : Option (Unit × (Bool × Unit)) :=
    ((T_slices_Index___int_int_ N s1 v2).bind fun o3 =>
    (some ((), (decide (o3.2.1 ≥ (0 : Int)), ()))))

noncomputable def T_impl_EpochSafe_1 (N : Nat) (h1 : Int × Int) (a2 : Int × List Int × List Bool × List (Int × Int) × List (Int × Int) × List Int) : Option (((Int × List Int × List Bool × List (Int × Int) × List (Int × Int) × List Int) × Unit) × (Bool × Unit)) :=
    ((T_slices_Contains___int_int_ N a2.2.2.2.2.2 h1.2).bind fun o3 =>
    (some ((a2, ()), (o3.2.1, ()))))

noncomputable def T_slices_IndexFunc___impl_EpHold_impl_EpHold___impl_EpochSafe_1_lp0 {R : Type} (N : Nat) (s3 : List (Int × Int)) (K0 : Int → (Int × List Int × List Bool × List (Int × Int) × List (Int × Int) × List Int) → Option R) (K1 : Int → Bool → (Int × List Int × List Bool × List (Int × Int) × List (Int × Int) × List Int) → Option R) : Nat → Int → (Int × List Int × List Bool × List (Int × Int) × List (Int × Int) × List Int) → Option R
  | 0, _, _ => none
  | n + 1, t5, b6 =>
    (bif decide (t5 < (ilen s3)) then
    (bif inb t5 (List.length s3) then
      ((T_impl_EpochSafe_1 N (List.getD s3 (Int.toNat t5) ((0 : Int), (0 : Int))) b6).bind fun o14 =>
        (bif o14.2.1 then
          (K0 t5 o14.1.1)
          else
          (T_slices_IndexFunc___impl_EpHold_impl_EpHold___impl_EpochSafe_1_lp0 N s3 K0 K1 n (iadd .i64 t5 (1 : Int)) o14.1.1))) else none)
    else
    (K1 t5 (decide (t5 < (ilen s3))) b6))

noncomputable def T_slices_IndexFunc___impl_EpHold_impl_EpHold___impl_EpochSafe_1 (N : Nat) (s1 : List (Int × Int)) (cap2 : Int × List Int × List Bool × List (Int × Int) × List (Int × Int) × List Int) : Option (((Int × List Int × List Bool × List (Int × Int) × List (Int × Int) × List Int) × Unit) × (Int × Unit)) :=
    (T_slices_IndexFunc___impl_EpHold_impl_EpHold___impl_EpochSafe_1_lp0 N s1
    (fun t15 b16 =>
      (some ((b16, ()), (t15, ()))))
    (fun t17 t18 b19 =>
      (some ((b19, ()), ((-1 : Int), ()))))
     N (0 : Int) cap2)

noncomputable def T_slices_ContainsFunc___impl_EpHold_impl_EpHold___impl_EpochSafe_1 (N : Nat) (s1 : List (Int × Int)) (cap2 : Int × List Int × List Bool × List (Int × Int) × List (Int × Int) × List Int) : Option (((Int × List Int × List Bool × List (Int × Int) × List (Int × Int) × List Int) × Unit) × (Bool × Unit)) :=
    ((T_slices_IndexFunc___impl_EpHold_impl_EpHold___impl_EpochSafe_1 N s1 cap2).bind fun o3 =>
    (some ((o3.1.1, ()), (decide (o3.2.1 ≥ (0 : Int)), ()))))

noncomputable def T_impl_EpochSafe (N : Nat) (e1 : Int × List Int × List Bool × List (Int × Int) × List (Int × Int) × List Int) : Option (Unit × (Bool × Unit)) :=
    ((T_slices_ContainsFunc___impl_EpHold_impl_EpHold___impl_EpochSafe_1 N e1.2.2.2.2.1 e1).bind fun o2 =>
    (some ((), (!o2.2.1, ()))))

noncomputable def T_impl_copyInts (N : Nat) (l1 : List Int) : Option (Unit × ((List Int) × Unit)) :=
    (bif room (List.length l1) then
    (some ((), (l1, ()))) else none)

noncomputable def T_impl_EpochOk_lp0 {R : Type} (N : Nat) (t3 : List Int) (b6 : Int × List Int × List Bool × List (Int × Int) × List (Int × Int) × List Int) (K0 : Option R) (K1 : Int → Bool → Option R) : Nat → Int → Option R
  | 0, _ => none
  | n + 1, t5 =>
    (bif decide (t5 < (ilen b6.2.1)) then
    (bif inb t5 (List.length t3) then
      (bif (List.getD t3 (Int.toNat t5) (0 : Int)) != (-1 : Int) then
        (bif (List.getD t3 (Int.toNat t5) (0 : Int)) != b6.1 then
          (bif (List.getD t3 (Int.toNat t5) (0 : Int)) != (isub .i64 b6.1 (1 : Int)) then
            K0
            else
            (bif decide ((List.getD t3 (Int.toNat t5) (0 : Int)) < (0 : Int)) then
              K0
              else
              (T_impl_EpochOk_lp0 N t3 b6 K0 K1 n (iadd .i64 t5 (1 : Int)))))
          else
          (T_impl_EpochOk_lp0 N t3 b6 K0 K1 n (iadd .i64 t5 (1 : Int))))
        else
        (T_impl_EpochOk_lp0 N t3 b6 K0 K1 n (iadd .i64 t5 (1 : Int)))) else none)
    else
    (K1 t5 (decide (t5 < (ilen b6.2.1)))))

noncomputable def T_impl_EpochOk_lp1 {R : Type} (N : Nat) (t11 : List Bool) (b14 : Int × List Int × List Bool × List (Int × Int) × List (Int × Int) × List Int) (K0 : Int → Bool → (List Int) → Option R) : Nat → Int → (List Int) → Option R
  | 0, _, _ => none
  | n + 1, t13, l15 =>
    (bif decide (t13 < (ilen b14.2.2.1)) then
    (bif inb t13 (List.length t11) then
      (bif List.getD t11 (Int.toNat t13) false then
        (bif (inb t13 10) && (decide ((List.length l15) = 10)) then
          (bif (inb t13 10) && (decide ((List.length l15) = 10)) then
            (T_impl_EpochOk_lp1 N t11 b14 K0 n (iadd .i64 t13 (1 : Int)) (List.set l15 (Int.toNat t13) (iadd .i64 (List.getD l15 (Int.toNat t13) (0 : Int)) (1 : Int)))) else none) else none)
        else
        (T_impl_EpochOk_lp1 N t11 b14 K0 n (iadd .i64 t13 (1 : Int)) l15)) else none)
    else
    (K0 t13 (decide (t13 < (ilen b14.2.2.1))) l15))

noncomputable def T_impl_EpochOk_lp2 {R : Type} (N : Nat) (t23 : List (Int × Int)) (b26 : Int × List Int × List Bool × List (Int × Int) × List (Int × Int) × List Int) (l27 : List Int) (K0 : Option R) (K1 : Int → Bool → (List Int) → Option R) : Nat → Int → (List Int) → Option R
  | 0, _, _ => none
  | n + 1, t25, l28 =>
    (bif decide (t25 < (ilen b26.2.2.2.1)) then
    (bif inb t25 (List.length t23) then
      (bif (List.getD t23 (Int.toNat t25) ((0 : Int), (0 : Int))).2 != b26.1 then
        (bif (List.getD t23 (Int.toNat t25) ((0 : Int), (0 : Int))).2 != (isub .i64 b26.1 (1 : Int)) then
          K0
          else
          (bif room ((List.length l28) + (List.length ([(List.getD t23 (Int.toNat t25) ((0 : Int), (0 : Int))).1]))) then
            (T_impl_EpochOk_lp2 N t23 b26 l27 K0 K1 n (iadd .i64 t25 (1 : Int)) (List.append l28 ([(List.getD t23 (Int.toNat t25) ((0 : Int), (0 : Int))).1]))) else none))
        else
        (bif room ((List.length l28) + (List.length ([(List.getD t23 (Int.toNat t25) ((0 : Int), (0 : Int))).1]))) then
          (T_impl_EpochOk_lp2 N t23 b26 l27 K0 K1 n (iadd .i64 t25 (1 : Int)) (List.append l28 ([(List.getD t23 (Int.toNat t25) ((0 : Int), (0 : Int))).1]))) else none)) else none)
    else
    (K1 t25 (decide (t25 < (ilen b26.2.2.2.1))) l28))

noncomputable def T_impl_EpochOk_lp3 {R : Type} (N : Nat) (b37 : Int × List Int × List Bool × List (Int × Int) × List (Int × Int) × List Int) (l39 : List Int) (K0 : Option R) (K1 : Int → Bool → (List Int) → Option R) : Nat → Int → (List Int) → Option R
  | 0, _, _ => none
  | n + 1, t36, l38 =>
    (bif decide (t36 < (ilen l39)) then
    (bif inb t36 (List.length l39) then
      ((T_impl_within N (List.getD l39 (Int.toNat t36) (0 : Int)) (0 : Int) (9 : Int)).bind fun o45 =>
        (bif !o45.2.1 then
          K0
          else
          (bif (inb (List.getD l39 (Int.toNat t36) (0 : Int)) 10) && (decide ((List.length l38) = 10)) then
            (bif (inb (List.getD l39 (Int.toNat t36) (0 : Int)) 10) && (decide ((List.length l38) = 10)) then
              (T_impl_EpochOk_lp3 N b37 l39 K0 K1 n (iadd .i64 t36 (1 : Int)) (List.set l38 (Int.toNat (List.getD l39 (Int.toNat t36) (0 : Int))) (iadd .i64 (List.getD l38 (Int.toNat (List.getD l39 (Int.toNat t36) (0 : Int))) (0 : Int)) (1 : Int)))) else none) else none))) else none)
    else
    (K1 t36 (decide (t36 < (ilen l39))) l38))

noncomputable def T_impl_EpochOk_lp4 {R : Type} (N : Nat) (t49 : Int) (t50 : Int) (t51 : Int) (t52 : Int) (t53 : Int) (t54 : Int) (t55 : Int) (t56 : Int) (t57 : Int) (t58 : Int) (b60 : Int × List Int × List Bool × List (Int × Int) × List (Int × Int) × List Int) (K0 : Option R) (K1 : Int → Bool → Option R) : Nat → Int → Option R
  | 0, _ => none
  | n + 1, t59 =>
    (bif decide (t59 < (10 : Int)) then
    (bif inb t59 10 then
      (bif (List.getD ([t49, t50, t51, t52, t53, t54, t55, t56, t57, t58]) (Int.toNat t59) (0 : Int)) != (1 : Int) then
        K0
        else
        (T_impl_EpochOk_lp4 N t49 t50 t51 t52 t53 t54 t55 t56 t57 t58 b60 K0 K1 n (iadd .i64 t59 (1 : Int)))) else none)
    else
    (K1 t59 (decide (t59 < (10 : Int)))))

noncomputable def T_impl_EpochOk_lp5 {R : Type} (N : Nat) (t65 : List (Int × Int)) (b68 : Int × List Int × List Bool × List (Int × Int) × List (Int × Int) × List Int) (K0 : Option R) (K1 : Int → Bool → Option R) : Nat → Int → Option R
  | 0, _ => none
  | n + 1, t67 =>
    (bif decide (t67 < (ilen b68.2.2.2.2.1)) then
    (bif inb t67 (List.length t65) then
      ((T_impl_within N (List.getD t65 (Int.toNat t67) ((0 : Int), (0 : Int))).1 (0 : Int) (2 : Int)).bind fun o75 =>
        (bif !o75.2.1 then
          K0
          else
          (bif inb (List.getD t65 (Int.toNat t67) ((0 : Int), (0 : Int))).1 (List.length b68.2.1) then
            (bif decide ((List.getD b68.2.1 (Int.toNat (List.getD t65 (Int.toNat t67) ((0 : Int), (0 : Int))).1) (0 : Int)) < (0 : Int)) then
              K0
              else
              ((T_impl_within N (List.getD t65 (Int.toNat t67) ((0 : Int), (0 : Int))).2 (0 : Int) (9 : Int)).bind fun o76 =>
                (bif !o76.2.1 then
                  K0
                  else
                  (T_impl_EpochOk_lp5 N t65 b68 K0 K1 n (iadd .i64 t67 (1 : Int)))))) else none))) else none)
    else
    (K1 t67 (decide (t67 < (ilen b68.2.2.2.2.1)))))

noncomputable def T_impl_EpochOk (N : Nat) (e1 : Int × List Int × List Bool × List (Int × Int) × List (Int × Int) × List Int) : Option (Unit × (Bool × Unit)) :=
    (bif (ilen e1.2.1) != (3 : Int) then
    (some ((), (false, ())))
    else
    (bif (ilen e1.2.2.1) != (10 : Int) then
      (some ((), (false, ())))
      else
      ((T_impl_within N e1.1 (0 : Int) (205 : Int)).bind fun o2 =>
        (bif !o2.2.1 then
          (some ((), (false, ())))
          else
          (T_impl_EpochOk_lp0 N e1.2.1 e1
            (some ((), (false, ())))
            (fun t9 t10 =>
              (T_impl_EpochOk_lp1 N e1.2.2.1 e1
                (fun t19 t20 l21 =>
                  ((T_impl_copyInts N e1.2.2.2.2.2).bind fun o22 =>
                    (T_impl_EpochOk_lp2 N e1.2.2.2.1 e1 l21
                      (some ((), (false, ())))
                      (fun t32 t33 l34 =>
                        (T_impl_EpochOk_lp3 N e1 l34
                          (some ((), (false, ())))
                          (fun t46 t47 l48 =>
                            (bif decide ((List.length l48) = 10) then
                              (T_impl_EpochOk_lp4 N (List.getD l48 0 (0 : Int)) (List.getD l48 1 (0 : Int)) (List.getD l48 2 (0 : Int)) (List.getD l48 3 (0 : Int)) (List.getD l48 4 (0 : Int)) (List.getD l48 5 (0 : Int)) (List.getD l48 6 (0 : Int)) (List.getD l48 7 (0 : Int)) (List.getD l48 8 (0 : Int)) (List.getD l48 9 (0 : Int)) e1
                                (some ((), (false, ())))
                                (fun t63 t64 =>
                                  (T_impl_EpochOk_lp5 N e1.2.2.2.2.1 e1
                                    (some ((), (false, ())))
                                    (fun t77 t78 =>
                                      (some ((), (true, ()))))
                                     N (0 : Int)))
                                 N (0 : Int)) else none))
                           N (0 : Int) l21))
                       N (0 : Int) o22.2.1)))
                 N (0 : Int) (List.replicate 10 (0 : Int))))
             N (0 : Int))))))

noncomputable def T_laws_FnEpochs (N : Nat) (code1 : List Int) : Option (Unit × (Bool × Unit)) :=
    ((T_laws_big N code1).bind fun o2 =>
    (bif o2.2.1 then
      (some ((), (true, ())))
      else
      ((T_spec_DrawEpochPlay N code1).bind fun o3 =>
        ((T_impl_EpochPlay N o3.2.1).bind fun o4 =>
          (bif decide ((ilen o3.2.1) > (200 : Int)) then
            (some ((), ((ilen o4.2.1.2.1) == (0 : Int), ())))
            else
            ((T_impl_EpochFlush N o3.2.1).bind fun o5 =>
              ((T_spec_EpochSafe N o4.2.1).bind fun o6 =>
                (bif o6.2.1 then
                  ((T_spec_EpochOk N o4.2.1).bind fun o7 =>
                    (bif o7.2.1 then
                      ((T_impl_EpochSafe N o4.2.1).bind fun o8 =>
                        (bif o8.2.1 then
                          ((T_impl_EpochOk N o4.2.1).bind fun o9 =>
                            (bif o9.2.1 then
                              (bif (ilen o5.2.1.2.2.2.1) == (0 : Int) then
                                (bif (ilen o5.2.1.2.2.2.2.1) == (0 : Int) then
                                  ((T_spec_EpochOk N o5.2.1).bind fun o10 =>
                                    (bif o10.2.1 then
                                      (bif o5.2.1.1 == (iadd .i64 o4.2.1.1 (2 : Int)) then
                                        (some ((), ((ilen o5.2.1.2.2.2.2.2) == (iadd .i64 (ilen o4.2.1.2.2.2.2.2) (ilen o4.2.1.2.2.2.1)), ())))
                                        else
                                        (some ((), (false, ()))))
                                      else
                                      (some ((), (false, ())))))
                                  else
                                  (some ((), (false, ()))))
                                else
                                (some ((), (false, ()))))
                              else
                              (some ((), (false, ())))))
                          else
                          (some ((), (false, ())))))
                      else
                      (some ((), (false, ())))))
                  else
                  (some ((), (false, ())))))))))))

noncomputable def T_laws_szEpActS (N : Nat) (a1 : List (Int × Int × Int)) (left2 : Int) : Option (Unit × (Int × Unit)) :=
    (bif decide ((isub .i64 left2 (ilen a1)) < (0 : Int)) then
    (some ((), ((-1 : Int), ())))
    else
    (some ((), (isub .i64 left2 (ilen a1), ()))))

noncomputable def T_laws_toEpAct (N : Nat) (a1 : Int × Int × Int) : Option (Unit × ((Int × Int × Int) × Unit)) :=
    (some ((), (a1, ())))

noncomputable def T_laws_toEpActS_lp0 {R : Type} (N : Nat) (a2 : List (Int × Int × Int)) (K0 : Int → Bool → (List (Int × Int × Int)) → Option R) : Nat → Int → (List (Int × Int × Int)) → Option R
  | 0, _, _ => none
  | n + 1, i3, l4 =>
    (bif decide (i3 < (ilen a2)) then
    (bif inb i3 (List.length a2) then
      ((T_laws_toEpAct N (List.getD a2 (Int.toNat i3) ((0 : Int), ((0 : Int), (0 : Int))))).bind fun o9 =>
        (bif inb i3 (List.length l4) then
          (T_laws_toEpActS_lp0 N a2 K0 n (iadd .i64 i3 (1 : Int)) (List.set l4 (Int.toNat i3) o9.2.1)) else none)) else none)
    else
    (K0 i3 (decide (i3 < (ilen a2))) l4))

noncomputable def T_laws_toEpActS (N : Nat) (a1 : List (Int × Int × Int)) : Option (Unit × ((List (Int × Int × Int)) × Unit)) :=
    (bif ((decide ((0 : Int) ≤ (ilen a1))) && (decide ((ilen a1) ≤ (ilen a1)))) && (room (Int.toNat (ilen a1))) then
    (T_laws_toEpActS_lp0 N a1
      (fun i10 t11 l12 =>
        (some ((), (l12, ()))))
       N (0 : Int) (List.replicate (Int.toNat (ilen a1)) ((0 : Int), ((0 : Int), (0 : Int))))) else none)

noncomputable def T_spec_l26New_lp0 {R : Type} (N : Nat) (K0 : Int → Bool → (List Int) → Option R) : Nat → Int → (List Int) → Option R
  | 0, _, _ => none
  | n + 1, i1, l4 =>
    (bif decide (i1 < (3 : Int)) then
    (bif inb i1 (List.length l4) then
      (T_spec_l26New_lp0 N K0 n (iadd .i64 i1 (1 : Int)) (List.set l4 (Int.toNat i1) (-1 : Int))) else none)
    else
    (K0 i1 (decide (i1 < (3 : Int))) l4))

noncomputable def T_spec_l26New_lp1 {R : Type} (N : Nat) (l15 : List Int) (K0 : Int → Bool → (List Bool) → Option R) : Nat → Int → (List Bool) → Option R
  | 0, _, _ => none
  | n + 1, i12, l16 =>
    (bif decide (i12 < (10 : Int)) then
    (bif inb i12 (List.length l16) then
      (T_spec_l26New_lp1 N l15 K0 n (iadd .i64 i12 (1 : Int)) (List.set l16 (Int.toNat i12) true)) else none)
    else
    (K0 i12 (decide (i12 < (10 : Int))) l16))

noncomputable def T_spec_l26New (N : Nat) : Option (Unit × ((Int × List Int × List Bool × List (Int × Int) × List (Int × Int) × List Int) × Unit)) :=
    (both
    (bif ((decide ((0 : Int) ≤ (3 : Int))) && (decide ((3 : Int) ≤ (3 : Int)))) && (room (Int.toNat (3 : Int))) then
      (bif ((decide ((0 : Int) ≤ (10 : Int))) && (decide ((10 : Int) ≤ (10 : Int)))) && (room (Int.toNat (10 : Int))) then
        (T_spec_l26New_lp0 N
          (fun i9 t10 l11 =>
            (T_spec_l26New_lp1 N l11
              (fun i20 t21 l22 =>
                (some ((), (((0 : Int), (l11, (l22, (([] : List (Int × Int)), (([] : List (Int × Int)), ([] : List Int)))))), ()))))
               N (0 : Int) (List.replicate (Int.toNat (10 : Int)) false)))
           N (0 : Int) (List.replicate (Int.toNat (3 : Int)) (0 : Int))) else none) else none)
    (both
    (bif ((decide ((0 : Int) ≤ (3 : Int))) && (decide ((3 : Int) ≤ (3 : Int)))) && (room (Int.toNat (3 : Int))) then
      (bif ((decide ((0 : Int) ≤ (10 : Int))) && (decide ((10 : Int) ≤ (10 : Int)))) && (room (Int.toNat (10 : Int))) then
        (T_spec_l26New_lp0 N
          (fun i23 t24 l25 =>
            (T_spec_l26New_lp1 N l25
              (fun i26 t27 l28 =>
                (some ((), (((0 : Int), (l25, (l28, (([] : List (Int × Int)), (([] : List (Int × Int)), ([] : List Int)))))), ()))))
               N (0 : Int) (List.replicate (Int.toNat (10 : Int)) false)))
           N (0 : Int) (List.replicate (Int.toNat (3 : Int)) (0 : Int))) else none) else none)
    (both
    (bif ((decide ((0 : Int) ≤ (10 : Int))) && (decide ((10 : Int) ≤ (10 : Int)))) && (room (Int.toNat (10 : Int))) then
      (bif ((decide ((0 : Int) ≤ (3 : Int))) && (decide ((3 : Int) ≤ (3 : Int)))) && (room (Int.toNat (3 : Int))) then
        (T_spec_l26New_lp0 N
          (fun i29 t30 l31 =>
            (T_spec_l26New_lp1 N l31
              (fun i32 t33 l34 =>
                (some ((), (((0 : Int), (l31, (l34, (([] : List (Int × Int)), (([] : List (Int × Int)), ([] : List Int)))))), ()))))
               N (0 : Int) (List.replicate (Int.toNat (10 : Int)) false)))
           N (0 : Int) (List.replicate (Int.toNat (3 : Int)) (0 : Int))) else none) else none)
    (both
    (bif ((decide ((0 : Int) ≤ (10 : Int))) && (decide ((10 : Int) ≤ (10 : Int)))) && (room (Int.toNat (10 : Int))) then
      (bif ((decide ((0 : Int) ≤ (3 : Int))) && (decide ((3 : Int) ≤ (3 : Int)))) && (room (Int.toNat (3 : Int))) then
        (T_spec_l26New_lp0 N
          (fun i35 t36 l37 =>
            (T_spec_l26New_lp1 N l37
              (fun i38 t39 l40 =>
                (some ((), (((0 : Int), (l37, (l40, (([] : List (Int × Int)), (([] : List (Int × Int)), ([] : List Int)))))), ()))))
               N (0 : Int) (List.replicate (Int.toNat (10 : Int)) false)))
           N (0 : Int) (List.replicate (Int.toNat (3 : Int)) (0 : Int))) else none) else none)
    (both
    (bif ((decide ((0 : Int) ≤ (3 : Int))) && (decide ((3 : Int) ≤ (3 : Int)))) && (room (Int.toNat (3 : Int))) then
      (bif ((decide ((0 : Int) ≤ (10 : Int))) && (decide ((10 : Int) ≤ (10 : Int)))) && (room (Int.toNat (10 : Int))) then
        (T_spec_l26New_lp0 N
          (fun i41 t42 l43 =>
            (T_spec_l26New_lp1 N l43
              (fun i44 t45 l46 =>
                (some ((), (((0 : Int), (l43, (l46, (([] : List (Int × Int)), (([] : List (Int × Int)), ([] : List Int)))))), ()))))
               N (0 : Int) (List.replicate (Int.toNat (10 : Int)) false)))
           N (0 : Int) (List.replicate (Int.toNat (3 : Int)) (0 : Int))) else none) else none)
    (bif ((decide ((0 : Int) ≤ (10 : Int))) && (decide ((10 : Int) ≤ (10 : Int)))) && (room (Int.toNat (10 : Int))) then
      (bif ((decide ((0 : Int) ≤ (3 : Int))) && (decide ((3 : Int) ≤ (3 : Int)))) && (room (Int.toNat (3 : Int))) then
        (T_spec_l26New_lp0 N
          (fun i47 t48 l49 =>
            (T_spec_l26New_lp1 N l49
              (fun i50 t51 l52 =>
                (some ((), (((0 : Int), (l49, (l52, (([] : List (Int × Int)), (([] : List (Int × Int)), ([] : List Int)))))), ()))))
               N (0 : Int) (List.replicate (Int.toNat (10 : Int)) false)))
           N (0 : Int) (List.replicate (Int.toNat (3 : Int)) (0 : Int))) else none) else none))))))

noncomputable def T_spec_l26Move_lp0 {R : Type} (N : Nat) (b3 : Int) (l5 : List Int) (l6 : List Bool) (l7 : List (Int × Int)) (l8 : List (Int × Int)) (l9 : List Int) (K0 : Option R) (K1 : Int → Bool → Option R) : Nat → Int → Option R
  | 0, _ => none
  | n + 1, i2 =>
    (bif decide (i2 < (3 : Int)) then
    (bif inb i2 (List.length l5) then
      (bif decide ((List.getD l5 (Int.toNat i2) (0 : Int)) ≥ (0 : Int)) then
        (bif inb i2 (List.length l5) then
          (bif (List.getD l5 (Int.toNat i2) (0 : Int)) != b3 then
            K0
            else
            (T_spec_l26Move_lp0 N b3 l5 l6 l7 l8 l9 K0 K1 n (iadd .i64 i2 (1 : Int)))) else none)
        else
        (T_spec_l26Move_lp0 N b3 l5 l6 l7 l8 l9 K0 K1 n (iadd .i64 i2 (1 : Int)))) else none)
    else
    (K1 i2 (decide (i2 < (3 : Int)))))

noncomputable def T_spec_l26Move_lp1 {R : Type} (N : Nat) (b15 : Int) (l18 : List Int) (l19 : List Bool) (l20 : List (Int × Int)) (l21 : List (Int × Int)) (K0 : Int → Bool → (List (Int × Int)) → (List Int) → Option R) : Nat → Int → (List (Int × Int)) → (List Int) → Option R
  | 0, _, _, _ => none
  | n + 1, i14, l17, l22 =>
    (bif decide (i14 < (ilen l20)) then
    (bif inb i14 (List.length l20) then
      (bif decide ((iadd .i64 (List.getD l20 (Int.toNat i14) ((0 : Int), (0 : Int))).2 (2 : Int)) ≤ b15) then
        (bif inb i14 (List.length l20) then
          (bif room ((List.length l22) + (List.length ([(List.getD l20 (Int.toNat i14) ((0 : Int), (0 : Int))).1]))) then
            (T_spec_l26Move_lp1 N b15 l18 l19 l20 l21 K0 n (iadd .i64 i14 (1 : Int)) l17 (List.append l22 ([(List.getD l20 (Int.toNat i14) ((0 : Int), (0 : Int))).1]))) else none) else none)
        else
        (bif inb i14 (List.length l20) then
          (bif room ((List.length l17) + (List.length ([(List.getD l20 (Int.toNat i14) ((0 : Int), (0 : Int)))]))) then
            (T_spec_l26Move_lp1 N b15 l18 l19 l20 l21 K0 n (iadd .i64 i14 (1 : Int)) (List.append l17 ([(List.getD l20 (Int.toNat i14) ((0 : Int), (0 : Int)))])) l22) else none) else none)) else none)
    else
    (K0 i14 (decide (i14 < (ilen l20))) l17 l22))

noncomputable def T_spec_l26Move (N : Nat) (e1 : Int × List Int × List Bool × List (Int × Int) × List (Int × Int) × List Int) : Option (Unit × ((Int × List Int × List Bool × List (Int × Int) × List (Int × Int) × List Int) × Unit)) :=
    (T_spec_l26Move_lp0 N e1.1 e1.2.1 e1.2.2.1 e1.2.2.2.1 e1.2.2.2.2.1 e1.2.2.2.2.2
    (some ((), (e1, ())))
    (fun i12 t13 =>
      (T_spec_l26Move_lp1 N (iadd .i64 e1.1 (1 : Int)) e1.2.1 e1.2.2.1 e1.2.2.2.1 e1.2.2.2.2.1
        (fun i27 t28 l29 l30 =>
          (some ((), ((iadd .i64 e1.1 (1 : Int), (e1.2.1, (e1.2.2.1, (l29, (e1.2.2.2.2.1, l30))))), ()))))
         N (0 : Int) ([] : List (Int × Int)) e1.2.2.2.2.2))
     N (0 : Int))

noncomputable def T_spec_l26Act_lp0 {R : Type} (N : Nat) (b7 : Int) (b8 : Int × Int × Int) (l11 : List Int) (l12 : List Bool) (l13 : List (Int × Int)) (l14 : List (Int × Int)) (l15 : List Int) (K0 : Int → Bool → (List (Int × Int)) → Option R) : Nat → Int → (List (Int × Int)) → Option R
  | 0, _, _ => none
  | n + 1, i6, l10 =>
    (bif decide (i6 < (ilen l14)) then
    (bif inb i6 (List.length l14) then
      (bif (List.getD l14 (Int.toNat i6) ((0 : Int), (0 : Int))).1 != b8.2.1 then
        (bif inb i6 (List.length l14) then
          (bif room ((List.length l10) + (List.length ([(List.getD l14 (Int.toNat i6) ((0 : Int), (0 : Int)))]))) then
            (T_spec_l26Act_lp0 N b7 b8 l11 l12 l13 l14 l15 K0 n (iadd .i64 i6 (1 : Int)) (List.append l10 ([(List.getD l14 (Int.toNat i6) ((0 : Int), (0 : Int)))]))) else none) else none)
        else
        (T_spec_l26Act_lp0 N b7 b8 l11 l12 l13 l14 l15 K0 n (iadd .i64 i6 (1 : Int)) l10)) else none)
    else
    (K0 i6 (decide (i6 < (ilen l14))) l10))

noncomputable def T_spec_l26Act_lp1 {R : Type} (N : Nat) (pinned22 : Bool) (b25 : Int) (b26 : Int × Int × Int) (b28 : Int × Int) (l29 : List Int) (l30 : List Bool) (l31 : List (Int × Int)) (l32 : List (Int × Int)) (l33 : List Int) (K0 : Bool → Int → Bool → Option R) : Nat → Bool → Int → Option R
  | 0, _, _ => none
  | n + 1, has23, i24 =>
    (bif decide (i24 < (ilen l32)) then
    (bif has23 then
      (T_spec_l26Act_lp1 N pinned22 b25 b26 b28 l29 l30 l31 l32 l33 K0 n true (iadd .i64 i24 (1 : Int)))
      else
      (bif inb i24 (List.length l32) then
        (T_spec_l26Act_lp1 N pinned22 b25 b26 b28 l29 l30 l31 l32 l33 K0 n ((ieq (List.getD l32 (Int.toNat i24) ((0 : Int), (0 : Int))).1 b28.1) && ((ieq (List.getD l32 (Int.toNat i24) ((0 : Int), (0 : Int))).2 b28.2) && true)) (iadd .i64 i24 (1 : Int))) else none))
    else
    (K0 has23 i24 (decide (i24 < (ilen l32)))))

noncomputable def T_spec_l26Act (N : Nat) (e1 : Int × List Int × List Bool × List (Int × Int) × List (Int × Int) × List Int) (a2 : Int × Int × Int) : Option (Unit × ((Int × List Int × List Bool × List (Int × Int) × List (Int × Int) × List Int) × Unit)) :=
    (bif a2.1 == (5 : Int) then
    ((T_spec_l26Move N e1).bind fun o3 =>
      (some ((), (o3.2.1, ()))))
    else
    ((T_spec_l1In N a2.2.1 (0 : Int) (2 : Int)).bind fun o4 =>
      (bif !o4.2.1 then
        (some ((), (e1, ())))
        else
        ((T_spec_l1In N a2.2.2 (0 : Int) (9 : Int)).bind fun o5 =>
          (bif !o5.2.1 then
            (some ((), (e1, ())))
            else
            (bif inb a2.2.1 (List.length e1.2.1) then
              (bif a2.1 == (1 : Int) then
                (bif !(decide ((List.getD e1.2.1 (Int.toNat a2.2.1) (0 : Int)) ≥ (0 : Int))) then
                  (bif inb a2.2.1 (List.length e1.2.1) then
                    (some ((), ((e1.1, (List.set e1.2.1 (Int.toNat a2.2.1) e1.1, e1.2.2)), ()))) else none)
                  else
                  (some ((), (e1, ()))))
                else
                (bif a2.1 == (2 : Int) then
                  (bif inb a2.2.1 (List.length e1.2.1) then
                    (T_spec_l26Act_lp0 N e1.1 a2 (List.set e1.2.1 (Int.toNat a2.2.1) (-1 : Int)) e1.2.2.1 e1.2.2.2.1 e1.2.2.2.2.1 e1.2.2.2.2.2
                      (fun i19 t20 l21 =>
                        (some ((), ((e1.1, (List.set e1.2.1 (Int.toNat a2.2.1) (-1 : Int), (e1.2.2.1, (e1.2.2.2.1, (l21, e1.2.2.2.2.2))))), ()))))
                       N (0 : Int) ([] : List (Int × Int))) else none)
                  else
                  (bif a2.1 == (3 : Int) then
                    (T_spec_l26Act_lp1 N (decide ((List.getD e1.2.1 (Int.toNat a2.2.1) (0 : Int)) ≥ (0 : Int))) e1.1 a2 a2.2 e1.2.1 e1.2.2.1 e1.2.2.2.1 e1.2.2.2.2.1 e1.2.2.2.2.2
                      (fun has37 i38 t39 =>
                        (bif decide ((List.getD e1.2.1 (Int.toNat a2.2.1) (0 : Int)) ≥ (0 : Int)) then
                          (bif inb a2.2.2 (List.length e1.2.2.1) then
                            (bif List.getD e1.2.2.1 (Int.toNat a2.2.2) false then
                              (bif !has37 then
                                (bif room ((List.length e1.2.2.2.2.1) + (List.length ([a2.2]))) then
                                  (some ((), ((e1.1, (e1.2.1, (e1.2.2.1, (e1.2.2.2.1, (List.append e1.2.2.2.2.1 ([a2.2]), e1.2.2.2.2.2))))), ()))) else none)
                                else
                                (some ((), (e1, ()))))
                              else
                              (some ((), (e1, ())))) else none)
                          else
                          (some ((), (e1, ())))))
                       N false (0 : Int))
                    else
                    (bif a2.1 == (4 : Int) then
                      (bif decide ((List.getD e1.2.1 (Int.toNat a2.2.1) (0 : Int)) ≥ (0 : Int)) then
                        (bif inb a2.2.2 (List.length e1.2.2.1) then
                          (bif List.getD e1.2.2.1 (Int.toNat a2.2.2) false then
                            (bif inb a2.2.2 (List.length e1.2.2.1) then
                              (bif room ((List.length e1.2.2.2.1) + (List.length ([(a2.2.2, e1.1)]))) then
                                (some ((), ((e1.1, (e1.2.1, (List.set e1.2.2.1 (Int.toNat a2.2.2) false, (List.append e1.2.2.2.1 ([(a2.2.2, e1.1)]), e1.2.2.2.2)))), ()))) else none) else none)
                            else
                            (some ((), (e1, ())))) else none)
                        else
                        (some ((), (e1, ()))))
                      else
                      (some ((), (e1, ()))))))) else none))))))

noncomputable def T_spec_EpochPlay_lp0 {R : Type} (N : Nat) (acts3 : List (Int × Int × Int)) (K0 : Int → Bool → Int → (List Int) → (List Bool) → (List (Int × Int)) → (List (Int × Int)) → (List Int) → Option R) : Nat → Int → Int → (List Int) → (List Bool) → (List (Int × Int)) → (List (Int × Int)) → (List Int) → Option R
  | 0, _, _, _, _, _, _, _ => none
  | n + 1, i4, b6, l7, l8, l9, l10, l11 =>
    (bif decide (i4 < (ilen acts3)) then
    (bif inb i4 (List.length acts3) then
      ((T_spec_l26Act N (b6, (l7, (l8, (l9, (l10, l11))))) (List.getD acts3 (Int.toNat i4) ((0 : Int), ((0 : Int), (0 : Int))))).bind fun o22 =>
        (T_spec_EpochPlay_lp0 N acts3 K0 n (iadd .i64 i4 (1 : Int)) o22.2.1.1 o22.2.1.2.1 o22.2.1.2.2.1 o22.2.1.2.2.2.1 o22.2.1.2.2.2.2.1 o22.2.1.2.2.2.2.2)) else none)
    else
    (K0 i4 (decide (i4 < (ilen acts3))) b6 l7 l8 l9 l10 l11))

noncomputable def T_spec_EpochPlay (N : Nat) (acts1 : List (Int × Int × Int)) : Option (Unit × ((Int × List Int × List Bool × List (Int × Int) × List (Int × Int) × List Int) × Unit)) :=
    (bif decide ((ilen acts1) > (200 : Int)) then
    (some ((), (((0 : Int), (([] : List Int), (([] : List Bool), (([] : List (Int × Int)), (([] : List (Int × Int)), ([] : List Int)))))), ())))
    else
    ((T_spec_l26New N).bind fun o2 =>
      (T_spec_EpochPlay_lp0 N acts1
        (fun i23 t24 b25 l26 l27 l28 l29 l30 =>
          (some ((), ((b25, (l26, (l27, (l28, (l29, l30))))), ()))))
         N (0 : Int) o2.2.1.1 o2.2.1.2.1 o2.2.1.2.2.1 o2.2.1.2.2.2.1 o2.2.1.2.2.2.2.1 o2.2.1.2.2.2.2.2)))

noncomputable def T_spec_EpochFlush_lp0 {R : Type} (N : Nat) (K0 : Int → Bool → Int → (List Int) → (List Bool) → (List (Int × Int)) → (List (Int × Int)) → (List Int) → Option R) : Nat → Int → Int → (List Int) → (List Bool) → (List (Int × Int)) → (List (Int × Int)) → (List Int) → Option R
  | 0, _, _, _, _, _, _, _ => none
  | n + 1, t3, b5, l6, l7, l8, l9, l10 =>
    (bif decide (t3 < (3 : Int)) then
    ((T_spec_l26Act N (b5, (l6, (l7, (l8, (l9, l10))))) ((2 : Int), (t3, (0 : Int)))).bind fun o21 =>
      (T_spec_EpochFlush_lp0 N K0 n (iadd .i64 t3 (1 : Int)) o21.2.1.1 o21.2.1.2.1 o21.2.1.2.2.1 o21.2.1.2.2.2.1 o21.2.1.2.2.2.2.1 o21.2.1.2.2.2.2.2))
    else
    (K0 t3 (decide (t3 < (3 : Int))) b5 l6 l7 l8 l9 l10))

noncomputable def T_spec_EpochFlush (N : Nat) (acts1 : List (Int × Int × Int)) : Option (Unit × ((Int × List Int × List Bool × List (Int × Int) × List (Int × Int) × List Int) × Unit)) :=
    ((T_spec_EpochPlay N acts1).bind fun o2 =>
    (bif (ilen o2.2.1.2.1) == (0 : Int) then
      (some ((), (o2.2.1, ())))
      else
      (T_spec_EpochFlush_lp0 N
        (fun t22 t23 b24 l25 l26 l27 l28 l29 =>
          ((T_spec_l26Move N (b24, (l25, (l26, (l27, (l28, l29)))))).bind fun o30 =>
            ((T_spec_l26Move N o30.2.1).bind fun o31 =>
              (some ((), (o31.2.1, ()))))))
         N (0 : Int) o2.2.1.1 o2.2.1.2.1 o2.2.1.2.2.1 o2.2.1.2.2.2.1 o2.2.1.2.2.2.2.1 o2.2.1.2.2.2.2.2)))

noncomputable def T_laws_eqIntS_lp0 {R : Type} (N : Nat) (a3 : List Int) (b4 : List Int) (K0 : Option R) (K1 : Int → Bool → Option R) : Nat → Int → Option R
  | 0, _ => none
  | n + 1, i5 =>
    (bif decide (i5 < (ilen a3)) then
    (bif inb i5 (List.length a3) then
      (bif inb i5 (List.length b4) then
        (bif (List.getD a3 (Int.toNat i5) (0 : Int)) != (List.getD b4 (Int.toNat i5) (0 : Int)) then
          K0
          else
          (T_laws_eqIntS_lp0 N a3 b4 K0 K1 n (iadd .i64 i5 (1 : Int)))) else none) else none)
    else
    (K1 i5 (decide (i5 < (ilen a3)))))

noncomputable def T_laws_eqIntS (N : Nat) (a1 : List Int) (b2 : List Int) : Option (Unit × (Bool × Unit)) :=
    (bif (ilen a1) != (ilen b2) then
    (some ((), (false, ())))
    else
    (T_laws_eqIntS_lp0 N a1 b2
      (some ((), (false, ())))
      (fun i8 t9 =>
        (some ((), (true, ()))))
       N (0 : Int)))

noncomputable def T_laws_eqBoolS_lp0 {R : Type} (N : Nat) (a3 : List Bool) (b4 : List Bool) (K0 : Option R) (K1 : Int → Bool → Option R) : Nat → Int → Option R
  | 0, _ => none
  | n + 1, i5 =>
    (bif decide (i5 < (ilen a3)) then
    (bif inb i5 (List.length a3) then
      (bif inb i5 (List.length b4) then
        (bif !(beq (List.getD a3 (Int.toNat i5) false) (List.getD b4 (Int.toNat i5) false)) then
          K0
          else
          (T_laws_eqBoolS_lp0 N a3 b4 K0 K1 n (iadd .i64 i5 (1 : Int)))) else none) else none)
    else
    (K1 i5 (decide (i5 < (ilen a3)))))

noncomputable def T_laws_eqBoolS (N : Nat) (a1 : List Bool) (b2 : List Bool) : Option (Unit × (Bool × Unit)) :=
    (bif (ilen a1) != (ilen b2) then
    (some ((), (false, ())))
    else
    (T_laws_eqBoolS_lp0 N a1 b2
      (some ((), (false, ())))
      (fun i8 t9 =>
        (some ((), (true, ()))))
       N (0 : Int)))

noncomputable def T_laws_eqEpBag (N : Nat) (a1 : Int × Int) (b2 : Int × Int) : Option (Unit × (Bool × Unit)) :=
    (bif a1.1 != b2.1 then
    (some ((), (false, ())))
    else
    (bif a1.2 != b2.2 then
      (some ((), (false, ())))
      else
      (some ((), (true, ())))))

noncomputable def T_laws_eqEpBagS_lp0 {R : Type} (N : Nat) (a3 : List (Int × Int)) (b4 : List (Int × Int)) (K0 : Option R) (K1 : Int → Bool → Option R) : Nat → Int → Option R
  | 0, _ => none
  | n + 1, i5 =>
    (bif decide (i5 < (ilen a3)) then
    (bif inb i5 (List.length a3) then
      (bif inb i5 (List.length b4) then
        ((T_laws_eqEpBag N (List.getD a3 (Int.toNat i5) ((0 : Int), (0 : Int))) (List.getD b4 (Int.toNat i5) ((0 : Int), (0 : Int)))).bind fun o9 =>
          (bif !o9.2.1 then
            K0
            else
            (T_laws_eqEpBagS_lp0 N a3 b4 K0 K1 n (iadd .i64 i5 (1 : Int))))) else none) else none)
    else
    (K1 i5 (decide (i5 < (ilen a3)))))

noncomputable def T_laws_eqEpBagS (N : Nat) (a1 : List (Int × Int)) (b2 : List (Int × Int)) : Option (Unit × (Bool × Unit)) :=
    (bif (ilen a1) != (ilen b2) then
    (some ((), (false, ())))
    else
    (T_laws_eqEpBagS_lp0 N a1 b2
      (some ((), (false, ())))
      (fun i10 t11 =>
        (some ((), (true, ()))))
       N (0 : Int)))

noncomputable def T_laws_eqEpHold (N : Nat) (a1 : Int × Int) (b2 : Int × Int) : Option (Unit × (Bool × Unit)) :=
    (bif a1.1 != b2.1 then
    (some ((), (false, ())))
    else
    (bif a1.2 != b2.2 then
      (some ((), (false, ())))
      else
      (some ((), (true, ())))))

noncomputable def T_laws_eqEpHoldS_lp0 {R : Type} (N : Nat) (a3 : List (Int × Int)) (b4 : List (Int × Int)) (K0 : Option R) (K1 : Int → Bool → Option R) : Nat → Int → Option R
  | 0, _ => none
  | n + 1, i5 =>
    (bif decide (i5 < (ilen a3)) then
    (bif inb i5 (List.length a3) then
      (bif inb i5 (List.length b4) then
        ((T_laws_eqEpHold N (List.getD a3 (Int.toNat i5) ((0 : Int), (0 : Int))) (List.getD b4 (Int.toNat i5) ((0 : Int), (0 : Int)))).bind fun o9 =>
          (bif !o9.2.1 then
            K0
            else
            (T_laws_eqEpHoldS_lp0 N a3 b4 K0 K1 n (iadd .i64 i5 (1 : Int))))) else none) else none)
    else
    (K1 i5 (decide (i5 < (ilen a3)))))

noncomputable def T_laws_eqEpHoldS (N : Nat) (a1 : List (Int × Int)) (b2 : List (Int × Int)) : Option (Unit × (Bool × Unit)) :=
    (bif (ilen a1) != (ilen b2) then
    (some ((), (false, ())))
    else
    (T_laws_eqEpHoldS_lp0 N a1 b2
      (some ((), (false, ())))
      (fun i10 t11 =>
        (some ((), (true, ()))))
       N (0 : Int)))

noncomputable def T_laws_eqEpochs (N : Nat) (a1 : Int × List Int × List Bool × List (Int × Int) × List (Int × Int) × List Int) (b2 : Int × List Int × List Bool × List (Int × Int) × List (Int × Int) × List Int) : Option (Unit × (Bool × Unit)) :=
    (bif a1.1 != b2.1 then
    (some ((), (false, ())))
    else
    ((T_laws_eqIntS N a1.2.1 b2.2.1).bind fun o3 =>
      (bif !o3.2.1 then
        (some ((), (false, ())))
        else
        ((T_laws_eqBoolS N a1.2.2.1 b2.2.2.1).bind fun o4 =>
          (bif !o4.2.1 then
            (some ((), (false, ())))
            else
            ((T_laws_eqEpBagS N a1.2.2.2.1 b2.2.2.2.1).bind fun o5 =>
              (bif !o5.2.1 then
                (some ((), (false, ())))
                else
                ((T_laws_eqEpHoldS N a1.2.2.2.2.1 b2.2.2.2.2.1).bind fun o6 =>
                  (bif !o6.2.1 then
                    (some ((), (false, ())))
                    else
                    ((T_laws_eqIntS N a1.2.2.2.2.2 b2.2.2.2.2.2).bind fun o7 =>
                      (bif !o7.2.1 then
                        (some ((), (false, ())))
                        else
                        (some ((), (true, ()))))))))))))))

noncomputable def T_laws_eqEpAct (N : Nat) (a1 : Int × Int × Int) (b2 : Int × Int × Int) : Option (Unit × (Bool × Unit)) :=
    (bif a1.1 != b2.1 then
    (some ((), (false, ())))
    else
    (bif a1.2.1 != b2.2.1 then
      (some ((), (false, ())))
      else
      (bif a1.2.2 != b2.2.2 then
        (some ((), (false, ())))
        else
        (some ((), (true, ()))))))

noncomputable def T_laws_eqEpActS_lp0 {R : Type} (N : Nat) (a3 : List (Int × Int × Int)) (b4 : List (Int × Int × Int)) (K0 : Option R) (K1 : Int → Bool → Option R) : Nat → Int → Option R
  | 0, _ => none
  | n + 1, i5 =>
    (bif decide (i5 < (ilen a3)) then
    (bif inb i5 (List.length a3) then
      (bif inb i5 (List.length b4) then
        ((T_laws_eqEpAct N (List.getD a3 (Int.toNat i5) ((0 : Int), ((0 : Int), (0 : Int)))) (List.getD b4 (Int.toNat i5) ((0 : Int), ((0 : Int), (0 : Int))))).bind fun o9 =>
          (bif !o9.2.1 then
            K0
            else
            (T_laws_eqEpActS_lp0 N a3 b4 K0 K1 n (iadd .i64 i5 (1 : Int))))) else none) else none)
    else
    (K1 i5 (decide (i5 < (ilen a3)))))

noncomputable def T_laws_eqEpActS (N : Nat) (a1 : List (Int × Int × Int)) (b2 : List (Int × Int × Int)) : Option (Unit × (Bool × Unit)) :=
    (bif (ilen a1) != (ilen b2) then
    (some ((), (false, ())))
    else
    (T_laws_eqEpActS_lp0 N a1 b2
      (some ((), (false, ())))
      (fun i10 t11 =>
        (some ((), (true, ()))))
       N (0 : Int)))

noncomputable def T_laws_markEpActS_lp0 {R : Type} (N : Nat) (K0 : Int → Int → Bool → (List (Int × Int × Int)) → Option R) : Nat → Int → Int → (List (Int × Int × Int)) → Option R
  | 0, _, _, _ => none
  | n + 1, k3, i4, l5 =>
    (bif decide (i4 < (ilen l5)) then
    (bif inb i4 (List.length l5) then
      (bif inb i4 (List.length (List.set l5 (Int.toNat i4) (k3, (List.getD l5 (Int.toNat i4) ((0 : Int), ((0 : Int), (0 : Int)))).2))) then
        (share (List.set l5 (Int.toNat i4) (k3, (List.getD l5 (Int.toNat i4) ((0 : Int), ((0 : Int), (0 : Int)))).2)) fun s12 =>
          (bif inb i4 (List.length (List.set s12 (Int.toNat i4) ((List.getD s12 (Int.toNat i4) ((0 : Int), ((0 : Int), (0 : Int)))).1, (iadd .i64 k3 (1 : Int), (List.getD s12 (Int.toNat i4) ((0 : Int), ((0 : Int), (0 : Int)))).2.2)))) then
            (share (List.set s12 (Int.toNat i4) ((List.getD s12 (Int.toNat i4) ((0 : Int), ((0 : Int), (0 : Int)))).1, (iadd .i64 k3 (1 : Int), (List.getD s12 (Int.toNat i4) ((0 : Int), ((0 : Int), (0 : Int)))).2.2))) fun s13 =>
              (T_laws_markEpActS_lp0 N K0 n (iadd .i64 (iadd .i64 (iadd .i64 k3 (1 : Int)) (1 : Int)) (1 : Int)) (iadd .i64 i4 (1 : Int)) (List.set s13 (Int.toNat i4) ((List.getD s13 (Int.toNat i4) ((0 : Int), ((0 : Int), (0 : Int)))).1, ((List.getD s13 (Int.toNat i4) ((0 : Int), ((0 : Int), (0 : Int)))).2.1, iadd .i64 (iadd .i64 k3 (1 : Int)) (1 : Int)))))) else none)) else none) else none)
    else
    (K0 k3 i4 (decide (i4 < (ilen l5))) l5))

noncomputable def T_laws_markEpActS (N : Nat) (a1 : List (Int × Int × Int)) (k2 : Int) : Option (((List (Int × Int × Int)) × Unit) × (Int × Unit)) :=
    (T_laws_markEpActS_lp0 N
    (fun k14 i15 t16 l17 =>
      (some ((l17, ()), (k14, ()))))
     N k2 (0 : Int) a1)

noncomputable def T_laws_markIntS_lp0 {R : Type} (N : Nat) (K0 : Int → Int → Bool → (List Int) → Option R) : Nat → Int → Int → (List Int) → Option R
  | 0, _, _, _ => none
  | n + 1, k3, i4, l5 =>
    (bif decide (i4 < (ilen l5)) then
    (bif inb i4 (List.length l5) then
      (T_laws_markIntS_lp0 N K0 n (iadd .i64 k3 (1 : Int)) (iadd .i64 i4 (1 : Int)) (List.set l5 (Int.toNat i4) k3)) else none)
    else
    (K0 k3 i4 (decide (i4 < (ilen l5))) l5))

noncomputable def T_laws_markIntS (N : Nat) (a1 : List Int) (k2 : Int) : Option (((List Int) × Unit) × (Int × Unit)) :=
    (T_laws_markIntS_lp0 N
    (fun k10 i11 t12 l13 =>
      (some ((l13, ()), (k10, ()))))
     N k2 (0 : Int) a1)

noncomputable def T_laws_markBoolS_lp0 {R : Type} (N : Nat) (K0 : Int → Int → Bool → (List Bool) → Option R) : Nat → Int → Int → (List Bool) → Option R
  | 0, _, _, _ => none
  | n + 1, k3, i4, l5 =>
    (bif decide (i4 < (ilen l5)) then
    (bif inz (3 : Int) then
      (bif inb i4 (List.length l5) then
        (T_laws_markBoolS_lp0 N K0 n (iadd .i64 k3 (1 : Int)) (iadd .i64 i4 (1 : Int)) (List.set l5 (Int.toNat i4) ((irem k3 (3 : Int)) == (0 : Int)))) else none) else none)
    else
    (K0 k3 i4 (decide (i4 < (ilen l5))) l5))

noncomputable def T_laws_markBoolS (N : Nat) (a1 : List Bool) (k2 : Int) : Option (((List Bool) × Unit) × (Int × Unit)) :=
    (T_laws_markBoolS_lp0 N
    (fun k10 i11 t12 l13 =>
      (some ((l13, ()), (k10, ()))))
     N k2 (0 : Int) a1)

noncomputable def T_laws_markEpBagS_lp0 {R : Type} (N : Nat) (K0 : Int → Int → Bool → (List (Int × Int)) → Option R) : Nat → Int → Int → (List (Int × Int)) → Option R
  | 0, _, _, _ => none
  | n + 1, k3, i4, l5 =>
    (bif decide (i4 < (ilen l5)) then
    (bif inb i4 (List.length l5) then
      (bif inb i4 (List.length (List.set l5 (Int.toNat i4) (k3, (List.getD l5 (Int.toNat i4) ((0 : Int), (0 : Int))).2))) then
        (share (List.set l5 (Int.toNat i4) (k3, (List.getD l5 (Int.toNat i4) ((0 : Int), (0 : Int))).2)) fun s11 =>
          (T_laws_markEpBagS_lp0 N K0 n (iadd .i64 (iadd .i64 k3 (1 : Int)) (1 : Int)) (iadd .i64 i4 (1 : Int)) (List.set s11 (Int.toNat i4) ((List.getD s11 (Int.toNat i4) ((0 : Int), (0 : Int))).1, iadd .i64 k3 (1 : Int))))) else none) else none)
    else
    (K0 k3 i4 (decide (i4 < (ilen l5))) l5))

noncomputable def T_laws_markEpBagS (N : Nat) (a1 : List (Int × Int)) (k2 : Int) : Option (((List (Int × Int)) × Unit) × (Int × Unit)) :=
    (T_laws_markEpBagS_lp0 N
    (fun k12 i13 t14 l15 =>
      (some ((l15, ()), (k12, ()))))
     N k2 (0 : Int) a1)

noncomputable def T_laws_markEpHoldS_lp0 {R : Type} (N : Nat) (K0 : Int → Int → Bool → (List (Int × Int)) → Option R) : Nat → Int → Int → (List (Int × Int)) → Option R
  | 0, _, _, _ => none
  | n + 1, k3, i4, l5 =>
    (bif decide (i4 < (ilen l5)) then
    (bif inb i4 (List.length l5) then
      (bif inb i4 (List.length (List.set l5 (Int.toNat i4) (k3, (List.getD l5 (Int.toNat i4) ((0 : Int), (0 : Int))).2))) then
        (share (List.set l5 (Int.toNat i4) (k3, (List.getD l5 (Int.toNat i4) ((0 : Int), (0 : Int))).2)) fun s11 =>
          (T_laws_markEpHoldS_lp0 N K0 n (iadd .i64 (iadd .i64 k3 (1 : Int)) (1 : Int)) (iadd .i64 i4 (1 : Int)) (List.set s11 (Int.toNat i4) ((List.getD s11 (Int.toNat i4) ((0 : Int), (0 : Int))).1, iadd .i64 k3 (1 : Int))))) else none) else none)
    else
    (K0 k3 i4 (decide (i4 < (ilen l5))) l5))

noncomputable def T_laws_markEpHoldS (N : Nat) (a1 : List (Int × Int)) (k2 : Int) : Option (((List (Int × Int)) × Unit) × (Int × Unit)) :=
    (T_laws_markEpHoldS_lp0 N
    (fun k12 i13 t14 l15 =>
      (some ((l15, ()), (k12, ()))))
     N k2 (0 : Int) a1)

noncomputable def T_laws_markEpochs (N : Nat) (a1 : Int × List Int × List Bool × List (Int × Int) × List (Int × Int) × List Int) (k2 : Int) : Option (((Int × List Int × List Bool × List (Int × Int) × List (Int × Int) × List Int) × Unit) × (Int × Unit)) :=
    ((T_laws_markIntS N a1.2.1 k2).bind fun o3 =>
    ((T_laws_markBoolS N a1.2.2.1 o3.2.1).bind fun o4 =>
      ((T_laws_markEpBagS N a1.2.2.2.1 o4.2.1).bind fun o5 =>
        ((T_laws_markEpHoldS N a1.2.2.2.2.1 o5.2.1).bind fun o6 =>
          ((T_laws_markIntS N a1.2.2.2.2.2 o6.2.1).bind fun o7 =>
            (some (((a1.1, (o3.1.1, (o4.1.1, (o5.1.1, (o6.1.1, o7.1.1))))), ()), (o7.2.1, ()))))))))

noncomputable def T_laws_heldIntS_lp0 {R : Type} (N : Nat) (a3 : List Int) (K0 : Option R) (K1 : Int → Int → Bool → Option R) : Nat → Int → Int → Option R
  | 0, _, _ => none
  | n + 1, k4, i5 =>
    (bif decide (i5 < (ilen a3)) then
    (bif inb i5 (List.length a3) then
      (bif (List.getD a3 (Int.toNat i5) (0 : Int)) != k4 then
        K0
        else
        (T_laws_heldIntS_lp0 N a3 K0 K1 n (iadd .i64 k4 (1 : Int)) (iadd .i64 i5 (1 : Int)))) else none)
    else
    (K1 k4 i5 (decide (i5 < (ilen a3)))))

noncomputable def T_laws_heldIntS (N : Nat) (a1 : List Int) (k2 : Int) : Option (Unit × (Int × Unit)) :=
    (T_laws_heldIntS_lp0 N a1
    (some ((), ((-1 : Int), ())))
    (fun k9 i10 t11 =>
      (some ((), (k9, ()))))
     N k2 (0 : Int))

noncomputable def T_laws_heldBoolS_lp0 {R : Type} (N : Nat) (a3 : List Bool) (K0 : Option R) (K1 : Int → Int → Bool → Option R) : Nat → Int → Int → Option R
  | 0, _, _ => none
  | n + 1, k4, i5 =>
    (bif decide (i5 < (ilen a3)) then
    (bif inb i5 (List.length a3) then
      (bif inz (3 : Int) then
        (bif !(beq (List.getD a3 (Int.toNat i5) false) ((irem k4 (3 : Int)) == (0 : Int))) then
          K0
          else
          (T_laws_heldBoolS_lp0 N a3 K0 K1 n (iadd .i64 k4 (1 : Int)) (iadd .i64 i5 (1 : Int)))) else none) else none)
    else
    (K1 k4 i5 (decide (i5 < (ilen a3)))))

noncomputable def T_laws_heldBoolS (N : Nat) (a1 : List Bool) (k2 : Int) : Option (Unit × (Int × Unit)) :=
    (T_laws_heldBoolS_lp0 N a1
    (some ((), ((-1 : Int), ())))
    (fun k9 i10 t11 =>
      (some ((), (k9, ()))))
     N k2 (0 : Int))

noncomputable def T_laws_heldEpBagS_lp0 {R : Type} (N : Nat) (a3 : List (Int × Int)) (K0 : Option R) (K1 : Int → Int → Bool → Option R) : Nat → Int → Int → Option R
  | 0, _, _ => none
  | n + 1, k4, i5 =>
    (bif decide (i5 < (ilen a3)) then
    (bif inb i5 (List.length a3) then
      (bif (List.getD a3 (Int.toNat i5) ((0 : Int), (0 : Int))).1 != k4 then
        K0
        else
        (bif inb i5 (List.length a3) then
          (bif (List.getD a3 (Int.toNat i5) ((0 : Int), (0 : Int))).2 != (iadd .i64 k4 (1 : Int)) then
            K0
            else
            (T_laws_heldEpBagS_lp0 N a3 K0 K1 n (iadd .i64 (iadd .i64 k4 (1 : Int)) (1 : Int)) (iadd .i64 i5 (1 : Int)))) else none)) else none)
    else
    (K1 k4 i5 (decide (i5 < (ilen a3)))))

noncomputable def T_laws_heldEpBagS (N : Nat) (a1 : List (Int × Int)) (k2 : Int) : Option (Unit × (Int × Unit)) :=
    (T_laws_heldEpBagS_lp0 N a1
    (some ((), ((-1 : Int), ())))
    (fun k9 i10 t11 =>
      (some ((), (k9, ()))))
     N k2 (0 : Int))

noncomputable def T_laws_heldEpHoldS_lp0 {R : Type} (N : Nat) (a3 : List (Int × Int)) (K0 : Option R) (K1 : Int → Int → Bool → Option R) : Nat → Int → Int → Option R
  | 0, _, _ => none
  | n + 1, k4, i5 =>
    (bif decide (i5 < (ilen a3)) then
    (bif inb i5 (List.length a3) then
      (bif (List.getD a3 (Int.toNat i5) ((0 : Int), (0 : Int))).1 != k4 then
        K0
        else
        (bif inb i5 (List.length a3) then
          (bif (List.getD a3 (Int.toNat i5) ((0 : Int), (0 : Int))).2 != (iadd .i64 k4 (1 : Int)) then
            K0
            else
            (T_laws_heldEpHoldS_lp0 N a3 K0 K1 n (iadd .i64 (iadd .i64 k4 (1 : Int)) (1 : Int)) (iadd .i64 i5 (1 : Int)))) else none)) else none)
    else
    (K1 k4 i5 (decide (i5 < (ilen a3)))))

noncomputable def T_laws_heldEpHoldS (N : Nat) (a1 : List (Int × Int)) (k2 : Int) : Option (Unit × (Int × Unit)) :=
    (T_laws_heldEpHoldS_lp0 N a1
    (some ((), ((-1 : Int), ())))
    (fun k9 i10 t11 =>
      (some ((), (k9, ()))))
     N k2 (0 : Int))

noncomputable def T_laws_heldEpochs (N : Nat) (a1 : Int × List Int × List Bool × List (Int × Int) × List (Int × Int) × List Int) (k2 : Int) : Option (Unit × (Int × Unit)) :=
    ((T_laws_heldIntS N a1.2.1 k2).bind fun o3 =>
    (bif decide (o3.2.1 < (0 : Int)) then
      (some ((), ((-1 : Int), ())))
      else
      ((T_laws_heldBoolS N a1.2.2.1 o3.2.1).bind fun o4 =>
        (bif decide (o4.2.1 < (0 : Int)) then
          (some ((), ((-1 : Int), ())))
          else
          ((T_laws_heldEpBagS N a1.2.2.2.1 o4.2.1).bind fun o5 =>
            (bif decide (o5.2.1 < (0 : Int)) then
              (some ((), ((-1 : Int), ())))
              else
              ((T_laws_heldEpHoldS N a1.2.2.2.2.1 o5.2.1).bind fun o6 =>
                (bif decide (o6.2.1 < (0 : Int)) then
                  (some ((), ((-1 : Int), ())))
                  else
                  ((T_laws_heldIntS N a1.2.2.2.2.2 o6.2.1).bind fun o7 =>
                    (bif decide (o7.2.1 < (0 : Int)) then
                      (some ((), ((-1 : Int), ())))
                      else
                      (some ((), (o7.2.1, ())))))))))))))

noncomputable def T_laws_FnExactEpochFlush (N : Nat) (aActs1 : List (Int × Int × Int)) : Option (Unit × (Bool × Unit)) :=
    ((T_laws_szEpActS N aActs1 (1048576 : Int)).bind fun o2 =>
    (bif decide (o2.2.1 < (0 : Int)) then
      (some ((), (true, ())))
      else
      ((T_laws_toEpActS N aActs1).bind fun o3 =>
        ((T_spec_EpochFlush N o3.2.1).bind fun o4 =>
          ((T_laws_toEpActS N aActs1).bind fun o5 =>
            ((T_impl_EpochFlush N o5.2.1).bind fun o6 =>
              ((T_laws_eqEpochs N o6.2.1 o4.2.1).bind fun o7 =>
                (bif !o7.2.1 then
                  (some ((), (false, ())))
                  else
                  ((T_laws_toEpActS N aActs1).bind fun o8 =>
                    ((T_laws_eqEpActS N o5.2.1 o8.2.1).bind fun o9 =>
                      (bif !o9.2.1 then
                        (some ((), (false, ())))
                        else
                        ((T_laws_markEpActS N o5.2.1 (1 : Int)).bind fun o10 =>
                          (bif decide (o10.2.1 < (0 : Int)) then
                            (some ((), (false, ())))
                            else
                            ((T_laws_eqEpochs N o6.2.1 o4.2.1).bind fun o11 =>
                              (bif !o11.2.1 then
                                (some ((), (false, ())))
                                else
                                ((T_laws_markEpochs N o6.2.1 (1 : Int)).bind fun o12 =>
                                  ((T_laws_heldEpochs N (o6.2.1.1, o12.1.1.2) (1 : Int)).bind fun o13 =>
                                    (bif decide (o13.2.1 < (0 : Int)) then
                                      (some ((), (false, ())))
                                      else
                                      (bif o13.2.1 != o12.2.1 then
                                        (some ((), (false, ())))
                                        else
                                        ((T_laws_toEpActS N aActs1).bind fun o14 =>
                                          ((T_impl_EpochFlush N o14.2.1).bind fun o15 =>
                                            ((T_laws_eqEpochs N o15.2.1 o4.2.1).bind fun o16 =>
                                              (bif !o16.2.1 then
                                                (some ((), (false, ())))
                                                else
                                                ((T_laws_heldEpochs N (o6.2.1.1, o12.1.1.2) (1 : Int)).bind fun o17 =>
                                                  (bif decide (o17.2.1 < (0 : Int)) then
                                                    (some ((), (false, ())))
                                                    else
                                                    (bif o17.2.1 != o12.2.1 then
                                                      (some ((), (false, ())))
                                                      else
                                                      (some ((), (true, ())))))))))))))))))))))))))))))

noncomputable def T_laws_szIntS (N : Nat) (a1 : List Int) (left2 : Int) : Option (Unit × (Int × Unit)) :=
    (bif decide ((isub .i64 left2 (ilen a1)) < (0 : Int)) then
    (some ((), ((-1 : Int), ())))
    else
    (some ((), (isub .i64 left2 (ilen a1), ()))))

noncomputable def T_laws_szBoolS (N : Nat) (a1 : List Bool) (left2 : Int) : Option (Unit × (Int × Unit)) :=
    (bif decide ((isub .i64 left2 (ilen a1)) < (0 : Int)) then
    (some ((), ((-1 : Int), ())))
    else
    (some ((), (isub .i64 left2 (ilen a1), ()))))

noncomputable def T_laws_szEpBagS (N : Nat) (a1 : List (Int × Int)) (left2 : Int) : Option (Unit × (Int × Unit)) :=
    (bif decide ((isub .i64 left2 (ilen a1)) < (0 : Int)) then
    (some ((), ((-1 : Int), ())))
    else
    (some ((), (isub .i64 left2 (ilen a1), ()))))

noncomputable def T_laws_szEpHoldS (N : Nat) (a1 : List (Int × Int)) (left2 : Int) : Option (Unit × (Int × Unit)) :=
    (bif decide ((isub .i64 left2 (ilen a1)) < (0 : Int)) then
    (some ((), ((-1 : Int), ())))
    else
    (some ((), (isub .i64 left2 (ilen a1), ()))))

noncomputable def T_laws_szEpochs (N : Nat) (a1 : Int × List Int × List Bool × List (Int × Int) × List (Int × Int) × List Int) (left2 : Int) : Option (Unit × (Int × Unit)) :=
    ((T_laws_szIntS N a1.2.1 left2).bind fun o3 =>
    (bif decide (o3.2.1 < (0 : Int)) then
      (some ((), ((-1 : Int), ())))
      else
      ((T_laws_szBoolS N a1.2.2.1 o3.2.1).bind fun o4 =>
        (bif decide (o4.2.1 < (0 : Int)) then
          (some ((), ((-1 : Int), ())))
          else
          ((T_laws_szEpBagS N a1.2.2.2.1 o4.2.1).bind fun o5 =>
            (bif decide (o5.2.1 < (0 : Int)) then
              (some ((), ((-1 : Int), ())))
              else
              ((T_laws_szEpHoldS N a1.2.2.2.2.1 o5.2.1).bind fun o6 =>
                (bif decide (o6.2.1 < (0 : Int)) then
                  (some ((), ((-1 : Int), ())))
                  else
                  ((T_laws_szIntS N a1.2.2.2.2.2 o6.2.1).bind fun o7 =>
                    (bif decide (o7.2.1 < (0 : Int)) then
                      (some ((), ((-1 : Int), ())))
                      else
                      (some ((), (o7.2.1, ())))))))))))))

noncomputable def T_laws_toIntS_lp0 {R : Type} (N : Nat) (a2 : List Int) (K0 : Int → Bool → (List Int) → Option R) : Nat → Int → (List Int) → Option R
  | 0, _, _ => none
  | n + 1, i3, l4 =>
    (bif decide (i3 < (ilen a2)) then
    (bif inb i3 (List.length a2) then
      (bif inb i3 (List.length l4) then
        (T_laws_toIntS_lp0 N a2 K0 n (iadd .i64 i3 (1 : Int)) (List.set l4 (Int.toNat i3) (List.getD a2 (Int.toNat i3) (0 : Int)))) else none) else none)
    else
    (K0 i3 (decide (i3 < (ilen a2))) l4))

noncomputable def T_laws_toIntS (N : Nat) (a1 : List Int) : Option (Unit × ((List Int) × Unit)) :=
    (bif ((decide ((0 : Int) ≤ (ilen a1))) && (decide ((ilen a1) ≤ (ilen a1)))) && (room (Int.toNat (ilen a1))) then
    (T_laws_toIntS_lp0 N a1
      (fun i8 t9 l10 =>
        (some ((), (l10, ()))))
       N (0 : Int) (List.replicate (Int.toNat (ilen a1)) (0 : Int))) else none)

noncomputable def T_laws_toBoolS_lp0 {R : Type} (N : Nat) (a2 : List Bool) (K0 : Int → Bool → (List Bool) → Option R) : Nat → Int → (List Bool) → Option R
  | 0, _, _ => none
  | n + 1, i3, l4 =>
    (bif decide (i3 < (ilen a2)) then
    (bif inb i3 (List.length a2) then
      (bif inb i3 (List.length l4) then
        (T_laws_toBoolS_lp0 N a2 K0 n (iadd .i64 i3 (1 : Int)) (List.set l4 (Int.toNat i3) (List.getD a2 (Int.toNat i3) false))) else none) else none)
    else
    (K0 i3 (decide (i3 < (ilen a2))) l4))

noncomputable def T_laws_toBoolS (N : Nat) (a1 : List Bool) : Option (Unit × ((List Bool) × Unit)) :=
    (bif ((decide ((0 : Int) ≤ (ilen a1))) && (decide ((ilen a1) ≤ (ilen a1)))) && (room (Int.toNat (ilen a1))) then
    (T_laws_toBoolS_lp0 N a1
      (fun i8 t9 l10 =>
        (some ((), (l10, ()))))
       N (0 : Int) (List.replicate (Int.toNat (ilen a1)) false)) else none)

noncomputable def T_laws_toEpBag (N : Nat) (a1 : Int × Int) : Option (Unit × ((Int × Int) × Unit)) :=
    (some ((), (a1, ())))

noncomputable def T_laws_toEpBagS_lp0 {R : Type} (N : Nat) (a2 : List (Int × Int)) (K0 : Int → Bool → (List (Int × Int)) → Option R) : Nat → Int → (List (Int × Int)) → Option R
  | 0, _, _ => none
  | n + 1, i3, l4 =>
    (bif decide (i3 < (ilen a2)) then
    (bif inb i3 (List.length a2) then
      ((T_laws_toEpBag N (List.getD a2 (Int.toNat i3) ((0 : Int), (0 : Int)))).bind fun o9 =>
        (bif inb i3 (List.length l4) then
          (T_laws_toEpBagS_lp0 N a2 K0 n (iadd .i64 i3 (1 : Int)) (List.set l4 (Int.toNat i3) o9.2.1)) else none)) else none)
    else
    (K0 i3 (decide (i3 < (ilen a2))) l4))

noncomputable def T_laws_toEpBagS (N : Nat) (a1 : List (Int × Int)) : Option (Unit × ((List (Int × Int)) × Unit)) :=
    (bif ((decide ((0 : Int) ≤ (ilen a1))) && (decide ((ilen a1) ≤ (ilen a1)))) && (room (Int.toNat (ilen a1))) then
    (T_laws_toEpBagS_lp0 N a1
      (fun i10 t11 l12 =>
        (some ((), (l12, ()))))
       N (0 : Int) (List.replicate (Int.toNat (ilen a1)) ((0 : Int), (0 : Int)))) else none)

noncomputable def T_laws_toEpHold (N : Nat) (a1 : Int × Int) : Option (Unit × ((Int × Int) × Unit)) :=
    (some ((), (a1, ())))

noncomputable def T_laws_toEpHoldS_lp0 {R : Type} (N : Nat) (a2 : List (Int × Int)) (K0 : Int → Bool → (List (Int × Int)) → Option R) : Nat → Int → (List (Int × Int)) → Option R
  | 0, _, _ => none
  | n + 1, i3, l4 =>
    (bif decide (i3 < (ilen a2)) then
    (bif inb i3 (List.length a2) then
      ((T_laws_toEpHold N (List.getD a2 (Int.toNat i3) ((0 : Int), (0 : Int)))).bind fun o9 =>
        (bif inb i3 (List.length l4) then
          (T_laws_toEpHoldS_lp0 N a2 K0 n (iadd .i64 i3 (1 : Int)) (List.set l4 (Int.toNat i3) o9.2.1)) else none)) else none)
    else
    (K0 i3 (decide (i3 < (ilen a2))) l4))

noncomputable def T_laws_toEpHoldS (N : Nat) (a1 : List (Int × Int)) : Option (Unit × ((List (Int × Int)) × Unit)) :=
    (bif ((decide ((0 : Int) ≤ (ilen a1))) && (decide ((ilen a1) ≤ (ilen a1)))) && (room (Int.toNat (ilen a1))) then
    (T_laws_toEpHoldS_lp0 N a1
      (fun i10 t11 l12 =>
        (some ((), (l12, ()))))
       N (0 : Int) (List.replicate (Int.toNat (ilen a1)) ((0 : Int), (0 : Int)))) else none)

noncomputable def T_laws_toEpochs (N : Nat) (a1 : Int × List Int × List Bool × List (Int × Int) × List (Int × Int) × List Int) : Option (Unit × ((Int × List Int × List Bool × List (Int × Int) × List (Int × Int) × List Int) × Unit)) :=
    ((T_laws_toIntS N a1.2.1).bind fun o2 =>
    ((T_laws_toBoolS N a1.2.2.1).bind fun o3 =>
      ((T_laws_toEpBagS N a1.2.2.2.1).bind fun o4 =>
        ((T_laws_toEpHoldS N a1.2.2.2.2.1).bind fun o5 =>
          ((T_laws_toIntS N a1.2.2.2.2.2).bind fun o6 =>
            (some ((), ((a1.1, (o2.2.1, (o3.2.1, (o4.2.1, (o5.2.1, o6.2.1))))), ()))))))))

noncomputable def T_laws_FnExactEpochOk (N : Nat) (aE1 : Int × List Int × List Bool × List (Int × Int) × List (Int × Int) × List Int) : Option (Unit × (Bool × Unit)) :=
    ((T_laws_szEpochs N aE1 (1048576 : Int)).bind fun o2 =>
    (bif decide (o2.2.1 < (0 : Int)) then
      (some ((), (true, ())))
      else
      ((T_laws_toEpochs N aE1).bind fun o3 =>
        ((T_spec_EpochOk N o3.2.1).bind fun o4 =>
          ((T_laws_toEpochs N aE1).bind fun o5 =>
            ((T_impl_EpochOk N o5.2.1).bind fun o6 =>
              (bif !(beq o6.2.1 o4.2.1) then
                (some ((), (false, ())))
                else
                ((T_laws_toEpochs N aE1).bind fun o7 =>
                  ((T_laws_eqEpochs N o5.2.1 o7.2.1).bind fun o8 =>
                    (bif !o8.2.1 then
                      (some ((), (false, ())))
                      else
                      (some ((), (true, ())))))))))))))

noncomputable def T_laws_FnExactEpochPlay (N : Nat) (aActs1 : List (Int × Int × Int)) : Option (Unit × (Bool × Unit)) :=
    ((T_laws_szEpActS N aActs1 (1048576 : Int)).bind fun o2 =>
    (bif decide (o2.2.1 < (0 : Int)) then
      (some ((), (true, ())))
      else
      ((T_laws_toEpActS N aActs1).bind fun o3 =>
        ((T_spec_EpochPlay N o3.2.1).bind fun o4 =>
          ((T_laws_toEpActS N aActs1).bind fun o5 =>
            ((T_impl_EpochPlay N o5.2.1).bind fun o6 =>
              ((T_laws_eqEpochs N o6.2.1 o4.2.1).bind fun o7 =>
                (bif !o7.2.1 then
                  (some ((), (false, ())))
                  else
                  ((T_laws_toEpActS N aActs1).bind fun o8 =>
                    ((T_laws_eqEpActS N o5.2.1 o8.2.1).bind fun o9 =>
                      (bif !o9.2.1 then
                        (some ((), (false, ())))
                        else
                        ((T_laws_markEpActS N o5.2.1 (1 : Int)).bind fun o10 =>
                          (bif decide (o10.2.1 < (0 : Int)) then
                            (some ((), (false, ())))
                            else
                            ((T_laws_eqEpochs N o6.2.1 o4.2.1).bind fun o11 =>
                              (bif !o11.2.1 then
                                (some ((), (false, ())))
                                else
                                ((T_laws_markEpochs N o6.2.1 (1 : Int)).bind fun o12 =>
                                  ((T_laws_heldEpochs N (o6.2.1.1, o12.1.1.2) (1 : Int)).bind fun o13 =>
                                    (bif decide (o13.2.1 < (0 : Int)) then
                                      (some ((), (false, ())))
                                      else
                                      (bif o13.2.1 != o12.2.1 then
                                        (some ((), (false, ())))
                                        else
                                        ((T_laws_toEpActS N aActs1).bind fun o14 =>
                                          ((T_impl_EpochPlay N o14.2.1).bind fun o15 =>
                                            ((T_laws_eqEpochs N o15.2.1 o4.2.1).bind fun o16 =>
                                              (bif !o16.2.1 then
                                                (some ((), (false, ())))
                                                else
                                                ((T_laws_heldEpochs N (o6.2.1.1, o12.1.1.2) (1 : Int)).bind fun o17 =>
                                                  (bif decide (o17.2.1 < (0 : Int)) then
                                                    (some ((), (false, ())))
                                                    else
                                                    (bif o17.2.1 != o12.2.1 then
                                                      (some ((), (false, ())))
                                                      else
                                                      (some ((), (true, ())))))))))))))))))))))))))))))

noncomputable def T_laws_FnExactEpochSafe (N : Nat) (aE1 : Int × List Int × List Bool × List (Int × Int) × List (Int × Int) × List Int) : Option (Unit × (Bool × Unit)) :=
    ((T_laws_szEpochs N aE1 (1048576 : Int)).bind fun o2 =>
    (bif decide (o2.2.1 < (0 : Int)) then
      (some ((), (true, ())))
      else
      ((T_laws_toEpochs N aE1).bind fun o3 =>
        ((T_spec_EpochSafe N o3.2.1).bind fun o4 =>
          ((T_laws_toEpochs N aE1).bind fun o5 =>
            ((T_impl_EpochSafe N o5.2.1).bind fun o6 =>
              (bif !(beq o6.2.1 o4.2.1) then
                (some ((), (false, ())))
                else
                ((T_laws_toEpochs N aE1).bind fun o7 =>
                  ((T_laws_eqEpochs N o5.2.1 o7.2.1).bind fun o8 =>
                    (bif !o8.2.1 then
                      (some ((), (false, ())))
                      else
                      (some ((), (true, ())))))))))))))

noncomputable def T_laws_szTripleS (N : Nat) (a1 : List (Int × Int × Int)) (left2 : Int) : Option (Unit × (Int × Unit)) :=
    (bif decide ((isub .i64 left2 (ilen a1)) < (0 : Int)) then
    (some ((), ((-1 : Int), ())))
    else
    (some ((), (isub .i64 left2 (ilen a1), ()))))

noncomputable def T_laws_toTriple (N : Nat) (a1 : Int × Int × Int) : Option (Unit × ((Int × Int × Int) × Unit)) :=
    (some ((), (a1, ())))

noncomputable def T_laws_toTripleS_lp0 {R : Type} (N : Nat) (a2 : List (Int × Int × Int)) (K0 : Int → Bool → (List (Int × Int × Int)) → Option R) : Nat → Int → (List (Int × Int × Int)) → Option R
  | 0, _, _ => none
  | n + 1, i3, l4 =>
    (bif decide (i3 < (ilen a2)) then
    (bif inb i3 (List.length a2) then
      ((T_laws_toTriple N (List.getD a2 (Int.toNat i3) ((0 : Int), ((0 : Int), (0 : Int))))).bind fun o9 =>
        (bif inb i3 (List.length l4) then
          (T_laws_toTripleS_lp0 N a2 K0 n (iadd .i64 i3 (1 : Int)) (List.set l4 (Int.toNat i3) o9.2.1)) else none)) else none)
    else
    (K0 i3 (decide (i3 < (ilen a2))) l4))

noncomputable def T_laws_toTripleS (N : Nat) (a1 : List (Int × Int × Int)) : Option (Unit × ((List (Int × Int × Int)) × Unit)) :=
    (bif ((decide ((0 : Int) ≤ (ilen a1))) && (decide ((ilen a1) ≤ (ilen a1)))) && (room (Int.toNat (ilen a1))) then
    (T_laws_toTripleS_lp0 N a1
      (fun i10 t11 l12 =>
        (some ((), (l12, ()))))
       N (0 : Int) (List.replicate (Int.toNat (ilen a1)) ((0 : Int), ((0 : Int), (0 : Int))))) else none)

noncomputable def T_spec_l3Val (N : Nat) (v1 : Int) : Option (Unit × (Bool × Unit)) :=
    ((T_spec_l1In N v1 (0 : Int) (65535 : Int)).bind fun o2 =>
    (some ((), (o2.2.1, ()))))

noncomputable def T_spec_l25Ok (N : Nat) (t1 : Int × Int × Int) : Option (Unit × (Bool × Unit)) :=
    ((T_spec_l3Val N t1.1).bind fun o2 =>
    (bif o2.2.1 then
      ((T_spec_l3Val N t1.2.1).bind fun o3 =>
        (bif o3.2.1 then
          ((T_spec_l3Val N t1.2.2).bind fun o4 =>
            (some ((), (o4.2.1, ()))))
          else
          (some ((), (false, ())))))
      else
      (some ((), (false, ())))))

noncomputable def T_spec_TriplesOk_lp0 {R : Type} (N : Nat) (l2 : List (Int × Int × Int)) (K0 : Option R) (K1 : Int → Bool → Option R) : Nat → Int → Option R
  | 0, _ => none
  | n + 1, i3 =>
    (bif decide (i3 < (ilen l2)) then
    (bif inb i3 (List.length l2) then
      ((T_spec_l25Ok N (List.getD l2 (Int.toNat i3) ((0 : Int), ((0 : Int), (0 : Int))))).bind fun o7 =>
        (bif !o7.2.1 then
          K0
          else
          (T_spec_TriplesOk_lp0 N l2 K0 K1 n (iadd .i64 i3 (1 : Int))))) else none)
    else
    (K1 i3 (decide (i3 < (ilen l2)))))

noncomputable def T_spec_TriplesOk (N : Nat) (l1 : List (Int × Int × Int)) : Option (Unit × (Bool × Unit)) :=
    (bif decide ((ilen l1) > (20 : Int)) then
    (some ((), (false, ())))
    else
    (T_spec_TriplesOk_lp0 N l1
      (some ((), (false, ())))
      (fun i8 t9 =>
        (some ((), (true, ()))))
       N (0 : Int)))

noncomputable def T_spec_SeqValue (N : Nat) (start1 : Int × Int × Int) (l2 : List (Int × Int × Int)) (seq3 : Int) : Option (Unit × ((Int × Int × Int) × (Bool × Unit))) :=
    ((T_spec_l25Ok N start1).bind fun o4 =>
    (bif !o4.2.1 then
      (some ((), (((0 : Int), ((0 : Int), (0 : Int))), (false, ()))))
      else
      ((T_spec_TriplesOk N l2).bind fun o5 =>
        (bif !o5.2.1 then
          (some ((), (((0 : Int), ((0 : Int), (0 : Int))), (false, ()))))
          else
          ((T_spec_l1In N seq3 (0 : Int) (imul .i64 (2 : Int) (ilen l2))).bind fun o6 =>
            (bif !o6.2.1 then
              (some ((), (((0 : Int), ((0 : Int), (0 : Int))), (false, ()))))
              else
              (bif inz (2 : Int) then
                (bif (irem seq3 (2 : Int)) == (1 : Int) then
                  (some ((), (((0 : Int), ((0 : Int), (0 : Int))), (false, ()))))
                  else
                  (bif seq3 == (0 : Int) then
                    (some ((), (start1, (true, ()))))
                    else
                    (bif inz (2 : Int) then
                      (bif inb (isub .i64 (iquo .i64 seq3 (2 : Int)) (1 : Int)) (List.length l2) then
                        (some ((), (List.getD l2 (Int.toNat (isub .i64 (iquo .i64 seq3 (2 : Int)) (1 : Int))) ((0 : Int), ((0 : Int), (0 : Int))), (true, ())))) else none) else none))) else none)))))))

noncomputable def T_impl_isValue (N : Nat) (v1 : Int) : Option (Unit × (Bool × Unit)) :=
    ((T_impl_within N v1 (0 : Int) (65535 : Int)).bind fun o2 =>
    (some ((), (o2.2.1, ()))))

noncomputable def T_impl_isTriple (N : Nat) (t1 : Int × Int × Int) : Option (Unit × (Bool × Unit)) :=
    ((T_impl_isValue N t1.1).bind fun o2 =>
    (bif o2.2.1 then
      ((T_impl_isValue N t1.2.1).bind fun o3 =>
        (bif o3.2.1 then
          ((T_impl_isValue N t1.2.2).bind fun o4 =>
            (some ((), (o4.2.1, ()))))
          else
          (some ((), (false, ())))))
      else
      (some ((), (false, ())))))

noncomputable def T_impl_TriplesOk_lp0 {R : Type} (N : Nat) (l2 : List (Int × Int × Int)) (K0 : Option R) (K1 : Int → Bool → Option R) : Nat → Int → Option R
  | 0, _ => none
  | n + 1, t5 =>
    (bif decide (t5 < (ilen l2)) then
    (bif inb t5 (List.length l2) then
      ((T_impl_isTriple N (List.getD l2 (Int.toNat t5) ((0 : Int), ((0 : Int), (0 : Int))))).bind fun o10 =>
        (bif !o10.2.1 then
          K0
          else
          (T_impl_TriplesOk_lp0 N l2 K0 K1 n (iadd .i64 t5 (1 : Int))))) else none)
    else
    (K1 t5 (decide (t5 < (ilen l2)))))

noncomputable def T_impl_TriplesOk (N : Nat) (l1 : List (Int × Int × Int)) : Option (Unit × (Bool × Unit)) :=
    (T_impl_TriplesOk_lp0 N l1
    (some ((), (false, ())))
    (fun t11 t12 =>
      (some ((), (decide ((ilen l1) ≤ (20 : Int)), ()))))
     N (0 : Int))

noncomputable def T_impl_SeqValue (N : Nat) (start1 : Int × Int × Int) (l2 : List (Int × Int × Int)) (seq3 : Int) : Option (Unit × ((Int × Int × Int) × (Bool × Unit))) :=
    ((T_impl_isTriple N start1).bind fun o4 =>
    (bif !o4.2.1 then
      (some ((), (((0 : Int), ((0 : Int), (0 : Int))), (false, ()))))
      else
      ((T_impl_TriplesOk N l2).bind fun o5 =>
        (bif !o5.2.1 then
          (some ((), (((0 : Int), ((0 : Int), (0 : Int))), (false, ()))))
          else
          ((T_impl_within N seq3 (0 : Int) (imul .i64 (2 : Int) (ilen l2))).bind fun o6 =>
            (bif !o6.2.1 then
              (some ((), (((0 : Int), ((0 : Int), (0 : Int))), (false, ()))))
              else
              (bif inz (2 : Int) then
                (bif (irem seq3 (2 : Int)) == (1 : Int) then
                  (some ((), (((0 : Int), ((0 : Int), (0 : Int))), (false, ()))))
                  else
                  (bif seq3 == (0 : Int) then
                    (some ((), (start1, (true, ()))))
                    else
                    (bif inz (2 : Int) then
                      (bif inb (isub .i64 (iquo .i64 seq3 (2 : Int)) (1 : Int)) (List.length l2) then
                        (some ((), (List.getD l2 (Int.toNat (isub .i64 (iquo .i64 seq3 (2 : Int)) (1 : Int))) ((0 : Int), ((0 : Int), (0 : Int))), (true, ())))) else none) else none))) else none)))))))

noncomputable def T_laws_eqTriple (N : Nat) (a1 : Int × Int × Int) (b2 : Int × Int × Int) : Option (Unit × (Bool × Unit)) :=
    (bif a1.1 != b2.1 then
    (some ((), (false, ())))
    else
    (bif a1.2.1 != b2.2.1 then
      (some ((), (false, ())))
      else
      (bif a1.2.2 != b2.2.2 then
        (some ((), (false, ())))
        else
        (some ((), (true, ()))))))

noncomputable def T_laws_eqTripleS_lp0 {R : Type} (N : Nat) (a3 : List (Int × Int × Int)) (b4 : List (Int × Int × Int)) (K0 : Option R) (K1 : Int → Bool → Option R) : Nat → Int → Option R
  | 0, _ => none
  | n + 1, i5 =>
    (bif decide (i5 < (ilen a3)) then
    (bif inb i5 (List.length a3) then
      (bif inb i5 (List.length b4) then
        ((T_laws_eqTriple N (List.getD a3 (Int.toNat i5) ((0 : Int), ((0 : Int), (0 : Int)))) (List.getD b4 (Int.toNat i5) ((0 : Int), ((0 : Int), (0 : Int))))).bind fun o9 =>
          (bif !o9.2.1 then
            K0
            else
            (T_laws_eqTripleS_lp0 N a3 b4 K0 K1 n (iadd .i64 i5 (1 : Int))))) else none) else none)
    else
    (K1 i5 (decide (i5 < (ilen a3)))))

noncomputable def T_laws_eqTripleS (N : Nat) (a1 : List (Int × Int × Int)) (b2 : List (Int × Int × Int)) : Option (Unit × (Bool × Unit)) :=
    (bif (ilen a1) != (ilen b2) then
    (some ((), (false, ())))
    else
    (T_laws_eqTripleS_lp0 N a1 b2
      (some ((), (false, ())))
      (fun i10 t11 =>
        (some ((), (true, ()))))
       N (0 : Int)))

noncomputable def T_laws_FnExactSeqValue (N : Nat) (aStart1 : Int × Int × Int) (aL2 : List (Int × Int × Int)) (aSeq3 : Int) : Option (Unit × (Bool × Unit)) :=
    ((T_laws_szTripleS N aL2 (1048576 : Int)).bind fun o4 =>
    (bif decide (o4.2.1 < (0 : Int)) then
      (some ((), (true, ())))
      else
      ((T_laws_toTriple N aStart1).bind fun o5 =>
        ((T_laws_toTripleS N aL2).bind fun o6 =>
          ((T_spec_SeqValue N o5.2.1 o6.2.1 aSeq3).bind fun o7 =>
            ((T_laws_toTripleS N aL2).bind fun o8 =>
              ((T_laws_toTriple N aStart1).bind fun o9 =>
                ((T_impl_SeqValue N o9.2.1 o8.2.1 aSeq3).bind fun o10 =>
                  ((T_laws_eqTriple N o10.2.1 o7.2.1).bind fun o11 =>
                    (bif !o11.2.1 then
                      (some ((), (false, ())))
                      else
                      (bif !(beq o10.2.2.1 o7.2.2.1) then
                        (some ((), (false, ())))
                        else
                        ((T_laws_toTripleS N aL2).bind fun o12 =>
                          ((T_laws_eqTripleS N o8.2.1 o12.2.1).bind fun o13 =>
                            (bif !o13.2.1 then
                              (some ((), (false, ())))
                              else
                              (some ((), (true, ())))))))))))))))))

noncomputable def T_laws_FnExactTriplesOk (N : Nat) (aL1 : List (Int × Int × Int)) : Option (Unit × (Bool × Unit)) :=
    ((T_laws_szTripleS N aL1 (1048576 : Int)).bind fun o2 =>
    (bif decide (o2.2.1 < (0 : Int)) then
      (some ((), (true, ())))
      else
      ((T_laws_toTripleS N aL1).bind fun o3 =>
        ((T_spec_TriplesOk N o3.2.1).bind fun o4 =>
          ((T_laws_toTripleS N aL1).bind fun o5 =>
            ((T_impl_TriplesOk N o5.2.1).bind fun o6 =>
              (bif !(beq o6.2.1 o4.2.1) then
                (some ((), (false, ())))
                else
                ((T_laws_toTripleS N aL1).bind fun o7 =>
                  ((T_laws_eqTripleS N o5.2.1 o7.2.1).bind fun o8 =>
                    (bif !o8.2.1 then
                      (some ((), (false, ())))
                      else
                      (some ((), (true, ())))))))))))))

end Go.Sx
