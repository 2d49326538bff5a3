/- What each Go function computes, as a Lean function. -/
import Derived.Test.YtglbfgeahjjnoaaM3
namespace Go.Sx
set_option linter.unusedVariables false

noncomputable def T_laws_big (N : Nat) (code1 : List Int) : Option (Unit × (Bool × Unit)) :=
    (some ((), (decide ((ilen code1) > (1048576 : Int)), ())))

noncomputable def T_spec_l1New_lp0 {R : Type} (N : Nat) (code2 : List Int) (K0 : Int → Int → Bool → Option R) : Nat → Int → Int → Option R
  | 0, _, _ => none
  | n + 1, h3, i4 =>
    (bif decide (i4 < (ilen code2)) then
    (bif decide (i4 < (4000 : Int)) then
      (bif inb i4 (List.length code2) then
        (T_spec_l1New_lp0 N code2 K0 n (iand .i64 (iadd .i64 (iadd .i64 (imul .i64 h3 (131 : Int)) (IntKind.wrap .i64 (List.getD code2 (Int.toNat i4) (0 : Int)))) (7 : Int)) (1073741823 : Int)) (iadd .i64 i4 (1 : Int))) else none)
      else
      (K0 h3 i4 (decide (i4 < (4000 : Int)))))
    else
    (K0 h3 i4 false))

noncomputable def T_spec_l1New (N : Nat) (code1 : List Int) : Option (Unit × ((List Int × Int × Int) × Unit)) :=
    (T_spec_l1New_lp0 N code1
    (fun h8 i9 t10 =>
      (some ((), ((code1, ((0 : Int), h8)), ()))))
     N (iadd .i64 (10101 : Int) (ilen code1)) (0 : Int))

noncomputable def T_spec_l1Byte (N : Nat) (c1 : List Int × Int × Int) : Option (((List Int × Int × Int) × Unit) × (Int × Unit)) :=
    (bif inn (33 : Int) then
    (bif inn (45 : Int) then
      (bif decide (c1.2.1 < (ilen c1.1)) then
        (bif inb c1.2.1 (List.length c1.1) then
          (some (((c1.1, (iadd .i64 c1.2.1 (1 : Int), iadd .i64 (imul .i64 c1.2.2 (6364136223846793005 : Int)) (1442695040888963407 : Int))), ()), (iand .i64 (iadd .i64 (iand .i64 (ixor .i64 (ishr .i64 (iadd .i64 (imul .i64 c1.2.2 (6364136223846793005 : Int)) (1442695040888963407 : Int)) (33 : Int)) (ishr .i64 (iadd .i64 (imul .i64 c1.2.2 (6364136223846793005 : Int)) (1442695040888963407 : Int)) (45 : Int))) (255 : Int)) (IntKind.wrap .i64 (List.getD c1.1 (Int.toNat c1.2.1) (0 : Int)))) (255 : Int), ()))) else none)
        else
        (some (((c1.1, (c1.2.1, iadd .i64 (imul .i64 c1.2.2 (6364136223846793005 : Int)) (1442695040888963407 : Int))), ()), (iand .i64 (ixor .i64 (ishr .i64 (iadd .i64 (imul .i64 c1.2.2 (6364136223846793005 : Int)) (1442695040888963407 : Int)) (33 : Int)) (ishr .i64 (iadd .i64 (imul .i64 c1.2.2 (6364136223846793005 : Int)) (1442695040888963407 : Int)) (45 : Int))) (255 : Int), ())))) else none) else none)

noncomputable def T_spec_l1Below (N : Nat) (c1 : List Int × Int × Int) (n2 : Int) : Option (((List Int × Int × Int) × Unit) × (Int × Unit)) :=
    (bif decide (n2 ≤ (0 : Int)) then
    (some ((c1, ()), ((0 : Int), ())))
    else
    (bif decide (n2 ≤ (256 : Int)) then
      ((T_spec_l1Byte N c1).bind fun o3 =>
        (bif inz n2 then
          (some ((o3.1.1, ()), (irem o3.2.1 n2, ()))) else none))
      else
      ((T_spec_l1Byte N c1).bind fun o4 =>
        ((T_spec_l1Byte N o4.1.1).bind fun o5 =>
          ((T_spec_l1Byte N o5.1.1).bind fun o6 =>
            ((T_spec_l1Byte N o6.1.1).bind fun o7 =>
              (bif inz n2 then
                (some ((o7.1.1, ()), (irem (iadd .i64 (iadd .i64 (iadd .i64 (imul .i64 o4.2.1 (16777216 : Int)) (imul .i64 o5.2.1 (65536 : Int))) (imul .i64 o6.2.1 (256 : Int))) o7.2.1) n2, ()))) else none)))))))

noncomputable def T_spec_l1Once (N : Nat) (c1 : List Int × Int × Int) (n2 : Int) : Option (((List Int × Int × Int) × Unit) × (Bool × Unit)) :=
    ((T_spec_l1Below N c1 n2).bind fun o3 =>
    (some ((o3.1.1, ()), (o3.2.1 == (0 : Int), ()))))

noncomputable def T_spec_l1PickInt (N : Nat) (c1 : List Int × Int × Int) (list2 : List Int) : Option (((List Int × Int × Int) × Unit) × (Int × Unit)) :=
    ((T_spec_l1Below N c1 (ilen list2)).bind fun o3 =>
    (bif inb o3.2.1 (List.length list2) then
      (some ((o3.1.1, ()), (List.getD list2 (Int.toNat o3.2.1) (0 : Int), ()))) else none))

noncomputable def T_spec_l3Draw (N : Nat) (c1 : List Int × Int × Int) : Option (((List Int × Int × Int) × Unit) × (Int × Unit)) :=
    ((T_spec_l1Once N c1 (6 : Int)).bind fun o2 =>
    (bif o2.2.1 then
      ((T_spec_l1PickInt N o2.1.1 ([(0 : Int), (65535 : Int), (65534 : Int), (256 : Int)])).bind fun o3 =>
        (some ((o3.1.1, ()), (o3.2.1, ()))))
      else
      ((T_spec_l1Below N o2.1.1 (9 : Int)).bind fun o4 =>
        (some ((o4.1.1, ()), (o4.2.1, ()))))))

noncomputable def T_spec_l25Triple (N : Nat) (c1 : List Int × Int × Int) : Option (((List Int × Int × Int) × Unit) × ((Int × Int × Int) × Unit)) :=
    ((T_spec_l3Draw N c1).bind fun o2 =>
    ((T_spec_l1Once N o2.1.1 (2 : Int)).bind fun o3 =>
      (bif o3.2.1 then
        (some ((o3.1.1, ()), ((o2.2.1, (o2.2.1, o2.2.1)), ())))
        else
        ((T_spec_l3Draw N o3.1.1).bind fun o4 =>
          ((T_spec_l3Draw N o4.1.1).bind fun o5 =>
            (some ((o5.1.1, ()), ((o2.2.1, (o4.2.1, o5.2.1)), ()))))))))

noncomputable def T_spec_l12Picks_lp0 {R : Type} (N : Nat) (n4 : Int) (most5 : Int) (K0 : Int → Int → Bool → (List Int × Int × Int) → (List Int) → Option R) : Nat → Int → Int → (List Int × Int × Int) → (List Int) → Option R
  | 0, _, _, _, _ => none
  | n + 1, last6, i7, b8, l9 =>
    (bif decide (i7 < most5) then
    ((T_spec_l1Once N b8 (3 : Int)).bind fun o17 =>
      (bif !o17.2.1 then
        ((T_spec_l1Below N o17.1.1 n4).bind fun o18 =>
          (bif room ((List.length l9) + (List.length ([o18.2.1]))) then
            (T_spec_l12Picks_lp0 N n4 most5 K0 n o18.2.1 (iadd .i64 i7 (1 : Int)) o18.1.1 (List.append l9 ([o18.2.1]))) else none))
        else
        (bif room ((List.length l9) + (List.length ([last6]))) then
          (T_spec_l12Picks_lp0 N n4 most5 K0 n last6 (iadd .i64 i7 (1 : Int)) o17.1.1 (List.append l9 ([last6]))) else none)))
    else
    (K0 last6 i7 (decide (i7 < most5)) b8 l9))

noncomputable def T_spec_l12Picks (N : Nat) (c1 : List Int × Int × Int) (n2 : Int) (most3 : Int) : Option (((List Int × Int × Int) × Unit) × ((List Int) × Unit)) :=
    (T_spec_l12Picks_lp0 N n2 most3
    (fun last19 i20 t21 b22 l23 =>
      ((T_spec_l1Once N b22 (12 : Int)).bind fun o24 =>
        (bif o24.2.1 then
          (bif room ((List.length l23) + (List.length ([(-1 : Int), n2]))) then
            (some ((o24.1.1, ()), (List.append l23 ([(-1 : Int), n2]), ()))) else none)
          else
          (some ((o24.1.1, ()), (l23, ()))))))
     N (0 : Int) (0 : Int) c1 ([] : List Int))

noncomputable def T_spec_l25All_lp0 {R : Type} (N : Nat) (b9 : Int × Int × Int) (K0 : Int → Bool → (List Int × Int × Int) → (List (Int × Int × Int)) → Option R) : Nat → Int → (List Int × Int × Int) → (List (Int × Int × Int)) → Option R
  | 0, _, _, _ => none
  | n + 1, n4, b5, l10 =>
    (bif decide (n4 > (0 : Int)) then
    ((T_spec_l25Triple N b5).bind fun o17 =>
      (bif room ((List.length l10) + (List.length ([o17.2.1]))) then
        (T_spec_l25All_lp0 N b9 K0 n (isub .i64 n4 (1 : Int)) o17.1.1 (List.append l10 ([o17.2.1]))) else none))
    else
    (K0 n4 (decide (n4 > (0 : Int))) b5 l10))

noncomputable def T_spec_l25All_lp1 {R : Type} (N : Nat) (b29 : Int × Int × Int) (l31 : List Int) (K0 : Bool → (List Int × Int × Int) → (List (Int × Int × Int)) → Option R) : Nat → (List Int × Int × Int) → (List (Int × Int × Int)) → Option R
  | 0, _, _ => none
  | n + 1, b25, l30 =>
    ((T_spec_l1Below N b25 (2 : Int)).bind fun o37 =>
    (bif decide ((ilen l30) < (iadd .i64 (20 : Int) o37.2.1)) then
      (bif room ((List.length l30) + (List.length ([(ilen l30, ((0 : Int), (0 : Int)))]))) then
        (T_spec_l25All_lp1 N b29 l31 K0 n o37.1.1 (List.append l30 ([(ilen l30, ((0 : Int), (0 : Int)))]))) else none)
      else
      (K0 (decide ((ilen l30) < (iadd .i64 (20 : Int) o37.2.1))) o37.1.1 l30)))

noncomputable def T_spec_l25All_lp2 {R : Type} (N : Nat) (b45 : Int × Int × Int) (l46 : List (Int × Int × Int)) (K0 : Bool → (List Int × Int × Int) → (List Int) → Option R) : Nat → (List Int × Int × Int) → (List Int) → Option R
  | 0, _, _ => none
  | n + 1, b41, l47 =>
    ((T_spec_l1Below N b41 (2 : Int)).bind fun o53 =>
    (bif decide ((ilen l47) < (iadd .i64 (200 : Int) o53.2.1)) then
      (bif room ((List.length l47) + (List.length ([(0 : Int)]))) then
        (T_spec_l25All_lp2 N b45 l46 K0 n o53.1.1 (List.append l47 ([(0 : Int)]))) else none)
      else
      (K0 (decide ((ilen l47) < (iadd .i64 (200 : Int) o53.2.1))) o53.1.1 l47)))

noncomputable def T_spec_l25All (N : Nat) (c1 : List Int × Int × Int) : Option (((List Int × Int × Int) × Unit) × ((Int × Int × Int) × ((List (Int × Int × Int)) × ((List Int) × Unit)))) :=
    ((T_spec_l25Triple N c1).bind fun o2 =>
    ((T_spec_l1Below N o2.1.1 (6 : Int)).bind fun o3 =>
      (T_spec_l25All_lp0 N o2.2.1
        (fun n18 t19 b20 l21 =>
          ((T_spec_l1Below N b20 (100 : Int)).bind fun o22 =>
            ((T_spec_l12Picks N o22.1.1 (4 : Int) o22.2.1).bind fun o23 =>
              ((T_spec_l1Below N o23.1.1 (24 : Int)).bind fun o24 =>
                (bif o24.2.1 == (0 : Int) then
                  (some ((o24.1.1, ()), ((o2.2.1.1, ((65536 : Int), o2.2.1.2.2)), (l21, (o23.2.1, ())))))
                  else
                  (bif o24.2.1 == (1 : Int) then
                    (bif room ((List.length l21) + (List.length ([((0 : Int), ((0 : Int), (-1 : Int)))]))) then
                      (some ((o24.1.1, ()), (o2.2.1, (List.append l21 ([((0 : Int), ((0 : Int), (-1 : Int)))]), (o23.2.1, ()))))) else none)
                    else
                    (bif o24.2.1 == (2 : Int) then
                      (T_spec_l25All_lp1 N o2.2.1 o23.2.1
                        (fun t38 b39 l40 =>
                          (some ((b39, ()), (o2.2.1, (l40, (o23.2.1, ()))))))
                         N o24.1.1 l21)
                      else
                      (bif o24.2.1 == (3 : Int) then
                        (T_spec_l25All_lp2 N o2.2.1 l21
                          (fun t54 b55 l56 =>
                            (some ((b55, ()), (o2.2.1, (l21, (l56, ()))))))
                           N o24.1.1 o23.2.1)
                        else
                        (some ((o24.1.1, ()), (o2.2.1, (l21, (o23.2.1, ())))))))))))))
         N o3.2.1 o3.1.1 ([] : List (Int × Int × Int)))))

noncomputable def T_spec_DrawSeqPlay (N : Nat) (code1 : List Int) : Option (Unit × ((Int × Int × Int) × ((List (Int × Int × Int)) × ((List Int) × Unit)))) :=
    ((T_spec_l1New N code1).bind fun o2 =>
    ((T_spec_l25All N o2.2.1).bind fun o3 =>
      (some ((), (o3.2.1, (o3.2.2.1, (o3.2.2.2.1, ())))))))

noncomputable def T_impl_within (N : Nat) (x1 : Int) (lo2 : Int) (hi3 : Int) : Option (Unit × (Bool × Unit)) :=
    (bif decide (x1 ≥ lo2) then
    (some ((), (decide (x1 ≤ hi3), ())))
    else
    (some ((), (false, ()))))

noncomputable def T_impl_isValue (N : Nat) (v1 : Int) : Option (Unit × (Bool × Unit)) :=
    ((T_impl_within N v1 (0 : Int) (65535 : Int)).bind fun o2 =>
    (some ((), (o2.2.1, ()))))

noncomputable def T_impl_isTriple (N : Nat) (t1 : Int × Int × Int) : Option (Unit × (Bool × Unit)) :=
    ((T_impl_isValue N t1.1).bind fun o2 =>
    (bif o2.2.1 then
      ((T_impl_isValue N t1.2.1).bind fun o3 =>
        (bif o3.2.1 then
          ((T_impl_isValue N t1.2.2).bind fun o4 =>
            (some ((), (o4.2.1, ()))))
          else
          (some ((), (false, ())))))
      else
      (some ((), (false, ())))))

noncomputable def T_impl_TriplesOk_lp0 {R : Type} (N : Nat) (l2 : List (Int × Int × Int)) (K0 : Option R) (K1 : Int → Bool → Option R) : Nat → Int → Option R
  | 0, _ => none
  | n + 1, t5 =>
    (bif decide (t5 < (ilen l2)) then
    (bif inb t5 (List.length l2) then
      ((T_impl_isTriple N (List.getD l2 (Int.toNat t5) ((0 : Int), ((0 : Int), (0 : Int))))).bind fun o10 =>
        (bif !o10.2.1 then
          K0
          else
          (T_impl_TriplesOk_lp0 N l2 K0 K1 n (iadd .i64 t5 (1 : Int))))) else none)
    else
    (K1 t5 (decide (t5 < (ilen l2)))))

noncomputable def T_impl_TriplesOk (N : Nat) (l1 : List (Int × Int × Int)) : Option (Unit × (Bool × Unit)) :=
    (T_impl_TriplesOk_lp0 N l1
    (some ((), (false, ())))
    (fun t11 t12 =>
      (some ((), (decide ((ilen l1) ≤ (20 : Int)), ()))))
     N (0 : Int))

noncomputable def T_impl_SeqWorld_write (N : Nat) (w1 : Int × (Int × Int × Int) × Int × Int × List (Int × Int × (Int × Int × Int) × Int) × List (Int × Int × Int × Int × Int)) (l2 : List (Int × Int × Int)) : Option (((Int × (Int × Int × Int) × Int × Int × List (Int × Int × (Int × Int × Int) × Int) × List (Int × Int × Int × Int × Int)) × Unit) × Unit) :=
    (bif w1.2.2.1 == (0 : Int) then
    (bif w1.2.2.2.1 == (ilen l2) then
      (some ((w1, ()), ()))
      else
      (bif inz (5 : Int) then
        (some (((iadd .i64 w1.1 (1 : Int), (w1.2.1, (irem (iadd .i64 w1.2.2.1 (1 : Int)) (5 : Int), w1.2.2.2))), ()), ())) else none))
    else
    (bif w1.2.2.1 == (1 : Int) then
      (bif inb w1.2.2.2.1 (List.length l2) then
        (bif inz (5 : Int) then
          (some (((w1.1, (((List.getD l2 (Int.toNat w1.2.2.2.1) ((0 : Int), ((0 : Int), (0 : Int)))).1, w1.2.1.2), (irem (iadd .i64 w1.2.2.1 (1 : Int)) (5 : Int), w1.2.2.2))), ()), ())) else none) else none)
      else
      (bif w1.2.2.1 == (2 : Int) then
        (bif inb w1.2.2.2.1 (List.length l2) then
          (bif inz (5 : Int) then
            (some (((w1.1, ((w1.2.1.1, ((List.getD l2 (Int.toNat w1.2.2.2.1) ((0 : Int), ((0 : Int), (0 : Int)))).2.1, w1.2.1.2.2)), (irem (iadd .i64 w1.2.2.1 (1 : Int)) (5 : Int), w1.2.2.2))), ()), ())) else none) else none)
        else
        (bif w1.2.2.1 == (3 : Int) then
          (bif inb w1.2.2.2.1 (List.length l2) then
            (bif inz (5 : Int) then
              (some (((w1.1, ((w1.2.1.1, (w1.2.1.2.1, (List.getD l2 (Int.toNat w1.2.2.2.1) ((0 : Int), ((0 : Int), (0 : Int)))).2.2)), (irem (iadd .i64 w1.2.2.1 (1 : Int)) (5 : Int), w1.2.2.2))), ()), ())) else none) else none)
          else
          (bif w1.2.2.1 == (4 : Int) then
            (bif inz (5 : Int) then
              (some (((iadd .i64 w1.1 (1 : Int), (w1.2.1, (irem (iadd .i64 w1.2.2.1 (1 : Int)) (5 : Int), (iadd .i64 w1.2.2.2.1 (1 : Int), w1.2.2.2.2)))), ()), ())) else none)
            else
            (bif inz (5 : Int) then
              (some (((w1.1, (w1.2.1, (irem (iadd .i64 w1.2.2.1 (1 : Int)) (5 : Int), w1.2.2.2))), ()), ())) else none))))))

noncomputable def T_impl_SeqWorld_read (N : Nat) (w1 : Int × (Int × Int × Int) × Int × Int × List (Int × Int × (Int × Int × Int) × Int) × List (Int × Int × Int × Int × Int)) (k2 : Int) : Option (((Int × (Int × Int × Int) × Int × Int × List (Int × Int × (Int × Int × Int) × Int) × List (Int × Int × Int × Int × Int)) × Unit) × Unit) :=
    (bif inb k2 (List.length w1.2.2.2.2.1) then
    (bif (List.getD w1.2.2.2.2.1 (Int.toNat k2) ((0 : Int), ((0 : Int), (((0 : Int), ((0 : Int), (0 : Int))), (0 : Int))))).1 == (0 : Int) then
      (bif inz (2 : Int) then
        (bif (irem w1.1 (2 : Int)) == (1 : Int) then
          (some ((w1, ()), ()))
          else
          (some (((w1.1, (w1.2.1, (w1.2.2.1, (w1.2.2.2.1, (List.set (List.set w1.2.2.2.2.1 (Int.toNat k2) ((List.getD w1.2.2.2.2.1 (Int.toNat k2) ((0 : Int), ((0 : Int), (((0 : Int), ((0 : Int), (0 : Int))), (0 : Int))))).1, (w1.1, (List.getD w1.2.2.2.2.1 (Int.toNat k2) ((0 : Int), ((0 : Int), (((0 : Int), ((0 : Int), (0 : Int))), (0 : Int))))).2.2))) (Int.toNat k2) (iadd .i64 (List.getD (List.set w1.2.2.2.2.1 (Int.toNat k2) ((List.getD w1.2.2.2.2.1 (Int.toNat k2) ((0 : Int), ((0 : Int), (((0 : Int), ((0 : Int), (0 : Int))), (0 : Int))))).1, (w1.1, (List.getD w1.2.2.2.2.1 (Int.toNat k2) ((0 : Int), ((0 : Int), (((0 : Int), ((0 : Int), (0 : Int))), (0 : Int))))).2.2))) (Int.toNat k2) ((0 : Int), ((0 : Int), (((0 : Int), ((0 : Int), (0 : Int))), (0 : Int))))).1 (1 : Int), (List.getD (List.set w1.2.2.2.2.1 (Int.toNat k2) ((List.getD w1.2.2.2.2.1 (Int.toNat k2) ((0 : Int), ((0 : Int), (((0 : Int), ((0 : Int), (0 : Int))), (0 : Int))))).1, (w1.1, (List.getD w1.2.2.2.2.1 (Int.toNat k2) ((0 : Int), ((0 : Int), (((0 : Int), ((0 : Int), (0 : Int))), (0 : Int))))).2.2))) (Int.toNat k2) ((0 : Int), ((0 : Int), (((0 : Int), ((0 : Int), (0 : Int))), (0 : Int))))).2), w1.2.2.2.2.2))))), ()), ()))) else none)
      else
      (bif (List.getD w1.2.2.2.2.1 (Int.toNat k2) ((0 : Int), ((0 : Int), (((0 : Int), ((0 : Int), (0 : Int))), (0 : Int))))).1 == (1 : Int) then
        (some (((w1.1, (w1.2.1, (w1.2.2.1, (w1.2.2.2.1, (List.set (List.set w1.2.2.2.2.1 (Int.toNat k2) ((List.getD w1.2.2.2.2.1 (Int.toNat k2) ((0 : Int), ((0 : Int), (((0 : Int), ((0 : Int), (0 : Int))), (0 : Int))))).1, ((List.getD w1.2.2.2.2.1 (Int.toNat k2) ((0 : Int), ((0 : Int), (((0 : Int), ((0 : Int), (0 : Int))), (0 : Int))))).2.1, ((w1.2.1.1, (List.getD w1.2.2.2.2.1 (Int.toNat k2) ((0 : Int), ((0 : Int), (((0 : Int), ((0 : Int), (0 : Int))), (0 : Int))))).2.2.1.2), (List.getD w1.2.2.2.2.1 (Int.toNat k2) ((0 : Int), ((0 : Int), (((0 : Int), ((0 : Int), (0 : Int))), (0 : Int))))).2.2.2)))) (Int.toNat k2) (iadd .i64 (List.getD (List.set w1.2.2.2.2.1 (Int.toNat k2) ((List.getD w1.2.2.2.2.1 (Int.toNat k2) ((0 : Int), ((0 : Int), (((0 : Int), ((0 : Int), (0 : Int))), (0 : Int))))).1, ((List.getD w1.2.2.2.2.1 (Int.toNat k2) ((0 : Int), ((0 : Int), (((0 : Int), ((0 : Int), (0 : Int))), (0 : Int))))).2.1, ((w1.2.1.1, (List.getD w1.2.2.2.2.1 (Int.toNat k2) ((0 : Int), ((0 : Int), (((0 : Int), ((0 : Int), (0 : Int))), (0 : Int))))).2.2.1.2), (List.getD w1.2.2.2.2.1 (Int.toNat k2) ((0 : Int), ((0 : Int), (((0 : Int), ((0 : Int), (0 : Int))), (0 : Int))))).2.2.2)))) (Int.toNat k2) ((0 : Int), ((0 : Int), (((0 : Int), ((0 : Int), (0 : Int))), (0 : Int))))).1 (1 : Int), (List.getD (List.set w1.2.2.2.2.1 (Int.toNat k2) ((List.getD w1.2.2.2.2.1 (Int.toNat k2) ((0 : Int), ((0 : Int), (((0 : Int), ((0 : Int), (0 : Int))), (0 : Int))))).1, ((List.getD w1.2.2.2.2.1 (Int.toNat k2) ((0 : Int), ((0 : Int), (((0 : Int), ((0 : Int), (0 : Int))), (0 : Int))))).2.1, ((w1.2.1.1, (List.getD w1.2.2.2.2.1 (Int.toNat k2) ((0 : Int), ((0 : Int), (((0 : Int), ((0 : Int), (0 : Int))), (0 : Int))))).2.2.1.2), (List.getD w1.2.2.2.2.1 (Int.toNat k2) ((0 : Int), ((0 : Int), (((0 : Int), ((0 : Int), (0 : Int))), (0 : Int))))).2.2.2)))) (Int.toNat k2) ((0 : Int), ((0 : Int), (((0 : Int), ((0 : Int), (0 : Int))), (0 : Int))))).2), w1.2.2.2.2.2))))), ()), ()))
        else
        (bif (List.getD w1.2.2.2.2.1 (Int.toNat k2) ((0 : Int), ((0 : Int), (((0 : Int), ((0 : Int), (0 : Int))), (0 : Int))))).1 == (2 : Int) then
          (some (((w1.1, (w1.2.1, (w1.2.2.1, (w1.2.2.2.1, (List.set (List.set w1.2.2.2.2.1 (Int.toNat k2) ((List.getD w1.2.2.2.2.1 (Int.toNat k2) ((0 : Int), ((0 : Int), (((0 : Int), ((0 : Int), (0 : Int))), (0 : Int))))).1, ((List.getD w1.2.2.2.2.1 (Int.toNat k2) ((0 : Int), ((0 : Int), (((0 : Int), ((0 : Int), (0 : Int))), (0 : Int))))).2.1, (((List.getD w1.2.2.2.2.1 (Int.toNat k2) ((0 : Int), ((0 : Int), (((0 : Int), ((0 : Int), (0 : Int))), (0 : Int))))).2.2.1.1, (w1.2.1.2.1, (List.getD w1.2.2.2.2.1 (Int.toNat k2) ((0 : Int), ((0 : Int), (((0 : Int), ((0 : Int), (0 : Int))), (0 : Int))))).2.2.1.2.2)), (List.getD w1.2.2.2.2.1 (Int.toNat k2) ((0 : Int), ((0 : Int), (((0 : Int), ((0 : Int), (0 : Int))), (0 : Int))))).2.2.2)))) (Int.toNat k2) (iadd .i64 (List.getD (List.set w1.2.2.2.2.1 (Int.toNat k2) ((List.getD w1.2.2.2.2.1 (Int.toNat k2) ((0 : Int), ((0 : Int), (((0 : Int), ((0 : Int), (0 : Int))), (0 : Int))))).1, ((List.getD w1.2.2.2.2.1 (Int.toNat k2) ((0 : Int), ((0 : Int), (((0 : Int), ((0 : Int), (0 : Int))), (0 : Int))))).2.1, (((List.getD w1.2.2.2.2.1 (Int.toNat k2) ((0 : Int), ((0 : Int), (((0 : Int), ((0 : Int), (0 : Int))), (0 : Int))))).2.2.1.1, (w1.2.1.2.1, (List.getD w1.2.2.2.2.1 (Int.toNat k2) ((0 : Int), ((0 : Int), (((0 : Int), ((0 : Int), (0 : Int))), (0 : Int))))).2.2.1.2.2)), (List.getD w1.2.2.2.2.1 (Int.toNat k2) ((0 : Int), ((0 : Int), (((0 : Int), ((0 : Int), (0 : Int))), (0 : Int))))).2.2.2)))) (Int.toNat k2) ((0 : Int), ((0 : Int), (((0 : Int), ((0 : Int), (0 : Int))), (0 : Int))))).1 (1 : Int), (List.getD (List.set w1.2.2.2.2.1 (Int.toNat k2) ((List.getD w1.2.2.2.2.1 (Int.toNat k2) ((0 : Int), ((0 : Int), (((0 : Int), ((0 : Int), (0 : Int))), (0 : Int))))).1, ((List.getD w1.2.2.2.2.1 (Int.toNat k2) ((0 : Int), ((0 : Int), (((0 : Int), ((0 : Int), (0 : Int))), (0 : Int))))).2.1, (((List.getD w1.2.2.2.2.1 (Int.toNat k2) ((0 : Int), ((0 : Int), (((0 : Int), ((0 : Int), (0 : Int))), (0 : Int))))).2.2.1.1, (w1.2.1.2.1, (List.getD w1.2.2.2.2.1 (Int.toNat k2) ((0 : Int), ((0 : Int), (((0 : Int), ((0 : Int), (0 : Int))), (0 : Int))))).2.2.1.2.2)), (List.getD w1.2.2.2.2.1 (Int.toNat k2) ((0 : Int), ((0 : Int), (((0 : Int), ((0 : Int), (0 : Int))), (0 : Int))))).2.2.2)))) (Int.toNat k2) ((0 : Int), ((0 : Int), (((0 : Int), ((0 : Int), (0 : Int))), (0 : Int))))).2), w1.2.2.2.2.2))))), ()), ()))
          else
          (bif (List.getD w1.2.2.2.2.1 (Int.toNat k2) ((0 : Int), ((0 : Int), (((0 : Int), ((0 : Int), (0 : Int))), (0 : Int))))).1 == (3 : Int) then
            (some (((w1.1, (w1.2.1, (w1.2.2.1, (w1.2.2.2.1, (List.set (List.set w1.2.2.2.2.1 (Int.toNat k2) ((List.getD w1.2.2.2.2.1 (Int.toNat k2) ((0 : Int), ((0 : Int), (((0 : Int), ((0 : Int), (0 : Int))), (0 : Int))))).1, ((List.getD w1.2.2.2.2.1 (Int.toNat k2) ((0 : Int), ((0 : Int), (((0 : Int), ((0 : Int), (0 : Int))), (0 : Int))))).2.1, (((List.getD w1.2.2.2.2.1 (Int.toNat k2) ((0 : Int), ((0 : Int), (((0 : Int), ((0 : Int), (0 : Int))), (0 : Int))))).2.2.1.1, ((List.getD w1.2.2.2.2.1 (Int.toNat k2) ((0 : Int), ((0 : Int), (((0 : Int), ((0 : Int), (0 : Int))), (0 : Int))))).2.2.1.2.1, w1.2.1.2.2)), (List.getD w1.2.2.2.2.1 (Int.toNat k2) ((0 : Int), ((0 : Int), (((0 : Int), ((0 : Int), (0 : Int))), (0 : Int))))).2.2.2)))) (Int.toNat k2) (iadd .i64 (List.getD (List.set w1.2.2.2.2.1 (Int.toNat k2) ((List.getD w1.2.2.2.2.1 (Int.toNat k2) ((0 : Int), ((0 : Int), (((0 : Int), ((0 : Int), (0 : Int))), (0 : Int))))).1, ((List.getD w1.2.2.2.2.1 (Int.toNat k2) ((0 : Int), ((0 : Int), (((0 : Int), ((0 : Int), (0 : Int))), (0 : Int))))).2.1, (((List.getD w1.2.2.2.2.1 (Int.toNat k2) ((0 : Int), ((0 : Int), (((0 : Int), ((0 : Int), (0 : Int))), (0 : Int))))).2.2.1.1, ((List.getD w1.2.2.2.2.1 (Int.toNat k2) ((0 : Int), ((0 : Int), (((0 : Int), ((0 : Int), (0 : Int))), (0 : Int))))).2.2.1.2.1, w1.2.1.2.2)), (List.getD w1.2.2.2.2.1 (Int.toNat k2) ((0 : Int), ((0 : Int), (((0 : Int), ((0 : Int), (0 : Int))), (0 : Int))))).2.2.2)))) (Int.toNat k2) ((0 : Int), ((0 : Int), (((0 : Int), ((0 : Int), (0 : Int))), (0 : Int))))).1 (1 : Int), (List.getD (List.set w1.2.2.2.2.1 (Int.toNat k2) ((List.getD w1.2.2.2.2.1 (Int.toNat k2) ((0 : Int), ((0 : Int), (((0 : Int), ((0 : Int), (0 : Int))), (0 : Int))))).1, ((List.getD w1.2.2.2.2.1 (Int.toNat k2) ((0 : Int), ((0 : Int), (((0 : Int), ((0 : Int), (0 : Int))), (0 : Int))))).2.1, (((List.getD w1.2.2.2.2.1 (Int.toNat k2) ((0 : Int), ((0 : Int), (((0 : Int), ((0 : Int), (0 : Int))), (0 : Int))))).2.2.1.1, ((List.getD w1.2.2.2.2.1 (Int.toNat k2) ((0 : Int), ((0 : Int), (((0 : Int), ((0 : Int), (0 : Int))), (0 : Int))))).2.2.1.2.1, w1.2.1.2.2)), (List.getD w1.2.2.2.2.1 (Int.toNat k2) ((0 : Int), ((0 : Int), (((0 : Int), ((0 : Int), (0 : Int))), (0 : Int))))).2.2.2)))) (Int.toNat k2) ((0 : Int), ((0 : Int), (((0 : Int), ((0 : Int), (0 : Int))), (0 : Int))))).2), w1.2.2.2.2.2))))), ()), ()))
            else
            (bif (List.getD w1.2.2.2.2.1 (Int.toNat k2) ((0 : Int), ((0 : Int), (((0 : Int), ((0 : Int), (0 : Int))), (0 : Int))))).1 == (4 : Int) then
              (bif w1.1 == (List.getD w1.2.2.2.2.1 (Int.toNat k2) ((0 : Int), ((0 : Int), (((0 : Int), ((0 : Int), (0 : Int))), (0 : Int))))).2.1 then
                (bif room ((List.length w1.2.2.2.2.2) + (List.length ([(k2, ((List.getD w1.2.2.2.2.1 (Int.toNat k2) ((0 : Int), ((0 : Int), (((0 : Int), ((0 : Int), (0 : Int))), (0 : Int))))).2.1, (List.getD w1.2.2.2.2.1 (Int.toNat k2) ((0 : Int), ((0 : Int), (((0 : Int), ((0 : Int), (0 : Int))), (0 : Int))))).2.2.1))]))) then
                  (some (((w1.1, (w1.2.1, (w1.2.2.1, (w1.2.2.2.1, (List.set w1.2.2.2.2.1 (Int.toNat k2) ((0 : Int), ((0 : Int), (((0 : Int), ((0 : Int), (0 : Int))), (List.getD w1.2.2.2.2.1 (Int.toNat k2) ((0 : Int), ((0 : Int), (((0 : Int), ((0 : Int), (0 : Int))), (0 : Int))))).2.2.2))), List.append w1.2.2.2.2.2 ([(k2, ((List.getD w1.2.2.2.2.1 (Int.toNat k2) ((0 : Int), ((0 : Int), (((0 : Int), ((0 : Int), (0 : Int))), (0 : Int))))).2.1, (List.getD w1.2.2.2.2.1 (Int.toNat k2) ((0 : Int), ((0 : Int), (((0 : Int), ((0 : Int), (0 : Int))), (0 : Int))))).2.2.1))])))))), ()), ())) else none)
                else
                (some (((w1.1, (w1.2.1, (w1.2.2.1, (w1.2.2.2.1, (List.set w1.2.2.2.2.1 (Int.toNat k2) ((0 : Int), ((0 : Int), (((0 : Int), ((0 : Int), (0 : Int))), iadd .i64 (List.getD w1.2.2.2.2.1 (Int.toNat k2) ((0 : Int), ((0 : Int), (((0 : Int), ((0 : Int), (0 : Int))), (0 : Int))))).2.2.2 (1 : Int)))), w1.2.2.2.2.2))))), ()), ())))
              else
              (some (((w1.1, (w1.2.1, (w1.2.2.1, (w1.2.2.2.1, (List.set w1.2.2.2.2.1 (Int.toNat k2) (iadd .i64 (List.getD w1.2.2.2.2.1 (Int.toNat k2) ((0 : Int), ((0 : Int), (((0 : Int), ((0 : Int), (0 : Int))), (0 : Int))))).1 (1 : Int), (List.getD w1.2.2.2.2.1 (Int.toNat k2) ((0 : Int), ((0 : Int), (((0 : Int), ((0 : Int), (0 : Int))), (0 : Int))))).2), w1.2.2.2.2.2))))), ()), ()))))))) else none)

noncomputable def T_impl_SeqPlay_lp0 {R : Type} (N : Nat) (l6 : List (Int × Int × Int)) (t7 : List Int) (K0 : Int → Bool → Int → Int → Int → Int → Int → Int → (List (Int × Int × (Int × Int × Int) × Int)) → (List (Int × Int × Int × Int × Int)) → Option R) : Nat → Int → Int → Int → Int → Int → Int → Int → (List (Int × Int × (Int × Int × Int) × Int)) → (List (Int × Int × Int × Int × Int)) → Option R
  | 0, _, _, _, _, _, _, _, _, _ => none
  | n + 1, t9, b16, b17, b18, b19, b20, b21, l22, l23 =>
    (bif decide (t9 < (ilen t7)) then
    (bif inb t9 (List.length t7) then
      (bif (List.getD t7 (Int.toNat t9) (0 : Int)) == (0 : Int) then
        ((T_impl_SeqWorld_write N (b16, ((b17, (b18, b19)), (b20, (b21, (l22, l23))))) l6).bind fun o40 =>
          (T_impl_SeqPlay_lp0 N l6 t7 K0 n (iadd .i64 t9 (1 : Int)) o40.1.1.1 o40.1.1.2.1.1 o40.1.1.2.1.2.1 o40.1.1.2.1.2.2 o40.1.1.2.2.1 o40.1.1.2.2.2.1 o40.1.1.2.2.2.2.1 o40.1.1.2.2.2.2.2))
        else
        ((T_impl_within N (List.getD t7 (Int.toNat t9) (0 : Int)) (1 : Int) (3 : Int)).bind fun o41 =>
          (bif o41.2.1 then
            ((T_impl_SeqWorld_read N (b16, ((b17, (b18, b19)), (b20, (b21, (l22, l23))))) (isub .i64 (List.getD t7 (Int.toNat t9) (0 : Int)) (1 : Int))).bind fun o42 =>
              (T_impl_SeqPlay_lp0 N l6 t7 K0 n (iadd .i64 t9 (1 : Int)) o42.1.1.1 o42.1.1.2.1.1 o42.1.1.2.1.2.1 o42.1.1.2.1.2.2 o42.1.1.2.2.1 o42.1.1.2.2.2.1 o42.1.1.2.2.2.2.1 o42.1.1.2.2.2.2.2))
            else
            (T_impl_SeqPlay_lp0 N l6 t7 K0 n (iadd .i64 t9 (1 : Int)) b16 b17 b18 b19 b20 b21 l22 l23)))) else none)
    else
    (K0 t9 (decide (t9 < (ilen t7))) b16 b17 b18 b19 b20 b21 l22 l23))

noncomputable def T_impl_SeqPlay (N : Nat) (start1 : Int × Int × Int) (l2 : List (Int × Int × Int)) (acts3 : List Int) : Option (Unit × ((Int × (Int × Int × Int) × Int × Int × List (Int × Int × (Int × Int × Int) × Int) × List (Int × Int × Int × Int × Int)) × Unit)) :=
    ((T_impl_isTriple N start1).bind fun o4 =>
    (bif !o4.2.1 then
      (some ((), (((0 : Int), (((0 : Int), ((0 : Int), (0 : Int))), ((0 : Int), ((0 : Int), (([] : List (Int × Int × (Int × Int × Int) × Int)), ([] : List (Int × Int × Int × Int × Int))))))), ())))
      else
      ((T_impl_TriplesOk N l2).bind fun o5 =>
        (bif !o5.2.1 then
          (some ((), (((0 : Int), (((0 : Int), ((0 : Int), (0 : Int))), ((0 : Int), ((0 : Int), (([] : List (Int × Int × (Int × Int × Int) × Int)), ([] : List (Int × Int × Int × Int × Int))))))), ())))
          else
          (bif decide ((ilen acts3) > (200 : Int)) then
            (some ((), (((0 : Int), (((0 : Int), ((0 : Int), (0 : Int))), ((0 : Int), ((0 : Int), (([] : List (Int × Int × (Int × Int × Int) × Int)), ([] : List (Int × Int × Int × Int × Int))))))), ())))
            else
            (both
              (bif ((decide ((0 : Int) ≤ (3 : Int))) && (decide ((3 : Int) ≤ (3 : Int)))) && (room (Int.toNat (3 : Int))) then
                (T_impl_SeqPlay_lp0 N l2 acts3
                  (fun t43 t44 b45 b46 b47 b48 b49 b50 l51 l52 =>
                    (some ((), ((b45, ((b46, (b47, b48)), (b49, (b50, (l51, l52))))), ()))))
                   N (0 : Int) (0 : Int) start1.1 start1.2.1 start1.2.2 (0 : Int) (0 : Int) (List.replicate (Int.toNat (3 : Int)) ((0 : Int), ((0 : Int), (((0 : Int), ((0 : Int), (0 : Int))), (0 : Int))))) ([] : List (Int × Int × Int × Int × Int))) else none)
              (bif ((decide ((0 : Int) ≤ (3 : Int))) && (decide ((3 : Int) ≤ (3 : Int)))) && (room (Int.toNat (3 : Int))) then
                (T_impl_SeqPlay_lp0 N l2 acts3
                  (fun t53 t54 b55 b56 b57 b58 b59 b60 l61 l62 =>
                    (some ((), ((b55, ((b56, (b57, b58)), (b59, (b60, (l61, l62))))), ()))))
                   N (0 : Int) (0 : Int) start1.1 start1.2.1 start1.2.2 (0 : Int) (0 : Int) (List.replicate (Int.toNat (3 : Int)) ((0 : Int), ((0 : Int), (((0 : Int), ((0 : Int), (0 : Int))), (0 : Int))))) ([] : List (Int × Int × Int × Int × Int))) else none)))))))

noncomputable def T_spec_l1In (N : Nat) (x1 : Int) (low2 : Int) (high3 : Int) : Option (Unit × (Bool × Unit)) :=
    (bif decide (x1 ≥ low2) then
    (some ((), (decide (x1 ≤ high3), ())))
    else
    (some ((), (false, ()))))

noncomputable def T_spec_l3Val (N : Nat) (v1 : Int) : Option (Unit × (Bool × Unit)) :=
    ((T_spec_l1In N v1 (0 : Int) (65535 : Int)).bind fun o2 =>
    (some ((), (o2.2.1, ()))))

noncomputable def T_spec_l25Ok (N : Nat) (t1 : Int × Int × Int) : Option (Unit × (Bool × Unit)) :=
    ((T_spec_l3Val N t1.1).bind fun o2 =>
    (bif o2.2.1 then
      ((T_spec_l3Val N t1.2.1).bind fun o3 =>
        (bif o3.2.1 then
          ((T_spec_l3Val N t1.2.2).bind fun o4 =>
            (some ((), (o4.2.1, ()))))
          else
          (some ((), (false, ())))))
      else
      (some ((), (false, ())))))

noncomputable def T_spec_TriplesOk_lp0 {R : Type} (N : Nat) (l2 : List (Int × Int × Int)) (K0 : Option R) (K1 : Int → Bool → Option R) : Nat → Int → Option R
  | 0, _ => none
  | n + 1, i3 =>
    (bif decide (i3 < (ilen l2)) then
    (bif inb i3 (List.length l2) then
      ((T_spec_l25Ok N (List.getD l2 (Int.toNat i3) ((0 : Int), ((0 : Int), (0 : Int))))).bind fun o7 =>
        (bif !o7.2.1 then
          K0
          else
          (T_spec_TriplesOk_lp0 N l2 K0 K1 n (iadd .i64 i3 (1 : Int))))) else none)
    else
    (K1 i3 (decide (i3 < (ilen l2)))))

noncomputable def T_spec_TriplesOk (N : Nat) (l1 : List (Int × Int × Int)) : Option (Unit × (Bool × Unit)) :=
    (bif decide ((ilen l1) > (20 : Int)) then
    (some ((), (false, ())))
    else
    (T_spec_TriplesOk_lp0 N l1
      (some ((), (false, ())))
      (fun i8 t9 =>
        (some ((), (true, ()))))
       N (0 : Int)))

noncomputable def T_spec_SeqValue (N : Nat) (start1 : Int × Int × Int) (l2 : List (Int × Int × Int)) (seq3 : Int) : Option (Unit × ((Int × Int × Int) × (Bool × Unit))) :=
    ((T_spec_l25Ok N start1).bind fun o4 =>
    (bif !o4.2.1 then
      (some ((), (((0 : Int), ((0 : Int), (0 : Int))), (false, ()))))
      else
      ((T_spec_TriplesOk N l2).bind fun o5 =>
        (bif !o5.2.1 then
          (some ((), (((0 : Int), ((0 : Int), (0 : Int))), (false, ()))))
          else
          ((T_spec_l1In N seq3 (0 : Int) (imul .i64 (2 : Int) (ilen l2))).bind fun o6 =>
            (bif !o6.2.1 then
              (some ((), (((0 : Int), ((0 : Int), (0 : Int))), (false, ()))))
              else
              (bif inz (2 : Int) then
                (bif (irem seq3 (2 : Int)) == (1 : Int) then
                  (some ((), (((0 : Int), ((0 : Int), (0 : Int))), (false, ()))))
                  else
                  (bif seq3 == (0 : Int) then
                    (some ((), (start1, (true, ()))))
                    else
                    (bif inz (2 : Int) then
                      (bif inb (isub .i64 (iquo .i64 seq3 (2 : Int)) (1 : Int)) (List.length l2) then
                        (some ((), (List.getD l2 (Int.toNat (isub .i64 (iquo .i64 seq3 (2 : Int)) (1 : Int))) ((0 : Int), ((0 : Int), (0 : Int))), (true, ())))) else none) else none))) else none)))))))

noncomputable def T_spec_SeqTrue_lp1 {R : Type} (N : Nat) (l9 : List (Int × Int × Int)) (i10 : Int) (b12 : Int × Int × Int) (b13 : Int × (Int × Int × Int) × Int × Int × List (Int × Int × (Int × Int × Int) × Int) × List (Int × Int × Int × Int × Int)) (K0 : Option R) (K1 : Int → Bool → Option R) : Nat → Int → Option R
  | 0, _ => none
  | n + 1, k11 =>
    (bif decide (k11 < i10) then
    (bif inb k11 (List.length b13.2.2.2.2.2) then
      (bif inb i10 (List.length b13.2.2.2.2.2) then
        (bif decide ((List.getD b13.2.2.2.2.2 (Int.toNat k11) ((0 : Int), ((0 : Int), ((0 : Int), ((0 : Int), (0 : Int)))))).2.1 > (List.getD b13.2.2.2.2.2 (Int.toNat i10) ((0 : Int), ((0 : Int), ((0 : Int), ((0 : Int), (0 : Int)))))).2.1) then
          K0
          else
          (T_spec_SeqTrue_lp1 N l9 i10 b12 b13 K0 K1 n (iadd .i64 k11 (1 : Int)))) else none) else none)
    else
    (K1 k11 (decide (k11 < i10))))

noncomputable def T_spec_SeqTrue_lp0 {R : Type} (N : Nat) (l4 : List (Int × Int × Int)) (b6 : Int × Int × Int) (b7 : Int × (Int × Int × Int) × Int × Int × List (Int × Int × (Int × Int × Int) × Int) × List (Int × Int × Int × Int × Int)) (K0 : Option R) (K1 : Int → Bool → Option R) : Nat → Int → Option R
  | 0, _ => none
  | n + 1, i5 =>
    (bif decide (i5 < (ilen b7.2.2.2.2.2)) then
    (both
      (bif inb i5 (List.length b7.2.2.2.2.2) then
        ((T_spec_SeqValue N b6 l4 (List.getD b7.2.2.2.2.2 (Int.toNat i5) ((0 : Int), ((0 : Int), ((0 : Int), ((0 : Int), (0 : Int)))))).2.1).bind fun o23 =>
          (bif !o23.2.2.1 then
            K0
            else
            (bif inb i5 (List.length b7.2.2.2.2.2) then
              (bif !((ieq o23.2.1.1 (List.getD b7.2.2.2.2.2 (Int.toNat i5) ((0 : Int), ((0 : Int), ((0 : Int), ((0 : Int), (0 : Int)))))).2.2.1) && ((ieq o23.2.1.2.1 (List.getD b7.2.2.2.2.2 (Int.toNat i5) ((0 : Int), ((0 : Int), ((0 : Int), ((0 : Int), (0 : Int)))))).2.2.2.1) && ((ieq o23.2.1.2.2 (List.getD b7.2.2.2.2.2 (Int.toNat i5) ((0 : Int), ((0 : Int), ((0 : Int), ((0 : Int), (0 : Int)))))).2.2.2.2) && true))) then
                K0
                else
                (T_spec_SeqTrue_lp1 N l4 i5 b6 b7
                  K0
                  (fun k24 t25 =>
                    (T_spec_SeqTrue_lp0 N l4 b6 b7 K0 K1 n (iadd .i64 i5 (1 : Int))))
                   N (0 : Int))) else none))) else none)
      (bif inb i5 (List.length b7.2.2.2.2.2) then
        ((T_spec_SeqValue N b6 l4 (List.getD b7.2.2.2.2.2 (Int.toNat i5) ((0 : Int), ((0 : Int), ((0 : Int), ((0 : Int), (0 : Int)))))).2.1).bind fun o26 =>
          (bif !o26.2.2.1 then
            K0
            else
            (bif inb i5 (List.length b7.2.2.2.2.2) then
              (bif !((ieq o26.2.1.1 (List.getD b7.2.2.2.2.2 (Int.toNat i5) ((0 : Int), ((0 : Int), ((0 : Int), ((0 : Int), (0 : Int)))))).2.2.1) && ((ieq o26.2.1.2.1 (List.getD b7.2.2.2.2.2 (Int.toNat i5) ((0 : Int), ((0 : Int), ((0 : Int), ((0 : Int), (0 : Int)))))).2.2.2.1) && ((ieq o26.2.1.2.2 (List.getD b7.2.2.2.2.2 (Int.toNat i5) ((0 : Int), ((0 : Int), ((0 : Int), ((0 : Int), (0 : Int)))))).2.2.2.2) && true))) then
                K0
                else
                (T_spec_SeqTrue_lp1 N l4 i5 b6 b7
                  K0
                  (fun k27 t28 =>
                    (T_spec_SeqTrue_lp0 N l4 b6 b7 K0 K1 n (iadd .i64 i5 (1 : Int))))
                   N (0 : Int))) else none))) else none))
    else
    (K1 i5 (decide (i5 < (ilen b7.2.2.2.2.2)))))

noncomputable def T_spec_SeqTrue (N : Nat) (start1 : Int × Int × Int) (l2 : List (Int × Int × Int)) (w3 : Int × (Int × Int × Int) × Int × Int × List (Int × Int × (Int × Int × Int) × Int) × List (Int × Int × Int × Int × Int)) : Option (Unit × (Bool × Unit)) :=
    (T_spec_SeqTrue_lp0 N l2 start1 w3
    (some ((), (false, ())))
    (fun i29 t30 =>
      (some ((), (true, ()))))
     N (0 : Int))

noncomputable def T_impl_SeqValue (N : Nat) (start1 : Int × Int × Int) (l2 : List (Int × Int × Int)) (seq3 : Int) : Option (Unit × ((Int × Int × Int) × (Bool × Unit))) :=
    ((T_impl_isTriple N start1).bind fun o4 =>
    (bif !o4.2.1 then
      (some ((), (((0 : Int), ((0 : Int), (0 : Int))), (false, ()))))
      else
      ((T_impl_TriplesOk N l2).bind fun o5 =>
        (bif !o5.2.1 then
          (some ((), (((0 : Int), ((0 : Int), (0 : Int))), (false, ()))))
          else
          ((T_impl_within N seq3 (0 : Int) (imul .i64 (2 : Int) (ilen l2))).bind fun o6 =>
            (bif !o6.2.1 then
              (some ((), (((0 : Int), ((0 : Int), (0 : Int))), (false, ()))))
              else
              (bif inz (2 : Int) then
                (bif (irem seq3 (2 : Int)) == (1 : Int) then
                  (some ((), (((0 : Int), ((0 : Int), (0 : Int))), (false, ()))))
                  else
                  (bif seq3 == (0 : Int) then
                    (some ((), (start1, (true, ()))))
                    else
                    (bif inz (2 : Int) then
                      (bif inb (isub .i64 (iquo .i64 seq3 (2 : Int)) (1 : Int)) (List.length l2) then
                        (some ((), (List.getD l2 (Int.toNat (isub .i64 (iquo .i64 seq3 (2 : Int)) (1 : Int))) ((0 : Int), ((0 : Int), (0 : Int))), (true, ())))) else none) else none))) else none)))))))

noncomputable def T_impl_SeqTrue_lp0 {R : Type} (N : Nat) (l4 : List (Int × Int × Int)) (t5 : List (Int × Int × Int × Int × Int)) (b8 : Int × Int × Int) (b9 : Int × (Int × Int × Int) × Int × Int × List (Int × Int × (Int × Int × Int) × Int) × List (Int × Int × Int × Int × Int)) (K0 : Option R) (K1 : Int → Bool → Option R) : Nat → Int → Option R
  | 0, _ => none
  | n + 1, t7 =>
    (bif decide (t7 < (ilen b9.2.2.2.2.2)) then
    (bif inb t7 (List.length t5) then
      ((T_impl_SeqValue N b8 l4 (List.getD t5 (Int.toNat t7) ((0 : Int), ((0 : Int), ((0 : Int), ((0 : Int), (0 : Int)))))).2.1).bind fun o14 =>
        (bif !o14.2.2.1 then
          K0
          else
          (bif !((ieq o14.2.1.1 (List.getD t5 (Int.toNat t7) ((0 : Int), ((0 : Int), ((0 : Int), ((0 : Int), (0 : Int)))))).2.2.1) && ((ieq o14.2.1.2.1 (List.getD t5 (Int.toNat t7) ((0 : Int), ((0 : Int), ((0 : Int), ((0 : Int), (0 : Int)))))).2.2.2.1) && ((ieq o14.2.1.2.2 (List.getD t5 (Int.toNat t7) ((0 : Int), ((0 : Int), ((0 : Int), ((0 : Int), (0 : Int)))))).2.2.2.2) && true))) then
            K0
            else
            (bif decide (t7 > (0 : Int)) then
              (bif inb (isub .i64 t7 (1 : Int)) (List.length b9.2.2.2.2.2) then
                (bif decide ((List.getD t5 (Int.toNat t7) ((0 : Int), ((0 : Int), ((0 : Int), ((0 : Int), (0 : Int)))))).2.1 < (List.getD b9.2.2.2.2.2 (Int.toNat (isub .i64 t7 (1 : Int))) ((0 : Int), ((0 : Int), ((0 : Int), ((0 : Int), (0 : Int)))))).2.1) then
                  K0
                  else
                  (T_impl_SeqTrue_lp0 N l4 t5 b8 b9 K0 K1 n (iadd .i64 t7 (1 : Int)))) else none)
              else
              (T_impl_SeqTrue_lp0 N l4 t5 b8 b9 K0 K1 n (iadd .i64 t7 (1 : Int))))))) else none)
    else
    (K1 t7 (decide (t7 < (ilen b9.2.2.2.2.2)))))

noncomputable def T_impl_SeqTrue (N : Nat) (start1 : Int × Int × Int) (l2 : List (Int × Int × Int)) (w3 : Int × (Int × Int × Int) × Int × Int × List (Int × Int × (Int × Int × Int) × Int) × List (Int × Int × Int × Int × Int)) : Option (Unit × (Bool × Unit)) :=
    (T_impl_SeqTrue_lp0 N l2 w3.2.2.2.2.2 start1 w3
    (some ((), (false, ())))
    (fun t15 t16 =>
      (some ((), (true, ()))))
     N (0 : Int))

noncomputable def T_laws_FnSeq (N : Nat) (code1 : List Int) : Option (Unit × (Bool × Unit)) :=
    ((T_laws_big N code1).bind fun o2 =>
    (bif o2.2.1 then
      (some ((), (true, ())))
      else
      ((T_spec_DrawSeqPlay N code1).bind fun o3 =>
        ((T_impl_SeqPlay N o3.2.1 o3.2.2.1 o3.2.2.2.1).bind fun o4 =>
          ((T_spec_TriplesOk N o3.2.2.1).bind fun o5 =>
            (bif !o5.2.1 then
              (some ((), ((ilen o4.2.1.2.2.2.2.1) == (0 : Int), ())))
              else
              ((T_spec_TriplesOk N ([o3.2.1])).bind fun o6 =>
                (bif !o6.2.1 then
                  (some ((), ((ilen o4.2.1.2.2.2.2.1) == (0 : Int), ())))
                  else
                  (bif decide ((ilen o3.2.2.2.1) > (200 : Int)) then
                    (some ((), ((ilen o4.2.1.2.2.2.2.1) == (0 : Int), ())))
                    else
                    ((T_spec_SeqTrue N o3.2.1 o3.2.2.1 o4.2.1).bind fun o7 =>
                      (bif !o7.2.1 then
                        (some ((), (false, ())))
                        else
                        ((T_impl_SeqTrue N o3.2.1 o3.2.2.1 o4.2.1).bind fun o8 =>
                          (bif !o8.2.1 then
                            (some ((), (false, ())))
                            else
                            (bif (ilen o4.2.1.2.2.2.2.1) != (3 : Int) then
                              (some ((), (false, ())))
                              else
                              ((T_impl_SeqValue N o3.2.1 o3.2.2.1 o4.2.1.1).bind fun o9 =>
                                (bif inz (2 : Int) then
                                  (bif beq o9.2.2.1 ((irem o4.2.1.1 (2 : Int)) == (0 : Int)) then
                                    (bif !o9.2.2.1 then
                                      (bif inz (2 : Int) then
                                        (some ((), ((iquo .i64 o4.2.1.1 (2 : Int)) == o4.2.1.2.2.2.1, ()))) else none)
                                      else
                                      (bif (ieq o9.2.1.1 o4.2.1.2.1.1) && ((ieq o9.2.1.2.1 o4.2.1.2.1.2.1) && ((ieq o9.2.1.2.2 o4.2.1.2.1.2.2) && true)) then
                                        (bif inz (2 : Int) then
                                          (some ((), ((iquo .i64 o4.2.1.1 (2 : Int)) == o4.2.1.2.2.2.1, ()))) else none)
                                        else
                                        (some ((), (false, ())))))
                                    else
                                    (some ((), (false, ())))) else none))))))))))))))))

noncomputable def T_laws_szTripleS (N : Nat) (a1 : List (Int × Int × Int)) (left2 : Int) : Option (Unit × (Int × Unit)) :=
    (bif decide ((isub .i64 left2 (ilen a1)) < (0 : Int)) then
    (some ((), ((-1 : Int), ())))
    else
    (some ((), (isub .i64 left2 (ilen a1), ()))))

noncomputable def T_laws_szSeqReaderS (N : Nat) (a1 : List (Int × Int × (Int × Int × Int) × Int)) (left2 : Int) : Option (Unit × (Int × Unit)) :=
    (bif decide ((isub .i64 left2 (ilen a1)) < (0 : Int)) then
    (some ((), ((-1 : Int), ())))
    else
    (some ((), (isub .i64 left2 (ilen a1), ()))))

noncomputable def T_laws_szSeqReadS (N : Nat) (a1 : List (Int × Int × Int × Int × Int)) (left2 : Int) : Option (Unit × (Int × Unit)) :=
    (bif decide ((isub .i64 left2 (ilen a1)) < (0 : Int)) then
    (some ((), ((-1 : Int), ())))
    else
    (some ((), (isub .i64 left2 (ilen a1), ()))))

noncomputable def T_laws_szSeqWorld (N : Nat) (a1 : Int × (Int × Int × Int) × Int × Int × List (Int × Int × (Int × Int × Int) × Int) × List (Int × Int × Int × Int × Int)) (left2 : Int) : Option (Unit × (Int × Unit)) :=
    ((T_laws_szSeqReaderS N a1.2.2.2.2.1 left2).bind fun o3 =>
    (bif decide (o3.2.1 < (0 : Int)) then
      (some ((), ((-1 : Int), ())))
      else
      ((T_laws_szSeqReadS N a1.2.2.2.2.2 o3.2.1).bind fun o4 =>
        (bif decide (o4.2.1 < (0 : Int)) then
          (some ((), ((-1 : Int), ())))
          else
          (some ((), (o4.2.1, ())))))))

noncomputable def T_laws_toTriple (N : Nat) (a1 : Int × Int × Int) : Option (Unit × ((Int × Int × Int) × Unit)) :=
    (some ((), (a1, ())))

noncomputable def T_laws_toTripleS_lp0 {R : Type} (N : Nat) (a2 : List (Int × Int × Int)) (K0 : Int → Bool → (List (Int × Int × Int)) → Option R) : Nat → Int → (List (Int × Int × Int)) → Option R
  | 0, _, _ => none
  | n + 1, i3, l4 =>
    (bif decide (i3 < (ilen a2)) then
    (bif inb i3 (List.length a2) then
      ((T_laws_toTriple N (List.getD a2 (Int.toNat i3) ((0 : Int), ((0 : Int), (0 : Int))))).bind fun o9 =>
        (bif inb i3 (List.length l4) then
          (T_laws_toTripleS_lp0 N a2 K0 n (iadd .i64 i3 (1 : Int)) (List.set l4 (Int.toNat i3) o9.2.1)) else none)) else none)
    else
    (K0 i3 (decide (i3 < (ilen a2))) l4))

noncomputable def T_laws_toTripleS (N : Nat) (a1 : List (Int × Int × Int)) : Option (Unit × ((List (Int × Int × Int)) × Unit)) :=
    (bif ((decide ((0 : Int) ≤ (ilen a1))) && (decide ((ilen a1) ≤ (ilen a1)))) && (room (Int.toNat (ilen a1))) then
    (T_laws_toTripleS_lp0 N a1
      (fun i10 t11 l12 =>
        (some ((), (l12, ()))))
       N (0 : Int) (List.replicate (Int.toNat (ilen a1)) ((0 : Int), ((0 : Int), (0 : Int))))) else none)

noncomputable def T_laws_toSeqReader (N : Nat) (a1 : Int × Int × (Int × Int × Int) × Int) : Option (Unit × ((Int × Int × (Int × Int × Int) × Int) × Unit)) :=
    ((T_laws_toTriple N a1.2.2.1).bind fun o2 =>
    (some ((), ((a1.1, (a1.2.1, (o2.2.1, a1.2.2.2))), ()))))

noncomputable def T_laws_toSeqReaderS_lp0 {R : Type} (N : Nat) (a2 : List (Int × Int × (Int × Int × Int) × Int)) (K0 : Int → Bool → (List (Int × Int × (Int × Int × Int) × Int)) → Option R) : Nat → Int → (List (Int × Int × (Int × Int × Int) × Int)) → Option R
  | 0, _, _ => none
  | n + 1, i3, l4 =>
    (bif decide (i3 < (ilen a2)) then
    (bif inb i3 (List.length a2) then
      ((T_laws_toSeqReader N (List.getD a2 (Int.toNat i3) ((0 : Int), ((0 : Int), (((0 : Int), ((0 : Int), (0 : Int))), (0 : Int)))))).bind fun o9 =>
        (bif inb i3 (List.length l4) then
          (T_laws_toSeqReaderS_lp0 N a2 K0 n (iadd .i64 i3 (1 : Int)) (List.set l4 (Int.toNat i3) o9.2.1)) else none)) else none)
    else
    (K0 i3 (decide (i3 < (ilen a2))) l4))

noncomputable def T_laws_toSeqReaderS (N : Nat) (a1 : List (Int × Int × (Int × Int × Int) × Int)) : Option (Unit × ((List (Int × Int × (Int × Int × Int) × Int)) × Unit)) :=
    (bif ((decide ((0 : Int) ≤ (ilen a1))) && (decide ((ilen a1) ≤ (ilen a1)))) && (room (Int.toNat (ilen a1))) then
    (T_laws_toSeqReaderS_lp0 N a1
      (fun i10 t11 l12 =>
        (some ((), (l12, ()))))
       N (0 : Int) (List.replicate (Int.toNat (ilen a1)) ((0 : Int), ((0 : Int), (((0 : Int), ((0 : Int), (0 : Int))), (0 : Int)))))) else none)

noncomputable def T_laws_toSeqRead (N : Nat) (a1 : Int × Int × Int × Int × Int) : Option (Unit × ((Int × Int × Int × Int × Int) × Unit)) :=
    ((T_laws_toTriple N a1.2.2).bind fun o2 =>
    (some ((), ((a1.1, (a1.2.1, o2.2.1)), ()))))

noncomputable def T_laws_toSeqReadS_lp0 {R : Type} (N : Nat) (a2 : List (Int × Int × Int × Int × Int)) (K0 : Int → Bool → (List (Int × Int × Int × Int × Int)) → Option R) : Nat → Int → (List (Int × Int × Int × Int × Int)) → Option R
  | 0, _, _ => none
  | n + 1, i3, l4 =>
    (bif decide (i3 < (ilen a2)) then
    (bif inb i3 (List.length a2) then
      ((T_laws_toSeqRead N (List.getD a2 (Int.toNat i3) ((0 : Int), ((0 : Int), ((0 : Int), ((0 : Int), (0 : Int))))))).bind fun o9 =>
        (bif inb i3 (List.length l4) then
          (T_laws_toSeqReadS_lp0 N a2 K0 n (iadd .i64 i3 (1 : Int)) (List.set l4 (Int.toNat i3) o9.2.1)) else none)) else none)
    else
    (K0 i3 (decide (i3 < (ilen a2))) l4))

noncomputable def T_laws_toSeqReadS (N : Nat) (a1 : List (Int × Int × Int × Int × Int)) : Option (Unit × ((List (Int × Int × Int × Int × Int)) × Unit)) :=
    (bif ((decide ((0 : Int) ≤ (ilen a1))) && (decide ((ilen a1) ≤ (ilen a1)))) && (room (Int.toNat (ilen a1))) then
    (T_laws_toSeqReadS_lp0 N a1
      (fun i10 t11 l12 =>
        (some ((), (l12, ()))))
       N (0 : Int) (List.replicate (Int.toNat (ilen a1)) ((0 : Int), ((0 : Int), ((0 : Int), ((0 : Int), (0 : Int))))))) else none)

noncomputable def T_laws_toSeqWorld (N : Nat) (a1 : Int × (Int × Int × Int) × Int × Int × List (Int × Int × (Int × Int × Int) × Int) × List (Int × Int × Int × Int × Int)) : Option (Unit × ((Int × (Int × Int × Int) × Int × Int × List (Int × Int × (Int × Int × Int) × Int) × List (Int × Int × Int × Int × Int)) × Unit)) :=
    ((T_laws_toTriple N a1.2.1).bind fun o2 =>
    ((T_laws_toSeqReaderS N a1.2.2.2.2.1).bind fun o3 =>
      ((T_laws_toSeqReadS N a1.2.2.2.2.2).bind fun o4 =>
        (some ((), ((a1.1, (o2.2.1, (a1.2.2.1, (a1.2.2.2.1, (o3.2.1, o4.2.1))))), ()))))))

noncomputable def T_laws_eqTriple (N : Nat) (a1 : Int × Int × Int) (b2 : Int × Int × Int) : Option (Unit × (Bool × Unit)) :=
    (bif a1.1 != b2.1 then
    (some ((), (false, ())))
    else
    (bif a1.2.1 != b2.2.1 then
      (some ((), (false, ())))
      else
      (bif a1.2.2 != b2.2.2 then
        (some ((), (false, ())))
        else
        (some ((), (true, ()))))))

noncomputable def T_laws_eqTripleS_lp0 {R : Type} (N : Nat) (a3 : List (Int × Int × Int)) (b4 : List (Int × Int × Int)) (K0 : Option R) (K1 : Int → Bool → Option R) : Nat → Int → Option R
  | 0, _ => none
  | n + 1, i5 =>
    (bif decide (i5 < (ilen a3)) then
    (bif inb i5 (List.length a3) then
      (bif inb i5 (List.length b4) then
        ((T_laws_eqTriple N (List.getD a3 (Int.toNat i5) ((0 : Int), ((0 : Int), (0 : Int)))) (List.getD b4 (Int.toNat i5) ((0 : Int), ((0 : Int), (0 : Int))))).bind fun o9 =>
          (bif !o9.2.1 then
            K0
            else
            (T_laws_eqTripleS_lp0 N a3 b4 K0 K1 n (iadd .i64 i5 (1 : Int))))) else none) else none)
    else
    (K1 i5 (decide (i5 < (ilen a3)))))

noncomputable def T_laws_eqTripleS (N : Nat) (a1 : List (Int × Int × Int)) (b2 : List (Int × Int × Int)) : Option (Unit × (Bool × Unit)) :=
    (bif (ilen a1) != (ilen b2) then
    (some ((), (false, ())))
    else
    (T_laws_eqTripleS_lp0 N a1 b2
      (some ((), (false, ())))
      (fun i10 t11 =>
        (some ((), (true, ()))))
       N (0 : Int)))

noncomputable def T_laws_eqSeqReader (N : Nat) (a1 : Int × Int × (Int × Int × Int) × Int) (b2 : Int × Int × (Int × Int × Int) × Int) : Option (Unit × (Bool × Unit)) :=
    (bif a1.1 != b2.1 then
    (some ((), (false, ())))
    else
    (bif a1.2.1 != b2.2.1 then
      (some ((), (false, ())))
      else
      ((T_laws_eqTriple N a1.2.2.1 b2.2.2.1).bind fun o3 =>
        (bif !o3.2.1 then
          (some ((), (false, ())))
          else
          (bif a1.2.2.2 != b2.2.2.2 then
            (some ((), (false, ())))
            else
            (some ((), (true, ()))))))))

noncomputable def T_laws_eqSeqReaderS_lp0 {R : Type} (N : Nat) (a3 : List (Int × Int × (Int × Int × Int) × Int)) (b4 : List (Int × Int × (Int × Int × Int) × Int)) (K0 : Option R) (K1 : Int → Bool → Option R) : Nat → Int → Option R
  | 0, _ => none
  | n + 1, i5 =>
    (bif decide (i5 < (ilen a3)) then
    (bif inb i5 (List.length a3) then
      (bif inb i5 (List.length b4) then
        ((T_laws_eqSeqReader N (List.getD a3 (Int.toNat i5) ((0 : Int), ((0 : Int), (((0 : Int), ((0 : Int), (0 : Int))), (0 : Int))))) (List.getD b4 (Int.toNat i5) ((0 : Int), ((0 : Int), (((0 : Int), ((0 : Int), (0 : Int))), (0 : Int)))))).bind fun o9 =>
          (bif !o9.2.1 then
            K0
            else
            (T_laws_eqSeqReaderS_lp0 N a3 b4 K0 K1 n (iadd .i64 i5 (1 : Int))))) else none) else none)
    else
    (K1 i5 (decide (i5 < (ilen a3)))))

noncomputable def T_laws_eqSeqReaderS (N : Nat) (a1 : List (Int × Int × (Int × Int × Int) × Int)) (b2 : List (Int × Int × (Int × Int × Int) × Int)) : Option (Unit × (Bool × Unit)) :=
    (bif (ilen a1) != (ilen b2) then
    (some ((), (false, ())))
    else
    (T_laws_eqSeqReaderS_lp0 N a1 b2
      (some ((), (false, ())))
      (fun i10 t11 =>
        (some ((), (true, ()))))
       N (0 : Int)))

noncomputable def T_laws_eqSeqRead (N : Nat) (a1 : Int × Int × Int × Int × Int) (b2 : Int × Int × Int × Int × Int) : Option (Unit × (Bool × Unit)) :=
    (bif a1.1 != b2.1 then
    (some ((), (false, ())))
    else
    (bif a1.2.1 != b2.2.1 then
      (some ((), (false, ())))
      else
      ((T_laws_eqTriple N a1.2.2 b2.2.2).bind fun o3 =>
        (bif !o3.2.1 then
          (some ((), (false, ())))
          else
          (some ((), (true, ())))))))

noncomputable def T_laws_eqSeqReadS_lp0 {R : Type} (N : Nat) (a3 : List (Int × Int × Int × Int × Int)) (b4 : List (Int × Int × Int × Int × Int)) (K0 : Option R) (K1 : Int → Bool → Option R) : Nat → Int → Option R
  | 0, _ => none
  | n + 1, i5 =>
    (bif decide (i5 < (ilen a3)) then
    (bif inb i5 (List.length a3) then
      (bif inb i5 (List.length b4) then
        ((T_laws_eqSeqRead N (List.getD a3 (Int.toNat i5) ((0 : Int), ((0 : Int), ((0 : Int), ((0 : Int), (0 : Int)))))) (List.getD b4 (Int.toNat i5) ((0 : Int), ((0 : Int), ((0 : Int), ((0 : Int), (0 : Int))))))).bind fun o9 =>
          (bif !o9.2.1 then
            K0
            else
            (T_laws_eqSeqReadS_lp0 N a3 b4 K0 K1 n (iadd .i64 i5 (1 : Int))))) else none) else none)
    else
    (K1 i5 (decide (i5 < (ilen a3)))))

noncomputable def T_laws_eqSeqReadS (N : Nat) (a1 : List (Int × Int × Int × Int × Int)) (b2 : List (Int × Int × Int × Int × Int)) : Option (Unit × (Bool × Unit)) :=
    (bif (ilen a1) != (ilen b2) then
    (some ((), (false, ())))
    else
    (T_laws_eqSeqReadS_lp0 N a1 b2
      (some ((), (false, ())))
      (fun i10 t11 =>
        (some ((), (true, ()))))
       N (0 : Int)))

noncomputable def T_laws_eqSeqWorld (N : Nat) (a1 : Int × (Int × Int × Int) × Int × Int × List (Int × Int × (Int × Int × Int) × Int) × List (Int × Int × Int × Int × Int)) (b2 : Int × (Int × Int × Int) × Int × Int × List (Int × Int × (Int × Int × Int) × Int) × List (Int × Int × Int × Int × Int)) : Option (Unit × (Bool × Unit)) :=
    (bif a1.1 != b2.1 then
    (some ((), (false, ())))
    else
    ((T_laws_eqTriple N a1.2.1 b2.2.1).bind fun o3 =>
      (bif !o3.2.1 then
        (some ((), (false, ())))
        else
        (bif a1.2.2.1 != b2.2.2.1 then
          (some ((), (false, ())))
          else
          (bif a1.2.2.2.1 != b2.2.2.2.1 then
            (some ((), (false, ())))
            else
            ((T_laws_eqSeqReaderS N a1.2.2.2.2.1 b2.2.2.2.2.1).bind fun o4 =>
              (bif !o4.2.1 then
                (some ((), (false, ())))
                else
                ((T_laws_eqSeqReadS N a1.2.2.2.2.2 b2.2.2.2.2.2).bind fun o5 =>
                  (bif !o5.2.1 then
                    (some ((), (false, ())))
                    else
                    (some ((), (true, ()))))))))))))

noncomputable def T_laws_FnExactSeqTrue (N : Nat) (aStart1 : Int × Int × Int) (aL2 : List (Int × Int × Int)) (aW3 : Int × (Int × Int × Int) × Int × Int × List (Int × Int × (Int × Int × Int) × Int) × List (Int × Int × Int × Int × Int)) : Option (Unit × (Bool × Unit)) :=
    ((T_laws_szTripleS N aL2 (1048576 : Int)).bind fun o4 =>
    (bif decide (o4.2.1 < (0 : Int)) then
      (some ((), (true, ())))
      else
      ((T_laws_szSeqWorld N aW3 o4.2.1).bind fun o5 =>
        (bif decide (o5.2.1 < (0 : Int)) then
          (some ((), (true, ())))
          else
          ((T_laws_toTriple N aStart1).bind fun o6 =>
            ((T_laws_toTripleS N aL2).bind fun o7 =>
              ((T_laws_toSeqWorld N aW3).bind fun o8 =>
                ((T_spec_SeqTrue N o6.2.1 o7.2.1 o8.2.1).bind fun o9 =>
                  ((T_laws_toTripleS N aL2).bind fun o10 =>
                    ((T_laws_toSeqWorld N aW3).bind fun o11 =>
                      ((T_laws_toTriple N aStart1).bind fun o12 =>
                        ((T_impl_SeqTrue N o12.2.1 o10.2.1 o11.2.1).bind fun o13 =>
                          (bif !(beq o13.2.1 o9.2.1) then
                            (some ((), (false, ())))
                            else
                            ((T_laws_toTripleS N aL2).bind fun o14 =>
                              ((T_laws_eqTripleS N o10.2.1 o14.2.1).bind fun o15 =>
                                (bif !o15.2.1 then
                                  (some ((), (false, ())))
                                  else
                                  ((T_laws_toSeqWorld N aW3).bind fun o16 =>
                                    ((T_laws_eqSeqWorld N o11.2.1 o16.2.1).bind fun o17 =>
                                      (bif !o17.2.1 then
                                        (some ((), (false, ())))
                                        else
                                        (some ((), (true, ()))))))))))))))))))))))

noncomputable def T_laws_FnExactSeqValue (N : Nat) (aStart1 : Int × Int × Int) (aL2 : List (Int × Int × Int)) (aSeq3 : Int) : Option (Unit × (Bool × Unit)) :=
    ((T_laws_szTripleS N aL2 (1048576 : Int)).bind fun o4 =>
    (bif decide (o4.2.1 < (0 : Int)) then
      (some ((), (true, ())))
      else
      ((T_laws_toTriple N aStart1).bind fun o5 =>
        ((T_laws_toTripleS N aL2).bind fun o6 =>
          ((T_spec_SeqValue N o5.2.1 o6.2.1 aSeq3).bind fun o7 =>
            ((T_laws_toTripleS N aL2).bind fun o8 =>
              ((T_laws_toTriple N aStart1).bind fun o9 =>
                ((T_impl_SeqValue N o9.2.1 o8.2.1 aSeq3).bind fun o10 =>
                  ((T_laws_eqTriple N o10.2.1 o7.2.1).bind fun o11 =>
                    (bif !o11.2.1 then
                      (some ((), (false, ())))
                      else
                      (bif !(beq o10.2.2.1 o7.2.2.1) then
                        (some ((), (false, ())))
                        else
                        ((T_laws_toTripleS N aL2).bind fun o12 =>
                          ((T_laws_eqTripleS N o8.2.1 o12.2.1).bind fun o13 =>
                            (bif !o13.2.1 then
                              (some ((), (false, ())))
                              else
                              (some ((), (true, ())))))))))))))))))

noncomputable def T_laws_FnExactTriplesOk (N : Nat) (aL1 : List (Int × Int × Int)) : Option (Unit × (Bool × Unit)) :=
    ((T_laws_szTripleS N aL1 (1048576 : Int)).bind fun o2 =>
    (bif decide (o2.2.1 < (0 : Int)) then
      (some ((), (true, ())))
      else
      ((T_laws_toTripleS N aL1).bind fun o3 =>
        ((T_spec_TriplesOk N o3.2.1).bind fun o4 =>
          ((T_laws_toTripleS N aL1).bind fun o5 =>
            ((T_impl_TriplesOk N o5.2.1).bind fun o6 =>
              (bif !(beq o6.2.1 o4.2.1) then
                (some ((), (false, ())))
                else
                ((T_laws_toTripleS N aL1).bind fun o7 =>
                  ((T_laws_eqTripleS N o5.2.1 o7.2.1).bind fun o8 =>
                    (bif !o8.2.1 then
                      (some ((), (false, ())))
                      else
                      (some ((), (true, ())))))))))))))

end Go.Sx
