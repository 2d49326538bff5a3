/- What each Go function computes, as a Lean function. -/
import Derived.Test.YtlhkhldlcmoibaaM3
namespace Go.Sx
set_option linter.unusedVariables false

noncomputable def T_laws_big (N : Nat) (code1 : List Int) : Option (Unit × (Bool × Unit)) :=
    (some ((), (decide ((ilen code1) > (1048576 : Int)), ())))

noncomputable def T_spec_l1New_lp0 {R : Type} (N : Nat) (code2 : List Int) (K0 : Int → Int → Bool → Option R) : Nat → Int → Int → Option R
  | 0, _, _ => none
  | n + 1, h3, i4 =>
    (bif decide (i4 < (ilen code2)) then
    (bif decide (i4 < (4000 : Int)) then
      (bif inb i4 (List.length code2) then
        (T_spec_l1New_lp0 N code2 K0 n (iand .i64 (iadd .i64 (iadd .i64 (imul .i64 h3 (131 : Int)) (IntKind.wrap .i64 (List.getD code2 (Int.toNat i4) (0 : Int)))) (7 : Int)) (1073741823 : Int)) (iadd .i64 i4 (1 : Int))) else none)
      else
      (K0 h3 i4 (decide (i4 < (4000 : Int)))))
    else
    (K0 h3 i4 false))

noncomputable def T_spec_l1New (N : Nat) (code1 : List Int) : Option (Unit × ((List Int × Int × Int) × Unit)) :=
    (T_spec_l1New_lp0 N code1
    (fun h8 i9 t10 =>
      (some ((), ((code1, ((0 : Int), h8)), ()))))
     N (iadd .i64 (10101 : Int) (ilen code1)) (0 : Int))

noncomputable def T_spec_l1Byte (N : Nat) (c1 : List Int × Int × Int) : Option (((List Int × Int × Int) × Unit) × (Int × Unit)) :=
    (bif inn (33 : Int) then
    (bif inn (45 : Int) then
      (bif decide (c1.2.1 < (ilen c1.1)) then
        (bif inb c1.2.1 (List.length c1.1) then
          (some (((c1.1, (iadd .i64 c1.2.1 (1 : Int), iadd .i64 (imul .i64 c1.2.2 (6364136223846793005 : Int)) (1442695040888963407 : Int))), ()), (iand .i64 (iadd .i64 (iand .i64 (ixor .i64 (ishr .i64 (iadd .i64 (imul .i64 c1.2.2 (6364136223846793005 : Int)) (1442695040888963407 : Int)) (33 : Int)) (ishr .i64 (iadd .i64 (imul .i64 c1.2.2 (6364136223846793005 : Int)) (1442695040888963407 : Int)) (45 : Int))) (255 : Int)) (IntKind.wrap .i64 (List.getD c1.1 (Int.toNat c1.2.1) (0 : Int)))) (255 : Int), ()))) else none)
        else
        (some (((c1.1, (c1.2.1, iadd .i64 (imul .i64 c1.2.2 (6364136223846793005 : Int)) (1442695040888963407 : Int))), ()), (iand .i64 (ixor .i64 (ishr .i64 (iadd .i64 (imul .i64 c1.2.2 (6364136223846793005 : Int)) (1442695040888963407 : Int)) (33 : Int)) (ishr .i64 (iadd .i64 (imul .i64 c1.2.2 (6364136223846793005 : Int)) (1442695040888963407 : Int)) (45 : Int))) (255 : Int), ())))) else none) else none)

noncomputable def T_spec_l1Below (N : Nat) (c1 : List Int × Int × Int) (n2 : Int) : Option (((List Int × Int × Int) × Unit) × (Int × Unit)) :=
    (bif decide (n2 ≤ (0 : Int)) then
    (some ((c1, ()), ((0 : Int), ())))
    else
    (bif decide (n2 ≤ (256 : Int)) then
      ((T_spec_l1Byte N c1).bind fun o3 =>
        (bif inz n2 then
          (some ((o3.1.1, ()), (irem o3.2.1 n2, ()))) else none))
      else
      ((T_spec_l1Byte N c1).bind fun o4 =>
        ((T_spec_l1Byte N o4.1.1).bind fun o5 =>
          ((T_spec_l1Byte N o5.1.1).bind fun o6 =>
            ((T_spec_l1Byte N o6.1.1).bind fun o7 =>
              (bif inz n2 then
                (some ((o7.1.1, ()), (irem (iadd .i64 (iadd .i64 (iadd .i64 (imul .i64 o4.2.1 (16777216 : Int)) (imul .i64 o5.2.1 (65536 : Int))) (imul .i64 o6.2.1 (256 : Int))) o7.2.1) n2, ()))) else none)))))))

noncomputable def T_spec_l1Once (N : Nat) (c1 : List Int × Int × Int) (n2 : Int) : Option (((List Int × Int × Int) × Unit) × (Bool × Unit)) :=
    ((T_spec_l1Below N c1 n2).bind fun o3 =>
    (some ((o3.1.1, ()), (o3.2.1 == (0 : Int), ()))))

noncomputable def T_spec_l1PickInt (N : Nat) (c1 : List Int × Int × Int) (list2 : List Int) : Option (((List Int × Int × Int) × Unit) × (Int × Unit)) :=
    ((T_spec_l1Below N c1 (ilen list2)).bind fun o3 =>
    (bif inb o3.2.1 (List.length list2) then
      (some ((o3.1.1, ()), (List.getD list2 (Int.toNat o3.2.1) (0 : Int), ()))) else none))

noncomputable def T_spec_l27Num (N : Nat) (c1 : List Int × Int × Int) : Option (((List Int × Int × Int) × Unit) × (Int × Unit)) :=
    ((T_spec_l1Once N c1 (8 : Int)).bind fun o2 =>
    (bif o2.2.1 then
      ((T_spec_l1PickInt N o2.1.1 ([(-1 : Int), (9223372036854775807 : Int), (-9223372036854775808 : Int), (899 : Int), (60 : Int), (0 : Int)])).bind fun o3 =>
        (some ((o3.1.1, ()), (o3.2.1, ()))))
      else
      ((T_spec_l1Below N o2.1.1 (200 : Int)).bind fun o4 =>
        (some ((o4.1.1, ()), (o4.2.1, ()))))))

noncomputable def T_spec_l27List_lp0 {R : Type} (N : Nat) (K0 : Int → Bool → (List Int × Int × Int) → (List Int) → Option R) : Nat → Int → (List Int × Int × Int) → (List Int) → Option R
  | 0, _, _, _ => none
  | n + 1, n3, b4, l5 =>
    (bif decide (n3 > (0 : Int)) then
    ((T_spec_l27Num N b4).bind fun o11 =>
      (bif room ((List.length l5) + (List.length ([o11.2.1]))) then
        (T_spec_l27List_lp0 N K0 n (isub .i64 n3 (1 : Int)) o11.1.1 (List.append l5 ([o11.2.1]))) else none))
    else
    (K0 n3 (decide (n3 > (0 : Int))) b4 l5))

noncomputable def T_spec_l27List (N : Nat) (c1 : List Int × Int × Int) : Option (((List Int × Int × Int) × Unit) × ((List Int) × Unit)) :=
    ((T_spec_l1Below N c1 (6 : Int)).bind fun o2 =>
    (T_spec_l27List_lp0 N
      (fun n12 t13 b14 l15 =>
        (some ((b14, ()), (l15, ()))))
       N o2.2.1 o2.1.1 ([] : List Int)))

noncomputable def T_spec_DrawSigSets (N : Nat) (code1 : List Int) : Option (Unit × ((List Int) × ((List Int) × Unit))) :=
    ((T_spec_l1New N code1).bind fun o2 =>
    ((T_spec_l27List N o2.2.1).bind fun o3 =>
      ((T_spec_l27List N o3.1.1).bind fun o4 =>
        (some ((), (o3.2.1, (o4.2.1, ())))))))

noncomputable def T_impl_remainder (N : Nat) (x1 : Int) (n2 : Int) : Option (Unit × (Int × Unit)) :=
    (bif inz n2 then
    (bif inz n2 then
      (some ((), (irem (iadd .i64 (irem x1 n2) n2) n2, ()))) else none) else none)

noncomputable def T_impl_SigOne (N : Nat) (x1 : Int) : Option (Unit × (Int × Unit)) :=
    ((T_impl_remainder N x1 (29 : Int)).bind fun o2 =>
    (bif inn o2.2.1 then
      ((T_impl_remainder N x1 (31 : Int)).bind fun o3 =>
        (bif inn (iadd .i64 (29 : Int) o3.2.1) then
          (some ((), (ior .i64 (ishl .i64 (1 : Int) o2.2.1) (ishl .i64 (1 : Int) (iadd .i64 (29 : Int) o3.2.1)), ()))) else none)) else none))

noncomputable def T_impl_SigOf_lp0 {R : Type} (N : Nat) (t3 : List Int) (K0 : Int → Int → Bool → Option R) : Nat → Int → Int → Option R
  | 0, _, _ => none
  | n + 1, out2, t5 =>
    (bif decide (t5 < (ilen t3)) then
    (bif inb t5 (List.length t3) then
      ((T_impl_SigOne N (List.getD t3 (Int.toNat t5) (0 : Int))).bind fun o11 =>
        (T_impl_SigOf_lp0 N t3 K0 n (ior .i64 out2 o11.2.1) (iadd .i64 t5 (1 : Int)))) else none)
    else
    (K0 out2 t5 (decide (t5 < (ilen t3)))))

noncomputable def T_impl_SigOf (N : Nat) (l1 : List Int) : Option (Unit × (Int × Unit)) :=
    (T_impl_SigOf_lp0 N l1
    (fun out12 t13 t14 =>
      (some ((), (out12, ()))))
     N (0 : Int) (0 : Int))

noncomputable def T_impl_bits (N : Nat) (sig1 : Int) : Option (Unit × (Int × Unit)) :=
    (bif decide (sig1 < (0 : Int)) then
    (some ((), ((0 : Int), ())))
    else
    (some ((), (iand .i64 sig1 (1152921504606846975 : Int), ()))))

noncomputable def T_impl_SigHas (N : Nat) (sig1 : Int) (x2 : Int) : Option (Unit × (Bool × Unit)) :=
    ((T_impl_SigOne N x2).bind fun o3 =>
    ((T_impl_bits N sig1).bind fun o4 =>
      (some ((), ((iand .i64 o4.2.1 o3.2.1) == o3.2.1, ())))))

noncomputable def T_impl_SigSets_lp1 {R : Type} (N : Nat) (b7 : List Int) (t9 : List Int) (t10 : Int) (t11 : Int) (K0 : Option R) (K1 : Int → Bool → Option R) : Nat → Int → Option R
  | 0, _ => none
  | n + 1, t14 =>
    (bif decide (t14 < (ilen b7)) then
    (bif inb t14 (List.length b7) then
      (bif (List.getD t9 (Int.toNat t11) (0 : Int)) == (List.getD b7 (Int.toNat t14) (0 : Int)) then
        K0
        else
        (T_impl_SigSets_lp1 N b7 t9 t10 t11 K0 K1 n (iadd .i64 t14 (1 : Int)))) else none)
    else
    (K1 t14 (decide (t14 < (ilen b7)))))

noncomputable def T_impl_SigSets_lp0 {R : Type} (N : Nat) (b3 : List Int) (t4 : List Int) (K0 : Option R) (K1 : Int → Bool → Option R) : Nat → Int → Option R
  | 0, _ => none
  | n + 1, t6 =>
    (bif decide (t6 < (ilen t4)) then
    (bif inb t6 (List.length t4) then
      (T_impl_SigSets_lp1 N b3 t4 (ilen t4) t6
        K0
        (fun t23 t24 =>
          (T_impl_SigSets_lp0 N b3 t4 K0 K1 n (iadd .i64 t6 (1 : Int))))
         N (0 : Int)) else none)
    else
    (K1 t6 (decide (t6 < (ilen t4)))))

noncomputable def T_impl_SigSets (N : Nat) (a1 : List Int) (b2 : List Int) : Option (Unit × (Bool × Unit)) :=
    (T_impl_SigSets_lp0 N b2 a1
    (some ((), (true, ())))
    (fun t25 t26 =>
      (some ((), (false, ()))))
     N (0 : Int))

noncomputable def T_spec_SigSets_lp1 {R : Type} (N : Nat) (a6 : List Int) (b7 : List Int) (i8 : Int) (K0 : Option R) (K1 : Int → Bool → Option R) : Nat → Int → Option R
  | 0, _ => none
  | n + 1, k9 =>
    (bif decide (k9 < (ilen b7)) then
    (bif inb i8 (List.length a6) then
      (bif inb k9 (List.length b7) then
        (bif (List.getD a6 (Int.toNat i8) (0 : Int)) == (List.getD b7 (Int.toNat k9) (0 : Int)) then
          K0
          else
          (T_spec_SigSets_lp1 N a6 b7 i8 K0 K1 n (iadd .i64 k9 (1 : Int)))) else none) else none)
    else
    (K1 k9 (decide (k9 < (ilen b7)))))

noncomputable def T_spec_SigSets_lp0 {R : Type} (N : Nat) (a3 : List Int) (b4 : List Int) (K0 : Option R) (K1 : Int → Bool → Option R) : Nat → Int → Option R
  | 0, _ => none
  | n + 1, i5 =>
    (bif decide (i5 < (ilen a3)) then
    (T_spec_SigSets_lp1 N a3 b4 i5
      K0
      (fun k16 t17 =>
        (T_spec_SigSets_lp0 N a3 b4 K0 K1 n (iadd .i64 i5 (1 : Int))))
       N (0 : Int))
    else
    (K1 i5 (decide (i5 < (ilen a3)))))

noncomputable def T_spec_SigSets (N : Nat) (a1 : List Int) (b2 : List Int) : Option (Unit × (Bool × Unit)) :=
    (T_spec_SigSets_lp0 N a1 b2
    (some ((), (true, ())))
    (fun i18 t19 =>
      (some ((), (false, ()))))
     N (0 : Int))

noncomputable def T_impl_SigMay (N : Nat) (a1 : Int) (b2 : Int) : Option (Unit × (Bool × Unit)) :=
    ((T_impl_bits N a1).bind fun o3 =>
    ((T_impl_bits N b2).bind fun o4 =>
      (bif (iand .i64 (iand .i64 o3.2.1 o4.2.1) (536870911 : Int)) != (0 : Int) then
        (some ((), ((iandn .i64 (iand .i64 o3.2.1 o4.2.1) (536870911 : Int)) != (0 : Int), ())))
        else
        (some ((), (false, ()))))))

noncomputable def T_impl_SigCount_lp0 {R : Type} (N : Nat) (K0 : Int → Int → Bool → Option R) : Nat → Int → Int → Option R
  | 0, _, _ => none
  | n + 1, n3, x4 =>
    (bif decide (x4 > (0 : Int)) then
    (T_impl_SigCount_lp0 N K0 n (iadd .i64 n3 (1 : Int)) (iand .i64 x4 (isub .i64 x4 (1 : Int))))
    else
    (K0 n3 x4 (decide (x4 > (0 : Int)))))

noncomputable def T_impl_SigCount (N : Nat) (sig1 : Int) : Option (Unit × (Int × Unit)) :=
    ((T_impl_bits N sig1).bind fun o2 =>
    (T_impl_SigCount_lp0 N
      (fun n8 x9 t10 =>
        (some ((), (n8, ()))))
       N (0 : Int) o2.2.1))

noncomputable def T_laws_FnSigs_lp0 {R : Type} (N : Nat) (s6 : Int) (t7 : Int) (l9 : List Int) (l10 : List Int) (K0 : Option R) (K1 : Int → Bool → Option R) : Nat → Int → Option R
  | 0, _ => none
  | n + 1, i8 =>
    (bif decide (i8 < (ilen l9)) then
    (bif inb i8 (List.length l9) then
      ((T_impl_SigHas N s6 (List.getD l9 (Int.toNat i8) (0 : Int))).bind fun o16 =>
        (bif !o16.2.1 then
          K0
          else
          (bif room ((List.length ([] : List Int)) + (List.length l10)) then
            (bif room ((List.length (List.append ([] : List Int) l10)) + (List.length l9)) then
              ((T_impl_SigOf N (List.append (List.append ([] : List Int) l10) l9)).bind fun o17 =>
                (bif inb i8 (List.length l9) then
                  ((T_impl_SigHas N o17.2.1 (List.getD l9 (Int.toNat i8) (0 : Int))).bind fun o18 =>
                    (bif !o18.2.1 then
                      K0
                      else
                      (T_laws_FnSigs_lp0 N s6 t7 l9 l10 K0 K1 n (iadd .i64 i8 (1 : Int))))) else none)) else none) else none))) else none)
    else
    (K1 i8 (decide (i8 < (ilen l9)))))

noncomputable def T_laws_FnSigs (N : Nat) (code1 : List Int) : Option (Unit × (Bool × Unit)) :=
    ((T_laws_big N code1).bind fun o2 =>
    (bif o2.2.1 then
      (some ((), (true, ())))
      else
      ((T_spec_DrawSigSets N code1).bind fun o3 =>
        ((T_impl_SigOf N o3.2.1).bind fun o4 =>
          ((T_impl_SigOf N o3.2.2.1).bind fun o5 =>
            (T_laws_FnSigs_lp0 N o4.2.1 o5.2.1 o3.2.1 o3.2.2.1
              (some ((), (false, ())))
              (fun i19 t20 =>
                ((T_impl_SigSets N o3.2.1 o3.2.2.1).bind fun o21 =>
                  ((T_spec_SigSets N o3.2.1 o3.2.2.1).bind fun o22 =>
                    (bif !(beq o21.2.1 o22.2.1) then
                      (some ((), (false, ())))
                      else
                      ((T_impl_SigSets N o3.2.1 o3.2.2.1).bind fun o23 =>
                        (bif o23.2.1 then
                          ((T_impl_SigMay N o4.2.1 o5.2.1).bind fun o24 =>
                            (bif !o24.2.1 then
                              (some ((), (false, ())))
                              else
                              ((T_impl_SigMay N o4.2.1 o5.2.1).bind fun o25 =>
                                ((T_impl_SigMay N o5.2.1 o4.2.1).bind fun o26 =>
                                  (bif beq o25.2.1 o26.2.1 then
                                    ((T_impl_SigCount N o4.2.1).bind fun o27 =>
                                      (bif decide (o27.2.1 ≤ (imul .i64 (2 : Int) (ilen o3.2.1))) then
                                        ((T_impl_SigCount N o4.2.1).bind fun o28 =>
                                          (some ((), (beq ((ilen o3.2.1) == (0 : Int)) (o28.2.1 == (0 : Int)), ()))))
                                        else
                                        (some ((), (false, ())))))
                                    else
                                    (some ((), (false, ()))))))))
                          else
                          ((T_impl_SigMay N o4.2.1 o5.2.1).bind fun o29 =>
                            ((T_impl_SigMay N o5.2.1 o4.2.1).bind fun o30 =>
                              (bif beq o29.2.1 o30.2.1 then
                                ((T_impl_SigCount N o4.2.1).bind fun o31 =>
                                  (bif decide (o31.2.1 ≤ (imul .i64 (2 : Int) (ilen o3.2.1))) then
                                    ((T_impl_SigCount N o4.2.1).bind fun o32 =>
                                      (some ((), (beq ((ilen o3.2.1) == (0 : Int)) (o32.2.1 == (0 : Int)), ()))))
                                    else
                                    (some ((), (false, ())))))
                                else
                                (some ((), (false, ()))))))))))))
               N (0 : Int)))))))

noncomputable def T_spec_l27Bit_lp0 {R : Type} (N : Nat) (k2 : Int) (K0 : Int → Int → Bool → Option R) : Nat → Int → Int → Option R
  | 0, _, _ => none
  | n + 1, n3, i4 =>
    (bif decide (i4 < k2) then
    (T_spec_l27Bit_lp0 N k2 K0 n (imul .i64 n3 (2 : Int)) (iadd .i64 i4 (1 : Int)))
    else
    (K0 n3 i4 (decide (i4 < k2))))

noncomputable def T_spec_l27Bit (N : Nat) (k1 : Int) : Option (Unit × (Int × Unit)) :=
    (T_spec_l27Bit_lp0 N k1
    (fun n8 i9 t10 =>
      (some ((), (n8, ()))))
     N (1 : Int) (0 : Int))

noncomputable def T_spec_l27Has (N : Nat) (sig1 : Int) (k2 : Int) : Option (Unit × (Bool × Unit)) :=
    (bif decide (sig1 ≥ (0 : Int)) then
    ((T_spec_l27Bit N k2).bind fun o3 =>
      (bif inz o3.2.1 then
        (bif inz (2 : Int) then
          (some ((), ((irem (iquo .i64 sig1 o3.2.1) (2 : Int)) == (1 : Int), ()))) else none) else none))
    else
    (some ((), (false, ()))))

noncomputable def T_spec_SigCount_lp0 {R : Type} (N : Nat) (sig2 : Int) (K0 : Int → Int → Bool → Option R) : Nat → Int → Int → Option R
  | 0, _, _ => none
  | n + 1, n3, k4 =>
    (bif decide (k4 < (60 : Int)) then
    ((T_spec_l27Has N sig2 k4).bind fun o9 =>
      (bif o9.2.1 then
        (T_spec_SigCount_lp0 N sig2 K0 n (iadd .i64 n3 (1 : Int)) (iadd .i64 k4 (1 : Int)))
        else
        (T_spec_SigCount_lp0 N sig2 K0 n n3 (iadd .i64 k4 (1 : Int)))))
    else
    (K0 n3 k4 (decide (k4 < (60 : Int)))))

noncomputable def T_spec_SigCount (N : Nat) (sig1 : Int) : Option (Unit × (Int × Unit)) :=
    (T_spec_SigCount_lp0 N sig1
    (fun n10 k11 t12 =>
      (some ((), (n10, ()))))
     N (0 : Int) (0 : Int))

noncomputable def T_laws_FnExactSigCount (N : Nat) (aSig1 : Int) : Option (Unit × (Bool × Unit)) :=
    ((T_spec_SigCount N aSig1).bind fun o2 =>
    ((T_impl_SigCount N aSig1).bind fun o3 =>
      (bif o3.2.1 != o2.2.1 then
        (some ((), (false, ())))
        else
        (some ((), (true, ()))))))

noncomputable def T_spec_l27Mod (N : Nat) (x1 : Int) (n2 : Int) : Option (Unit × (Int × Unit)) :=
    (bif inz n2 then
    (bif inz n2 then
      (some ((), (irem (iadd .i64 (irem x1 n2) n2) n2, ()))) else none) else none)

noncomputable def T_spec_SigHas (N : Nat) (sig1 : Int) (x2 : Int) : Option (Unit × (Bool × Unit)) :=
    ((T_spec_l27Mod N x2 (29 : Int)).bind fun o3 =>
    ((T_spec_l27Has N sig1 o3.2.1).bind fun o4 =>
      (bif o4.2.1 then
        ((T_spec_l27Mod N x2 (31 : Int)).bind fun o5 =>
          ((T_spec_l27Has N sig1 (iadd .i64 (29 : Int) o5.2.1)).bind fun o6 =>
            (some ((), (o6.2.1, ())))))
        else
        (some ((), (false, ()))))))

noncomputable def T_laws_FnExactSigHas (N : Nat) (aSig1 : Int) (aX2 : Int) : Option (Unit × (Bool × Unit)) :=
    ((T_spec_SigHas N aSig1 aX2).bind fun o3 =>
    ((T_impl_SigHas N aSig1 aX2).bind fun o4 =>
      (bif !(beq o4.2.1 o3.2.1) then
        (some ((), (false, ())))
        else
        (some ((), (true, ()))))))

noncomputable def T_spec_SigMay_lp0 {R : Type} (N : Nat) (a3 : Int) (b4 : Int) (K0 : Bool → Bool → Int → Bool → Option R) : Nat → Bool → Bool → Int → Option R
  | 0, _, _, _ => none
  | n + 1, low5, high6, k7 =>
    (bif decide (k7 < (60 : Int)) then
    ((T_spec_l27Has N a3 k7).bind fun o14 =>
      (bif o14.2.1 then
        ((T_spec_l27Has N b4 k7).bind fun o15 =>
          (bif low5 then
            (bif high6 then
              (T_spec_SigMay_lp0 N a3 b4 K0 n true true (iadd .i64 k7 (1 : Int)))
              else
              (bif o15.2.1 then
                (T_spec_SigMay_lp0 N a3 b4 K0 n true (decide (k7 ≥ (29 : Int))) (iadd .i64 k7 (1 : Int)))
                else
                (T_spec_SigMay_lp0 N a3 b4 K0 n true false (iadd .i64 k7 (1 : Int)))))
            else
            (bif o15.2.1 then
              (bif high6 then
                (T_spec_SigMay_lp0 N a3 b4 K0 n (decide (k7 < (29 : Int))) true (iadd .i64 k7 (1 : Int)))
                else
                (bif o15.2.1 then
                  (T_spec_SigMay_lp0 N a3 b4 K0 n (decide (k7 < (29 : Int))) (decide (k7 ≥ (29 : Int))) (iadd .i64 k7 (1 : Int)))
                  else
                  (T_spec_SigMay_lp0 N a3 b4 K0 n (decide (k7 < (29 : Int))) false (iadd .i64 k7 (1 : Int)))))
              else
              (bif high6 then
                (T_spec_SigMay_lp0 N a3 b4 K0 n false true (iadd .i64 k7 (1 : Int)))
                else
                (bif o15.2.1 then
                  (T_spec_SigMay_lp0 N a3 b4 K0 n false (decide (k7 ≥ (29 : Int))) (iadd .i64 k7 (1 : Int)))
                  else
                  (T_spec_SigMay_lp0 N a3 b4 K0 n false false (iadd .i64 k7 (1 : Int))))))))
        else
        (bif low5 then
          (bif high6 then
            (T_spec_SigMay_lp0 N a3 b4 K0 n true true (iadd .i64 k7 (1 : Int)))
            else
            (T_spec_SigMay_lp0 N a3 b4 K0 n true false (iadd .i64 k7 (1 : Int))))
          else
          (bif high6 then
            (T_spec_SigMay_lp0 N a3 b4 K0 n false true (iadd .i64 k7 (1 : Int)))
            else
            (T_spec_SigMay_lp0 N a3 b4 K0 n false false (iadd .i64 k7 (1 : Int)))))))
    else
    (K0 low5 high6 k7 (decide (k7 < (60 : Int)))))

noncomputable def T_spec_SigMay (N : Nat) (a1 : Int) (b2 : Int) : Option (Unit × (Bool × Unit)) :=
    (T_spec_SigMay_lp0 N a1 b2
    (fun low16 high17 k18 t19 =>
      (bif low16 then
        (some ((), (high17, ())))
        else
        (some ((), (false, ())))))
     N false false (0 : Int))

noncomputable def T_laws_FnExactSigMay (N : Nat) (aA1 : Int) (aB2 : Int) : Option (Unit × (Bool × Unit)) :=
    ((T_spec_SigMay N aA1 aB2).bind fun o3 =>
    ((T_impl_SigMay N aA1 aB2).bind fun o4 =>
      (bif !(beq o4.2.1 o3.2.1) then
        (some ((), (false, ())))
        else
        (some ((), (true, ()))))))

noncomputable def T_laws_toIntS_lp0 {R : Type} (N : Nat) (a2 : List Int) (K0 : Int → Bool → (List Int) → Option R) : Nat → Int → (List Int) → Option R
  | 0, _, _ => none
  | n + 1, i3, l4 =>
    (bif decide (i3 < (ilen a2)) then
    (bif inb i3 (List.length a2) then
      (bif inb i3 (List.length l4) then
        (T_laws_toIntS_lp0 N a2 K0 n (iadd .i64 i3 (1 : Int)) (List.set l4 (Int.toNat i3) (List.getD a2 (Int.toNat i3) (0 : Int)))) else none) else none)
    else
    (K0 i3 (decide (i3 < (ilen a2))) l4))

noncomputable def T_laws_toIntS (N : Nat) (a1 : List Int) : Option (Unit × ((List Int) × Unit)) :=
    (bif ((decide ((0 : Int) ≤ (ilen a1))) && (decide ((ilen a1) ≤ (ilen a1)))) && (room (Int.toNat (ilen a1))) then
    (T_laws_toIntS_lp0 N a1
      (fun i8 t9 l10 =>
        (some ((), (l10, ()))))
       N (0 : Int) (List.replicate (Int.toNat (ilen a1)) (0 : Int))) else none)

noncomputable def T_spec_SigOne (N : Nat) (x1 : Int) : Option (Unit × (Int × Unit)) :=
    ((T_spec_l27Mod N x1 (29 : Int)).bind fun o2 =>
    ((T_spec_l27Bit N o2.2.1).bind fun o3 =>
      ((T_spec_l27Mod N x1 (31 : Int)).bind fun o4 =>
        ((T_spec_l27Bit N (iadd .i64 (29 : Int) o4.2.1)).bind fun o5 =>
          (some ((), (iadd .i64 o3.2.1 o5.2.1, ())))))))

noncomputable def T_spec_SigOf_lp1 {R : Type} (N : Nat) (l5 : List Int) (k7 : Int) (K0 : Int → Int → Bool → Option R) : Nat → Int → Int → Option R
  | 0, _, _ => none
  | n + 1, out6, i8 =>
    (bif decide (i8 < (ilen l5)) then
    (bif inb i8 (List.length l5) then
      ((T_spec_SigOne N (List.getD l5 (Int.toNat i8) (0 : Int))).bind fun o16 =>
        ((T_spec_l27Has N o16.2.1 k7).bind fun o17 =>
          (bif o17.2.1 then
            ((T_spec_l27Has N out6 k7).bind fun o18 =>
              (bif !o18.2.1 then
                ((T_spec_l27Bit N k7).bind fun o19 =>
                  (T_spec_SigOf_lp1 N l5 k7 K0 n (iadd .i64 out6 o19.2.1) (iadd .i64 i8 (1 : Int))))
                else
                (T_spec_SigOf_lp1 N l5 k7 K0 n out6 (iadd .i64 i8 (1 : Int)))))
            else
            (T_spec_SigOf_lp1 N l5 k7 K0 n out6 (iadd .i64 i8 (1 : Int)))))) else none)
    else
    (K0 out6 i8 (decide (i8 < (ilen l5)))))

noncomputable def T_spec_SigOf_lp0 {R : Type} (N : Nat) (l2 : List Int) (K0 : Int → Int → Bool → Option R) : Nat → Int → Int → Option R
  | 0, _, _ => none
  | n + 1, out3, k4 =>
    (bif decide (k4 < (60 : Int)) then
    (T_spec_SigOf_lp1 N l2 k4
      (fun out26 i27 t28 =>
        (T_spec_SigOf_lp0 N l2 K0 n out26 (iadd .i64 k4 (1 : Int))))
       N out3 (0 : Int))
    else
    (K0 out3 k4 (decide (k4 < (60 : Int)))))

noncomputable def T_spec_SigOf (N : Nat) (l1 : List Int) : Option (Unit × (Int × Unit)) :=
    (T_spec_SigOf_lp0 N l1
    (fun out29 k30 t31 =>
      (some ((), (out29, ()))))
     N (0 : Int) (0 : Int))

noncomputable def T_laws_eqIntS_lp0 {R : Type} (N : Nat) (a3 : List Int) (b4 : List Int) (K0 : Option R) (K1 : Int → Bool → Option R) : Nat → Int → Option R
  | 0, _ => none
  | n + 1, i5 =>
    (bif decide (i5 < (ilen a3)) then
    (bif inb i5 (List.length a3) then
      (bif inb i5 (List.length b4) then
        (bif (List.getD a3 (Int.toNat i5) (0 : Int)) != (List.getD b4 (Int.toNat i5) (0 : Int)) then
          K0
          else
          (T_laws_eqIntS_lp0 N a3 b4 K0 K1 n (iadd .i64 i5 (1 : Int)))) else none) else none)
    else
    (K1 i5 (decide (i5 < (ilen a3)))))

noncomputable def T_laws_eqIntS (N : Nat) (a1 : List Int) (b2 : List Int) : Option (Unit × (Bool × Unit)) :=
    (bif (ilen a1) != (ilen b2) then
    (some ((), (false, ())))
    else
    (T_laws_eqIntS_lp0 N a1 b2
      (some ((), (false, ())))
      (fun i8 t9 =>
        (some ((), (true, ()))))
       N (0 : Int)))

noncomputable def T_laws_FnExactSigOf (N : Nat) (aL1 : List Int) : Option (Unit × (Bool × Unit)) :=
    (bif decide ((ilen aL1) > (1048576 : Int)) then
    (some ((), (true, ())))
    else
    ((T_laws_toIntS N aL1).bind fun o2 =>
      ((T_spec_SigOf N o2.2.1).bind fun o3 =>
        ((T_laws_toIntS N aL1).bind fun o4 =>
          ((T_impl_SigOf N o4.2.1).bind fun o5 =>
            (bif o5.2.1 != o3.2.1 then
              (some ((), (false, ())))
              else
              ((T_laws_toIntS N aL1).bind fun o6 =>
                ((T_laws_eqIntS N o4.2.1 o6.2.1).bind fun o7 =>
                  (bif !o7.2.1 then
                    (some ((), (false, ())))
                    else
                    (some ((), (true, ()))))))))))))

noncomputable def T_laws_FnExactSigOne (N : Nat) (aX1 : Int) : Option (Unit × (Bool × Unit)) :=
    ((T_spec_SigOne N aX1).bind fun o2 =>
    ((T_impl_SigOne N aX1).bind fun o3 =>
      (bif o3.2.1 != o2.2.1 then
        (some ((), (false, ())))
        else
        (some ((), (true, ()))))))

noncomputable def T_laws_FnExactSigSets (N : Nat) (aA1 : List Int) (aB2 : List Int) : Option (Unit × (Bool × Unit)) :=
    (bif decide ((ilen aA1) > (1048576 : Int)) then
    (some ((), (true, ())))
    else
    (bif decide ((ilen aB2) > (1048576 : Int)) then
      (some ((), (true, ())))
      else
      ((T_laws_toIntS N aA1).bind fun o3 =>
        ((T_laws_toIntS N aB2).bind fun o4 =>
          ((T_spec_SigSets N o3.2.1 o4.2.1).bind fun o5 =>
            ((T_laws_toIntS N aA1).bind fun o6 =>
              ((T_laws_toIntS N aB2).bind fun o7 =>
                ((T_impl_SigSets N o6.2.1 o7.2.1).bind fun o8 =>
                  (bif !(beq o8.2.1 o5.2.1) then
                    (some ((), (false, ())))
                    else
                    ((T_laws_toIntS N aA1).bind fun o9 =>
                      ((T_laws_eqIntS N o6.2.1 o9.2.1).bind fun o10 =>
                        (bif !o10.2.1 then
                          (some ((), (false, ())))
                          else
                          ((T_laws_toIntS N aB2).bind fun o11 =>
                            ((T_laws_eqIntS N o7.2.1 o11.2.1).bind fun o12 =>
                              (bif !o12.2.1 then
                                (some ((), (false, ())))
                                else
                                (some ((), (true, ()))))))))))))))))))

end Go.Sx
