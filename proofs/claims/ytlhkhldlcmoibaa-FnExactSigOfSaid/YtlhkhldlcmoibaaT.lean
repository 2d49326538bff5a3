/- What each Go function computes, as a Lean function. -/
import Derived.Test.YtlhkhldlcmoibaaM2
namespace Go.Sx
set_option linter.unusedVariables false

def T_laws_toIntS_lp0 {R : Type} (N : Nat) (a2 : List Int) (K0 : Int → Bool → (List Int) → Option R) : Nat → Int → (List Int) → Option R
  | 0, _, _ => none
  | n + 1, i3, l4 =>
    (bif decide (i3 < (ilen a2)) then
    (bif inb i3 (List.length a2) then
      (bif inb i3 (List.length l4) then
        (T_laws_toIntS_lp0 N a2 K0 n (iadd .i64 i3 (1 : Int)) (List.set l4 (Int.toNat i3) (List.getD a2 (Int.toNat i3) (0 : Int)))) else none) else none)
    else
    (K0 i3 (decide (i3 < (ilen a2))) l4))

def T_laws_toIntS (N : Nat) (a1 : List Int) : Option (Unit × ((List Int) × Unit)) :=
    (bif ((decide ((0 : Int) ≤ (ilen a1))) && (decide ((ilen a1) ≤ (ilen a1)))) && (room (Int.toNat (ilen a1))) then
    (T_laws_toIntS_lp0 N a1
      (fun i8 t9 l10 =>
        (some ((), (l10, ()))))
       N (0 : Int) (List.replicate (Int.toNat (ilen a1)) (0 : Int))) else none)

def T_laws_eqIntS_lp0 {R : Type} (N : Nat) (a3 : List Int) (b4 : List Int) (K0 : Option R) (K1 : Int → Bool → Option R) : Nat → Int → Option R
  | 0, _ => none
  | n + 1, i5 =>
    (bif decide (i5 < (ilen a3)) then
    (bif inb i5 (List.length a3) then
      (bif inb i5 (List.length b4) then
        (bif (List.getD a3 (Int.toNat i5) (0 : Int)) != (List.getD b4 (Int.toNat i5) (0 : Int)) then
          K0
          else
          (T_laws_eqIntS_lp0 N a3 b4 K0 K1 n (iadd .i64 i5 (1 : Int)))) else none) else none)
    else
    (K1 i5 (decide (i5 < (ilen a3)))))

def T_laws_eqIntS (N : Nat) (a1 : List Int) (b2 : List Int) : Option (Unit × (Bool × Unit)) :=
    (bif (ilen a1) != (ilen b2) then
    (some ((), (false, ())))
    else
    (T_laws_eqIntS_lp0 N a1 b2
      (some ((), (false, ())))
      (fun i8 t9 =>
        (some ((), (true, ()))))
       N (0 : Int)))

def T_spec_l27Bit_lp0 {R : Type} (N : Nat) (k2 : Int) (K0 : Int → Int → Bool → Option R) : Nat → Int → Int → Option R
  | 0, _, _ => none
  | n + 1, n3, i4 =>
    (bif decide (i4 < k2) then
    (T_spec_l27Bit_lp0 N k2 K0 n (imul .i64 n3 (2 : Int)) (iadd .i64 i4 (1 : Int)))
    else
    (K0 n3 i4 (decide (i4 < k2))))

def T_spec_l27Bit (N : Nat) (k1 : Int) : Option (Unit × (Int × Unit)) :=
    (T_spec_l27Bit_lp0 N k1
    (fun n8 i9 t10 =>
      (some ((), (n8, ()))))
     N (1 : Int) (0 : Int))

def T_spec_l27Mod (N : Nat) (x1 : Int) (n2 : Int) : Option (Unit × (Int × Unit)) :=
    (bif inz n2 then
    (bif inz n2 then
      (some ((), (irem (iadd .i64 (irem x1 n2) n2) n2, ()))) else none) else none)

def T_spec_SigOne (N : Nat) (x1 : Int) : Option (Unit × (Int × Unit)) :=
    ((T_spec_l27Mod N x1 (29 : Int)).bind fun o2 =>
    ((T_spec_l27Bit N o2.2.1).bind fun o3 =>
      ((T_spec_l27Mod N x1 (31 : Int)).bind fun o4 =>
        ((T_spec_l27Bit N (iadd .i64 (29 : Int) o4.2.1)).bind fun o5 =>
          (some ((), (iadd .i64 o3.2.1 o5.2.1, ())))))))

def T_spec_l27Has (N : Nat) (sig1 : Int) (k2 : Int) : Option (Unit × (Bool × Unit)) :=
    (bif decide (sig1 ≥ (0 : Int)) then
    ((T_spec_l27Bit N k2).bind fun o3 =>
      (bif inz o3.2.1 then
        (bif inz (2 : Int) then
          (some ((), ((irem (iquo .i64 sig1 o3.2.1) (2 : Int)) == (1 : Int), ()))) else none) else none))
    else
    (some ((), (false, ()))))

def T_spec_SigOf_lp1 {R : Type} (N : Nat) (l5 : List Int) (k7 : Int) (K0 : Int → Int → Bool → Option R) : Nat → Int → Int → Option R
  | 0, _, _ => none
  | n + 1, out6, i8 =>
    (bif decide (i8 < (ilen l5)) then
    (bif inb i8 (List.length l5) then
      ((T_spec_SigOne N (List.getD l5 (Int.toNat i8) (0 : Int))).bind fun o16 =>
        ((T_spec_l27Has N o16.2.1 k7).bind fun o17 =>
          (bif o17.2.1 then
            ((T_spec_l27Has N out6 k7).bind fun o18 =>
              (bif !o18.2.1 then
                ((T_spec_l27Bit N k7).bind fun o19 =>
                  (T_spec_SigOf_lp1 N l5 k7 K0 n (iadd .i64 out6 o19.2.1) (iadd .i64 i8 (1 : Int))))
                else
                (T_spec_SigOf_lp1 N l5 k7 K0 n out6 (iadd .i64 i8 (1 : Int)))))
            else
            (T_spec_SigOf_lp1 N l5 k7 K0 n out6 (iadd .i64 i8 (1 : Int)))))) else none)
    else
    (K0 out6 i8 (decide (i8 < (ilen l5)))))

def T_spec_SigOf_lp0 {R : Type} (N : Nat) (l2 : List Int) (K0 : Int → Int → Bool → Option R) : Nat → Int → Int → Option R
  | 0, _, _ => none
  | n + 1, out3, k4 =>
    (bif decide (k4 < (60 : Int)) then
    (T_spec_SigOf_lp1 N l2 k4
      (fun out26 i27 t28 =>
        (T_spec_SigOf_lp0 N l2 K0 n out26 (iadd .i64 k4 (1 : Int))))
       N out3 (0 : Int))
    else
    (K0 out3 k4 (decide (k4 < (60 : Int)))))

def T_spec_SigOf (N : Nat) (l1 : List Int) : Option (Unit × (Int × Unit)) :=
    (T_spec_SigOf_lp0 N l1
    (fun out29 k30 t31 =>
      (some ((), (out29, ()))))
     N (0 : Int) (0 : Int))

def T_impl_remainder (N : Nat) (x1 : Int) (n2 : Int) : Option (Unit × (Int × Unit)) :=
    (bif inz n2 then
    (bif inz n2 then
      (some ((), (irem (iadd .i64 (irem x1 n2) n2) n2, ()))) else none) else none)

def T_impl_SigOne (N : Nat) (x1 : Int) : Option (Unit × (Int × Unit)) :=
    ((T_impl_remainder N x1 (29 : Int)).bind fun o2 =>
    (bif inn o2.2.1 then
      ((T_impl_remainder N x1 (31 : Int)).bind fun o3 =>
        (bif inn (iadd .i64 (29 : Int) o3.2.1) then
          (some ((), (ior .i64 (ishl .i64 (1 : Int) o2.2.1) (ishl .i64 (1 : Int) (iadd .i64 (29 : Int) o3.2.1)), ()))) else none)) else none))

def T_impl_SigOf_lp0 {R : Type} (N : Nat) (t3 : List Int) (K0 : Int → Int → Bool → Option R) : Nat → Int → Int → Option R
  | 0, _, _ => none
  | n + 1, out2, t5 =>
    (bif decide (t5 < (ilen t3)) then
    (bif inb t5 (List.length t3) then
      ((T_impl_SigOne N (List.getD t3 (Int.toNat t5) (0 : Int))).bind fun o11 =>
        (T_impl_SigOf_lp0 N t3 K0 n (ior .i64 out2 o11.2.1) (iadd .i64 t5 (1 : Int)))) else none)
    else
    (K0 out2 t5 (decide (t5 < (ilen t3)))))

def T_impl_SigOf (N : Nat) (l1 : List Int) : Option (Unit × (Int × Unit)) :=
    (T_impl_SigOf_lp0 N l1
    (fun out12 t13 t14 =>
      (some ((), (out12, ()))))
     N (0 : Int) (0 : Int))

def T_laws_FnExactSigOf (N : Nat) (aL1 : List Int) : Option (Unit × (Bool × Unit)) :=
    (bif decide ((ilen aL1) > (1048576 : Int)) then
    (some ((), (true, ())))
    else
    ((T_laws_toIntS N aL1).bind fun o2 =>
      ((T_spec_SigOf N o2.2.1).bind fun o3 =>
        ((T_laws_toIntS N aL1).bind fun o4 =>
          ((T_impl_SigOf N o4.2.1).bind fun o5 =>
            (bif o5.2.1 != o3.2.1 then
              (some ((), (false, ())))
              else
              ((T_laws_toIntS N aL1).bind fun o6 =>
                ((T_laws_eqIntS N o4.2.1 o6.2.1).bind fun o7 =>
                  (bif !o7.2.1 then
                    (some ((), (false, ())))
                    else
                    (some ((), (true, ()))))))))))))

def T_spec_SigHas (N : Nat) (sig1 : Int) (x2 : Int) : Option (Unit × (Bool × Unit)) :=
    ((T_spec_l27Mod N x2 (29 : Int)).bind fun o3 =>
    ((T_spec_l27Has N sig1 o3.2.1).bind fun o4 =>
      (bif o4.2.1 then
        ((T_spec_l27Mod N x2 (31 : Int)).bind fun o5 =>
          ((T_spec_l27Has N sig1 (iadd .i64 (29 : Int) o5.2.1)).bind fun o6 =>
            (some ((), (o6.2.1, ())))))
        else
        (some ((), (false, ()))))))

def T_impl_bits (N : Nat) (sig1 : Int) : Option (Unit × (Int × Unit)) :=
    (bif decide (sig1 < (0 : Int)) then
    (some ((), ((0 : Int), ())))
    else
    (some ((), (iand .i64 sig1 (1152921504606846975 : Int), ()))))

def T_impl_SigHas (N : Nat) (sig1 : Int) (x2 : Int) : Option (Unit × (Bool × Unit)) :=
    ((T_impl_SigOne N x2).bind fun o3 =>
    ((T_impl_bits N sig1).bind fun o4 =>
      (some ((), ((iand .i64 o4.2.1 o3.2.1) == o3.2.1, ())))))

def T_laws_FnExactSigHas (N : Nat) (aSig1 : Int) (aX2 : Int) : Option (Unit × (Bool × Unit)) :=
    ((T_spec_SigHas N aSig1 aX2).bind fun o3 =>
    ((T_impl_SigHas N aSig1 aX2).bind fun o4 =>
      (bif !(beq o4.2.1 o3.2.1) then
        (some ((), (false, ())))
        else
        (some ((), (true, ()))))))

def T_laws_FnExactSigOne (N : Nat) (aX1 : Int) : Option (Unit × (Bool × Unit)) :=
    ((T_spec_SigOne N aX1).bind fun o2 =>
    ((T_impl_SigOne N aX1).bind fun o3 =>
      (bif o3.2.1 != o2.2.1 then
        (some ((), (false, ())))
        else
        (some ((), (true, ()))))))

def T_spec_SigSets_lp1 {R : Type} (N : Nat) (a6 : List Int) (b7 : List Int) (i8 : Int) (K0 : Option R) (K1 : Int → Bool → Option R) : Nat → Int → Option R
  | 0, _ => none
  | n + 1, k9 =>
    (bif decide (k9 < (ilen b7)) then
    (bif inb i8 (List.length a6) then
      (bif inb k9 (List.length b7) then
        (bif (List.getD a6 (Int.toNat i8) (0 : Int)) == (List.getD b7 (Int.toNat k9) (0 : Int)) then
          K0
          else
          (T_spec_SigSets_lp1 N a6 b7 i8 K0 K1 n (iadd .i64 k9 (1 : Int)))) else none) else none)
    else
    (K1 k9 (decide (k9 < (ilen b7)))))

def T_spec_SigSets_lp0 {R : Type} (N : Nat) (a3 : List Int) (b4 : List Int) (K0 : Option R) (K1 : Int → Bool → Option R) : Nat → Int → Option R
  | 0, _ => none
  | n + 1, i5 =>
    (bif decide (i5 < (ilen a3)) then
    (T_spec_SigSets_lp1 N a3 b4 i5
      K0
      (fun k16 t17 =>
        (T_spec_SigSets_lp0 N a3 b4 K0 K1 n (iadd .i64 i5 (1 : Int))))
       N (0 : Int))
    else
    (K1 i5 (decide (i5 < (ilen a3)))))

def T_spec_SigSets (N : Nat) (a1 : List Int) (b2 : List Int) : Option (Unit × (Bool × Unit)) :=
    (T_spec_SigSets_lp0 N a1 b2
    (some ((), (true, ())))
    (fun i18 t19 =>
      (some ((), (false, ()))))
     N (0 : Int))

def T_impl_SigSets_lp1 {R : Type} (N : Nat) (b7 : List Int) (t9 : List Int) (t10 : Int) (t11 : Int) (K0 : Option R) (K1 : Int → Bool → Option R) : Nat → Int → Option R
  | 0, _ => none
  | n + 1, t14 =>
    (bif decide (t14 < (ilen b7)) then
    (bif inb t14 (List.length b7) then
      (bif (List.getD t9 (Int.toNat t11) (0 : Int)) == (List.getD b7 (Int.toNat t14) (0 : Int)) then
        K0
        else
        (T_impl_SigSets_lp1 N b7 t9 t10 t11 K0 K1 n (iadd .i64 t14 (1 : Int)))) else none)
    else
    (K1 t14 (decide (t14 < (ilen b7)))))

def T_impl_SigSets_lp0 {R : Type} (N : Nat) (b3 : List Int) (t4 : List Int) (K0 : Option R) (K1 : Int → Bool → Option R) : Nat → Int → Option R
  | 0, _ => none
  | n + 1, t6 =>
    (bif decide (t6 < (ilen t4)) then
    (bif inb t6 (List.length t4) then
      (T_impl_SigSets_lp1 N b3 t4 (ilen t4) t6
        K0
        (fun t23 t24 =>
          (T_impl_SigSets_lp0 N b3 t4 K0 K1 n (iadd .i64 t6 (1 : Int))))
         N (0 : Int)) else none)
    else
    (K1 t6 (decide (t6 < (ilen t4)))))

def T_impl_SigSets (N : Nat) (a1 : List Int) (b2 : List Int) : Option (Unit × (Bool × Unit)) :=
    (T_impl_SigSets_lp0 N b2 a1
    (some ((), (true, ())))
    (fun t25 t26 =>
      (some ((), (false, ()))))
     N (0 : Int))

def T_laws_FnExactSigSets (N : Nat) (aA1 : List Int) (aB2 : List Int) : Option (Unit × (Bool × Unit)) :=
    (bif decide ((ilen aA1) > (1048576 : Int)) then
    (some ((), (true, ())))
    else
    (bif decide ((ilen aB2) > (1048576 : Int)) then
      (some ((), (true, ())))
      else
      ((T_laws_toIntS N aA1).bind fun o3 =>
        ((T_laws_toIntS N aB2).bind fun o4 =>
          ((T_spec_SigSets N o3.2.1 o4.2.1).bind fun o5 =>
            ((T_laws_toIntS N aA1).bind fun o6 =>
              ((T_laws_toIntS N aB2).bind fun o7 =>
                ((T_impl_SigSets N o6.2.1 o7.2.1).bind fun o8 =>
                  (bif !(beq o8.2.1 o5.2.1) then
                    (some ((), (false, ())))
                    else
                    ((T_laws_toIntS N aA1).bind fun o9 =>
                      ((T_laws_eqIntS N o6.2.1 o9.2.1).bind fun o10 =>
                        (bif !o10.2.1 then
                          (some ((), (false, ())))
                          else
                          ((T_laws_toIntS N aB2).bind fun o11 =>
                            ((T_laws_eqIntS N o7.2.1 o11.2.1).bind fun o12 =>
                              (bif !o12.2.1 then
                                (some ((), (false, ())))
                                else
                                (some ((), (true, ()))))))))))))))))))

end Go.Sx
