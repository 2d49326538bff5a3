/- What each Go function computes, as a Lean function. -/
import Derived.Test.YtmfipnendomkiaaM2
namespace Go.Sx
set_option linter.unusedVariables false

def T_spec_l27Bit_lp0 {R : Type} (N : Nat) (k2 : Int) (K0 : Int → Int → Bool → Option R) : Nat → Int → Int → Option R
  | 0, _, _ => none
  | n + 1, n3, i4 =>
    (bif decide (i4 < k2) then
    (T_spec_l27Bit_lp0 N k2 K0 n (imul .i64 n3 (2 : Int)) (iadd .i64 i4 (1 : Int)))
    else
    (K0 n3 i4 (decide (i4 < k2))))

def T_spec_l27Bit (N : Nat) (k1 : Int) : Option (Unit × (Int × Unit)) :=
    (T_spec_l27Bit_lp0 N k1
    (fun n8 i9 t10 =>
      (some ((), (n8, ()))))
     N (1 : Int) (0 : Int))

def T_spec_l27Has (N : Nat) (sig1 : Int) (k2 : Int) : Option (Unit × (Bool × Unit)) :=
    (bif decide (sig1 ≥ (0 : Int)) then
    ((T_spec_l27Bit N k2).bind fun o3 =>
      (bif inz o3.2.1 then
        (bif inz (2 : Int) then
          (some ((), ((irem (iquo .i64 sig1 o3.2.1) (2 : Int)) == (1 : Int), ()))) else none) else none))
    else
    (some ((), (false, ()))))

def T_spec_SigCount_lp0 {R : Type} (N : Nat) (sig2 : Int) (K0 : Int → Int → Bool → Option R) : Nat → Int → Int → Option R
  | 0, _, _ => none
  | n + 1, n3, k4 =>
    (bif decide (k4 < (60 : Int)) then
    ((T_spec_l27Has N sig2 k4).bind fun o9 =>
      (bif o9.2.1 then
        (T_spec_SigCount_lp0 N sig2 K0 n (iadd .i64 n3 (1 : Int)) (iadd .i64 k4 (1 : Int)))
        else
        (T_spec_SigCount_lp0 N sig2 K0 n n3 (iadd .i64 k4 (1 : Int)))))
    else
    (K0 n3 k4 (decide (k4 < (60 : Int)))))

def T_spec_SigCount (N : Nat) (sig1 : Int) : Option (Unit × (Int × Unit)) :=
    (T_spec_SigCount_lp0 N sig1
    (fun n10 k11 t12 =>
      (some ((), (n10, ()))))
     N (0 : Int) (0 : Int))

def T_impl_bits (N : Nat) (sig1 : Int) : Option (Unit × (Int × Unit)) :=
    (bif decide (sig1 < (0 : Int)) then
    (some ((), ((0 : Int), ())))
    else
    (some ((), (iand .i64 sig1 (1152921504606846975 : Int), ()))))

def T_impl_SigCount_lp0 {R : Type} (N : Nat) (K0 : Int → Int → Bool → Option R) : Nat → Int → Int → Option R
  | 0, _, _ => none
  | n + 1, n3, x4 =>
    (bif decide (x4 > (0 : Int)) then
    (T_impl_SigCount_lp0 N K0 n (iadd .i64 n3 (1 : Int)) (iand .i64 x4 (isub .i64 x4 (1 : Int))))
    else
    (K0 n3 x4 (decide (x4 > (0 : Int)))))

def T_impl_SigCount (N : Nat) (sig1 : Int) : Option (Unit × (Int × Unit)) :=
    ((T_impl_bits N sig1).bind fun o2 =>
    (T_impl_SigCount_lp0 N
      (fun n8 x9 t10 =>
        (some ((), (n8, ()))))
       N (0 : Int) o2.2.1))

def T_laws_FnExactSigCount (N : Nat) (aSig1 : Int) : Option (Unit × (Bool × Unit)) :=
    ((T_spec_SigCount N aSig1).bind fun o2 =>
    ((T_impl_SigCount N aSig1).bind fun o3 =>
      (bif o3.2.1 != o2.2.1 then
        (some ((), (false, ())))
        else
        (some ((), (true, ()))))))

def T_spec_l27Mod (N : Nat) (x1 : Int) (n2 : Int) : Option (Unit × (Int × Unit)) :=
    (bif inz n2 then
    (bif inz n2 then
      (some ((), (irem (iadd .i64 (irem x1 n2) n2) n2, ()))) else none) else none)

def T_spec_SigHas (N : Nat) (sig1 : Int) (x2 : Int) : Option (Unit × (Bool × Unit)) :=
    ((T_spec_l27Mod N x2 (29 : Int)).bind fun o3 =>
    ((T_spec_l27Has N sig1 o3.2.1).bind fun o4 =>
      (bif o4.2.1 then
        ((T_spec_l27Mod N x2 (31 : Int)).bind fun o5 =>
          ((T_spec_l27Has N sig1 (iadd .i64 (29 : Int) o5.2.1)).bind fun o6 =>
            (some ((), (o6.2.1, ())))))
        else
        (some ((), (false, ()))))))

def T_impl_remainder (N : Nat) (x1 : Int) (n2 : Int) : Option (Unit × (Int × Unit)) :=
    (bif inz n2 then
    (bif inz n2 then
      (some ((), (irem (iadd .i64 (irem x1 n2) n2) n2, ()))) else none) else none)

def T_impl_SigOne (N : Nat) (x1 : Int) : Option (Unit × (Int × Unit)) :=
    ((T_impl_remainder N x1 (29 : Int)).bind fun o2 =>
    (bif inn o2.2.1 then
      ((T_impl_remainder N x1 (31 : Int)).bind fun o3 =>
        (bif inn (iadd .i64 (29 : Int) o3.2.1) then
          (some ((), (ior .i64 (ishl .i64 (1 : Int) o2.2.1) (ishl .i64 (1 : Int) (iadd .i64 (29 : Int) o3.2.1)), ()))) else none)) else none))

def T_impl_SigHas (N : Nat) (sig1 : Int) (x2 : Int) : Option (Unit × (Bool × Unit)) :=
    ((T_impl_SigOne N x2).bind fun o3 =>
    ((T_impl_bits N sig1).bind fun o4 =>
      (some ((), ((iand .i64 o4.2.1 o3.2.1) == o3.2.1, ())))))

def T_laws_FnExactSigHas (N : Nat) (aSig1 : Int) (aX2 : Int) : Option (Unit × (Bool × Unit)) :=
    ((T_spec_SigHas N aSig1 aX2).bind fun o3 =>
    ((T_impl_SigHas N aSig1 aX2).bind fun o4 =>
      (bif !(beq o4.2.1 o3.2.1) then
        (some ((), (false, ())))
        else
        (some ((), (true, ()))))))

def T_spec_SigOne (N : Nat) (x1 : Int) : Option (Unit × (Int × Unit)) :=
    ((T_spec_l27Mod N x1 (29 : Int)).bind fun o2 =>
    ((T_spec_l27Bit N o2.2.1).bind fun o3 =>
      ((T_spec_l27Mod N x1 (31 : Int)).bind fun o4 =>
        ((T_spec_l27Bit N (iadd .i64 (29 : Int) o4.2.1)).bind fun o5 =>
          (some ((), (iadd .i64 o3.2.1 o5.2.1, ())))))))

def T_laws_FnExactSigOne (N : Nat) (aX1 : Int) : Option (Unit × (Bool × Unit)) :=
    ((T_spec_SigOne N aX1).bind fun o2 =>
    ((T_impl_SigOne N aX1).bind fun o3 =>
      (bif o3.2.1 != o2.2.1 then
        (some ((), (false, ())))
        else
        (some ((), (true, ()))))))

end Go.Sx
