/- What each Go function computes, as a Lean function. -/
import Derived.Test.YtmfipnendomkiaaM2
namespace Go.Sx
set_option linter.unusedVariables false

def T_spec_l27Bit_lp0 {R : Type} (N : Nat) (k2 : Int) (K0 : Int → Int → Bool → Option R) : Nat → Int → Int → Option R
  | 0, _, _ => none
  | n + 1, n3, i4 =>
    (bif decide (i4 < k2) then
    (T_spec_l27Bit_lp0 N k2 K0 n (imul .i64 n3 (2 : Int)) (iadd .i64 i4 (1 : Int)))
    else
    (K0 n3 i4 (decide (i4 < k2))))

def T_spec_l27Bit (N : Nat) (k1 : Int) : Option (Unit × (Int × Unit)) :=
    (T_spec_l27Bit_lp0 N k1
    (fun n8 i9 t10 =>
      (some ((), (n8, ()))))
     N (1 : Int) (0 : Int))

def T_spec_l27Has (N : Nat) (sig1 : Int) (k2 : Int) : Option (Unit × (Bool × Unit)) :=
    (bif decide (sig1 ≥ (0 : Int)) then
    ((T_spec_l27Bit N k2).bind fun o3 =>
      (bif inz o3.2.1 then
        (bif inz (2 : Int) then
          (some ((), ((irem (iquo .i64 sig1 o3.2.1) (2 : Int)) == (1 : Int), ()))) else none) else none))
    else
    (some ((), (false, ()))))

def T_spec_SigMay_lp0 {R : Type} (N : Nat) (a3 : Int) (b4 : Int) (K0 : Bool → Bool → Int → Bool → Option R) : Nat → Bool → Bool → Int → Option R
  | 0, _, _, _ => none
  | n + 1, low5, high6, k7 =>
    (bif decide (k7 < (60 : Int)) then
    ((T_spec_l27Has N a3 k7).bind fun o14 =>
      (bif o14.2.1 then
        ((T_spec_l27Has N b4 k7).bind fun o15 =>
          (bif low5 then
            (bif high6 then
              (T_spec_SigMay_lp0 N a3 b4 K0 n true true (iadd .i64 k7 (1 : Int)))
              else
              (bif o15.2.1 then
                (T_spec_SigMay_lp0 N a3 b4 K0 n true (decide (k7 ≥ (29 : Int))) (iadd .i64 k7 (1 : Int)))
                else
                (T_spec_SigMay_lp0 N a3 b4 K0 n true false (iadd .i64 k7 (1 : Int)))))
            else
            (bif o15.2.1 then
              (bif high6 then
                (T_spec_SigMay_lp0 N a3 b4 K0 n (decide (k7 < (29 : Int))) true (iadd .i64 k7 (1 : Int)))
                else
                (bif o15.2.1 then
                  (T_spec_SigMay_lp0 N a3 b4 K0 n (decide (k7 < (29 : Int))) (decide (k7 ≥ (29 : Int))) (iadd .i64 k7 (1 : Int)))
                  else
                  (T_spec_SigMay_lp0 N a3 b4 K0 n (decide (k7 < (29 : Int))) false (iadd .i64 k7 (1 : Int)))))
              else
              (bif high6 then
                (T_spec_SigMay_lp0 N a3 b4 K0 n false true (iadd .i64 k7 (1 : Int)))
                else
                (bif o15.2.1 then
                  (T_spec_SigMay_lp0 N a3 b4 K0 n false (decide (k7 ≥ (29 : Int))) (iadd .i64 k7 (1 : Int)))
                  else
                  (T_spec_SigMay_lp0 N a3 b4 K0 n false false (iadd .i64 k7 (1 : Int))))))))
        else
        (bif low5 then
          (bif high6 then
            (T_spec_SigMay_lp0 N a3 b4 K0 n true true (iadd .i64 k7 (1 : Int)))
            else
            (T_spec_SigMay_lp0 N a3 b4 K0 n true false (iadd .i64 k7 (1 : Int))))
          else
          (bif high6 then
            (T_spec_SigMay_lp0 N a3 b4 K0 n false true (iadd .i64 k7 (1 : Int)))
            else
            (T_spec_SigMay_lp0 N a3 b4 K0 n false false (iadd .i64 k7 (1 : Int)))))))
    else
    (K0 low5 high6 k7 (decide (k7 < (60 : Int)))))

def T_spec_SigMay (N : Nat) (a1 : Int) (b2 : Int) : Option (Unit × (Bool × Unit)) :=
    (T_spec_SigMay_lp0 N a1 b2
    (fun low16 high17 k18 t19 =>
      (bif low16 then
        (some ((), (high17, ())))
        else
        (some ((), (false, ())))))
     N false false (0 : Int))

def T_impl_bits (N : Nat) (sig1 : Int) : Option (Unit × (Int × Unit)) :=
    (bif decide (sig1 < (0 : Int)) then
    (some ((), ((0 : Int), ())))
    else
    (some ((), (iand .i64 sig1 (1152921504606846975 : Int), ()))))

def T_impl_SigMay (N : Nat) (a1 : Int) (b2 : Int) : Option (Unit × (Bool × Unit)) :=
    ((T_impl_bits N a1).bind fun o3 =>
    ((T_impl_bits N b2).bind fun o4 =>
      (bif (iand .i64 (iand .i64 o3.2.1 o4.2.1) (536870911 : Int)) != (0 : Int) then
        (some ((), ((iandn .i64 (iand .i64 o3.2.1 o4.2.1) (536870911 : Int)) != (0 : Int), ())))
        else
        (some ((), (false, ()))))))

def T_laws_FnExactSigMay (N : Nat) (aA1 : Int) (aB2 : Int) : Option (Unit × (Bool × Unit)) :=
    ((T_spec_SigMay N aA1 aB2).bind fun o3 =>
    ((T_impl_SigMay N aA1 aB2).bind fun o4 =>
      (bif !(beq o4.2.1 o3.2.1) then
        (some ((), (false, ())))
        else
        (some ((), (true, ()))))))

def T_spec_l27Mod (N : Nat) (x1 : Int) (n2 : Int) : Option (Unit × (Int × Unit)) :=
    (bif inz n2 then
    (bif inz n2 then
      (some ((), (irem (iadd .i64 (irem x1 n2) n2) n2, ()))) else none) else none)

def T_spec_SigHas (N : Nat) (sig1 : Int) (x2 : Int) : Option (Unit × (Bool × Unit)) :=
    ((T_spec_l27Mod N x2 (29 : Int)).bind fun o3 =>
    ((T_spec_l27Has N sig1 o3.2.1).bind fun o4 =>
      (bif o4.2.1 then
        ((T_spec_l27Mod N x2 (31 : Int)).bind fun o5 =>
          ((T_spec_l27Has N sig1 (iadd .i64 (29 : Int) o5.2.1)).bind fun o6 =>
            (some ((), (o6.2.1, ())))))
        else
        (some ((), (false, ()))))))

def T_impl_remainder (N : Nat) (x1 : Int) (n2 : Int) : Option (Unit × (Int × Unit)) :=
    (bif inz n2 then
    (bif inz n2 then
      (some ((), (irem (iadd .i64 (irem x1 n2) n2) n2, ()))) else none) else none)

def T_impl_SigOne (N : Nat) (x1 : Int) : Option (Unit × (Int × Unit)) :=
    ((T_impl_remainder N x1 (29 : Int)).bind fun o2 =>
    (bif inn o2.2.1 then
      ((T_impl_remainder N x1 (31 : Int)).bind fun o3 =>
        (bif inn (iadd .i64 (29 : Int) o3.2.1) then
          (some ((), (ior .i64 (ishl .i64 (1 : Int) o2.2.1) (ishl .i64 (1 : Int) (iadd .i64 (29 : Int) o3.2.1)), ()))) else none)) else none))

def T_impl_SigHas (N : Nat) (sig1 : Int) (x2 : Int) : Option (Unit × (Bool × Unit)) :=
    ((T_impl_SigOne N x2).bind fun o3 =>
    ((T_impl_bits N sig1).bind fun o4 =>
      (some ((), ((iand .i64 o4.2.1 o3.2.1) == o3.2.1, ())))))

def T_laws_FnExactSigHas (N : Nat) (aSig1 : Int) (aX2 : Int) : Option (Unit × (Bool × Unit)) :=
    ((T_spec_SigHas N aSig1 aX2).bind fun o3 =>
    ((T_impl_SigHas N aSig1 aX2).bind fun o4 =>
      (bif !(beq o4.2.1 o3.2.1) then
        (some ((), (false, ())))
        else
        (some ((), (true, ()))))))

def T_spec_SigOne (N : Nat) (x1 : Int) : Option (Unit × (Int × Unit)) :=
    ((T_spec_l27Mod N x1 (29 : Int)).bind fun o2 =>
    ((T_spec_l27Bit N o2.2.1).bind fun o3 =>
      ((T_spec_l27Mod N x1 (31 : Int)).bind fun o4 =>
        ((T_spec_l27Bit N (iadd .i64 (29 : Int) o4.2.1)).bind fun o5 =>
          (some ((), (iadd .i64 o3.2.1 o5.2.1, ())))))))

def T_laws_FnExactSigOne (N : Nat) (aX1 : Int) : Option (Unit × (Bool × Unit)) :=
    ((T_spec_SigOne N aX1).bind fun o2 =>
    ((T_impl_SigOne N aX1).bind fun o3 =>
      (bif o3.2.1 != o2.2.1 then
        (some ((), (false, ())))
        else
        (some ((), (true, ()))))))

end Go.Sx
