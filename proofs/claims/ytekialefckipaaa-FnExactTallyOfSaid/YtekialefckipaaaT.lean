/- What each Go function computes, as a Lean function. -/
import Derived.Test.YtekialefckipaaaM3
namespace Go.Sx
set_option linter.unusedVariables false

abbrev Y_KidRun := Int × Int × Int × Int × Int × Int × List Int × List (Int × Int × Int) × List (Int × Int) × List (Int × Int × List Int) × Bool × Int × Int × Int × Int
abbrev TY_KidRun : Ty := .prod (.int .i64) (.prod (.int .i64) (.prod (.int .i64) (.prod (.int .i64) (.prod (.int .i64) (.prod (.int .i64) (.prod (.slice (.int .i64)) (.prod (.slice (.prod (.int .i64) (.prod (.int .i64) (.int .i64)))) (.prod (.slice (.prod (.int .i64) (.int .i64))) (.prod (.slice (.prod (.int .i64) (.prod (.int .i64) (.slice (.int .i64))))) (.prod (.bool) (.prod (.int .i64) (.prod (.int .i64) (.prod (.int .i64) (.int .i64))))))))))))))
abbrev Y_Family := Int × Int × Int × Bool × List Int × List (Int × Int) × List (Int × Int × Int) × List Int × List (Int × Int) × List Y_KidRun
abbrev TY_Family : Ty := .prod (.int .i64) (.prod (.int .i64) (.prod (.int .i64) (.prod (.bool) (.prod (.slice (.int .i64)) (.prod (.slice (.prod (.int .i64) (.int .i64))) (.prod (.slice (.prod (.int .i64) (.prod (.int .i64) (.int .i64)))) (.prod (.slice (.int .i64)) (.prod (.slice (.prod (.int .i64) (.int .i64))) (.slice (TY_KidRun))))))))))
abbrev Y_Root := Int × Int × Int × Int × Int × Int × Int × Int × Int × Int × Int × Bool × List Int × List (Int × Int) × List (Int × Int) × List (Int × Int × Int × Int × List Int) × List (Int × Int × Int) × List Int × Bool × (Int × Int × Int × Int) × (Int × Int × Int × Int × Int × List (Int × Int) × List Int) × Y_Family
abbrev TY_Root : Ty := .prod (.int .i64) (.prod (.int .i64) (.prod (.int .i64) (.prod (.int .i64) (.prod (.int .i64) (.prod (.int .i64) (.prod (.int .i64) (.prod (.int .i64) (.prod (.int .i64) (.prod (.int .i64) (.prod (.int .i64) (.prod (.bool) (.prod (.slice (.int .i64)) (.prod (.slice (.prod (.int .i64) (.int .i64))) (.prod (.slice (.prod (.int .i64) (.int .i64))) (.prod (.slice (.prod (.int .i64) (.prod (.int .i64) (.prod (.int .i64) (.prod (.int .i64) (.slice (.int .i64))))))) (.prod (.slice (.prod (.int .i64) (.prod (.int .i64) (.int .i64)))) (.prod (.slice (.int .i64)) (.prod (.bool) (.prod (.prod (.int .i64) (.prod (.int .i64) (.prod (.int .i64) (.int .i64)))) (.prod (.prod (.int .i64) (.prod (.int .i64) (.prod (.int .i64) (.prod (.int .i64) (.prod (.int .i64) (.prod (.slice (.prod (.int .i64) (.int .i64))) (.slice (.int .i64)))))))) (TY_Family)))))))))))))))))))))
abbrev Y_World := Int × Int × (Int × List (Int × Int × Int)) × (List Int × Int) × List (Int × Int × Int) × List Y_Root × List (Int × Int × List (Int × Int))
abbrev TY_World : Ty := .prod (.int .i64) (.prod (.int .i64) (.prod (.prod (.int .i64) (.slice (.prod (.int .i64) (.prod (.int .i64) (.int .i64))))) (.prod (.prod (.slice (.int .i64)) (.int .i64)) (.prod (.slice (.prod (.int .i64) (.prod (.int .i64) (.int .i64)))) (.prod (.slice (TY_Root)) (.slice (.prod (.int .i64) (.prod (.int .i64) (.slice (.prod (.int .i64) (.int .i64)))))))))))
def d_KidRun : Y_KidRun := ((0 : Int), ((0 : Int), ((0 : Int), ((0 : Int), ((0 : Int), ((0 : Int), (([] : List Int), (([] : List (Int × Int × Int)), (([] : List (Int × Int)), (([] : List (Int × Int × List Int)), (false, ((0 : Int), ((0 : Int), ((0 : Int), (0 : Int)))))))))))))))
def d_Family : Y_Family := ((0 : Int), ((0 : Int), ((0 : Int), (false, (([] : List Int), (([] : List (Int × Int)), (([] : List (Int × Int × Int)), (([] : List Int), (([] : List (Int × Int)), ([] : List Y_KidRun))))))))))
def d_Root : Y_Root := ((0 : Int), ((0 : Int), ((0 : Int), ((0 : Int), ((0 : Int), ((0 : Int), ((0 : Int), ((0 : Int), ((0 : Int), ((0 : Int), ((0 : Int), (false, (([] : List Int), (([] : List (Int × Int)), (([] : List (Int × Int)), (([] : List (Int × Int × Int × Int × List Int)), (([] : List (Int × Int × Int)), (([] : List Int), (false, (((0 : Int), ((0 : Int), ((0 : Int), (0 : Int)))), (((0 : Int), ((0 : Int), ((0 : Int), ((0 : Int), ((0 : Int), (([] : List (Int × Int)), ([] : List Int))))))), d_Family)))))))))))))))))))))
def d_World : Y_World := ((0 : Int), ((0 : Int), (((0 : Int), ([] : List (Int × Int × Int))), ((([] : List Int), (0 : Int)), (([] : List (Int × Int × Int)), (([] : List Y_Root), ([] : List (Int × Int × List (Int × Int)))))))))
noncomputable def T_laws_szWordS (N : Nat) (a1 : List (Int × Int × Int)) (left2 : Int) : Option (Unit × (Int × Unit)) :=
    (bif decide ((isub .i64 left2 (ilen a1)) < (0 : Int)) then
    (some ((), ((-1 : Int), ())))
    else
    (some ((), (isub .i64 left2 (ilen a1), ()))))

noncomputable def T_laws_szMem (N : Nat) (a1 : Int × List (Int × Int × Int)) (left2 : Int) : Option (Unit × (Int × Unit)) :=
    ((T_laws_szWordS N a1.2 left2).bind fun o3 =>
    (bif decide (o3.2.1 < (0 : Int)) then
      (some ((), ((-1 : Int), ())))
      else
      (some ((), (o3.2.1, ())))))

noncomputable def T_laws_szIntS (N : Nat) (a1 : List Int) (left2 : Int) : Option (Unit × (Int × Unit)) :=
    (bif decide ((isub .i64 left2 (ilen a1)) < (0 : Int)) then
    (some ((), ((-1 : Int), ())))
    else
    (some ((), (isub .i64 left2 (ilen a1), ()))))

noncomputable def T_laws_szShelf (N : Nat) (a1 : List Int × Int) (left2 : Int) : Option (Unit × (Int × Unit)) :=
    ((T_laws_szIntS N a1.1 left2).bind fun o3 =>
    (bif decide (o3.2.1 < (0 : Int)) then
      (some ((), ((-1 : Int), ())))
      else
      (some ((), (o3.2.1, ())))))

noncomputable def T_laws_szHoldS (N : Nat) (a1 : List (Int × Int × Int)) (left2 : Int) : Option (Unit × (Int × Unit)) :=
    (bif decide ((isub .i64 left2 (ilen a1)) < (0 : Int)) then
    (some ((), ((-1 : Int), ())))
    else
    (some ((), (isub .i64 left2 (ilen a1), ()))))

noncomputable def T_laws_szRowS (N : Nat) (a1 : List (Int × Int)) (left2 : Int) : Option (Unit × (Int × Unit)) :=
    (bif decide ((isub .i64 left2 (ilen a1)) < (0 : Int)) then
    (some ((), ((-1 : Int), ())))
    else
    (some ((), (isub .i64 left2 (ilen a1), ()))))

noncomputable def T_laws_szMark (N : Nat) (a1 : Int × Int × Int × Int × List Int) (left2 : Int) : Option (Unit × (Int × Unit)) :=
    ((T_laws_szIntS N a1.2.2.2.2 left2).bind fun o3 =>
    (bif decide (o3.2.1 < (0 : Int)) then
      (some ((), ((-1 : Int), ())))
      else
      (some ((), (o3.2.1, ())))))

noncomputable def T_laws_szMarkS_lp0 {R : Type} (N : Nat) (a3 : List (Int × Int × Int × Int × List Int)) (K0 : Option R) (K1 : Int → Int → Bool → Option R) : Nat → Int → Int → Option R
  | 0, _, _ => none
  | n + 1, left4, i5 =>
    (bif decide (i5 < (ilen a3)) then
    (bif inb i5 (List.length a3) then
      ((T_laws_szMark N (List.getD a3 (Int.toNat i5) ((0 : Int), ((0 : Int), ((0 : Int), ((0 : Int), ([] : List Int)))))) left4).bind fun o10 =>
        (bif decide (o10.2.1 < (0 : Int)) then
          K0
          else
          (T_laws_szMarkS_lp0 N a3 K0 K1 n o10.2.1 (iadd .i64 i5 (1 : Int))))) else none)
    else
    (K1 left4 i5 (decide (i5 < (ilen a3)))))

noncomputable def T_laws_szMarkS (N : Nat) (a1 : List (Int × Int × Int × Int × List Int)) (left2 : Int) : Option (Unit × (Int × Unit)) :=
    (bif decide ((isub .i64 left2 (ilen a1)) < (0 : Int)) then
    (some ((), ((-1 : Int), ())))
    else
    (T_laws_szMarkS_lp0 N a1
      (some ((), ((-1 : Int), ())))
      (fun left11 i12 t13 =>
        (some ((), (left11, ()))))
       N (isub .i64 left2 (ilen a1)) (0 : Int)))

noncomputable def T_laws_szUndoS (N : Nat) (a1 : List (Int × Int × Int)) (left2 : Int) : Option (Unit × (Int × Unit)) :=
    (bif decide ((isub .i64 left2 (ilen a1)) < (0 : Int)) then
    (some ((), ((-1 : Int), ())))
    else
    (some ((), (isub .i64 left2 (ilen a1), ()))))

noncomputable def T_laws_szCommit (N : Nat) (a1 : Int × Int × Int × Int × Int × List (Int × Int) × List Int) (left2 : Int) : Option (Unit × (Int × Unit)) :=
    ((T_laws_szRowS N a1.2.2.2.2.2.1 left2).bind fun o3 =>
    (bif decide (o3.2.1 < (0 : Int)) then
      (some ((), ((-1 : Int), ())))
      else
      ((T_laws_szIntS N a1.2.2.2.2.2.2 o3.2.1).bind fun o4 =>
        (bif decide (o4.2.1 < (0 : Int)) then
          (some ((), ((-1 : Int), ())))
          else
          (some ((), (o4.2.1, ())))))))

noncomputable def T_laws_szEntryS (N : Nat) (a1 : List (Int × Int × Int)) (left2 : Int) : Option (Unit × (Int × Unit)) :=
    (bif decide ((isub .i64 left2 (ilen a1)) < (0 : Int)) then
    (some ((), ((-1 : Int), ())))
    else
    (some ((), (isub .i64 left2 (ilen a1), ()))))

noncomputable def T_laws_szKidMark (N : Nat) (a1 : Int × Int × List Int) (left2 : Int) : Option (Unit × (Int × Unit)) :=
    ((T_laws_szIntS N a1.2.2 left2).bind fun o3 =>
    (bif decide (o3.2.1 < (0 : Int)) then
      (some ((), ((-1 : Int), ())))
      else
      (some ((), (o3.2.1, ())))))

noncomputable def T_laws_szKidMarkS_lp0 {R : Type} (N : Nat) (a3 : List (Int × Int × List Int)) (K0 : Option R) (K1 : Int → Int → Bool → Option R) : Nat → Int → Int → Option R
  | 0, _, _ => none
  | n + 1, left4, i5 =>
    (bif decide (i5 < (ilen a3)) then
    (bif inb i5 (List.length a3) then
      ((T_laws_szKidMark N (List.getD a3 (Int.toNat i5) ((0 : Int), ((0 : Int), ([] : List Int)))) left4).bind fun o10 =>
        (bif decide (o10.2.1 < (0 : Int)) then
          K0
          else
          (T_laws_szKidMarkS_lp0 N a3 K0 K1 n o10.2.1 (iadd .i64 i5 (1 : Int))))) else none)
    else
    (K1 left4 i5 (decide (i5 < (ilen a3)))))

noncomputable def T_laws_szKidMarkS (N : Nat) (a1 : List (Int × Int × List Int)) (left2 : Int) : Option (Unit × (Int × Unit)) :=
    (bif decide ((isub .i64 left2 (ilen a1)) < (0 : Int)) then
    (some ((), ((-1 : Int), ())))
    else
    (T_laws_szKidMarkS_lp0 N a1
      (some ((), ((-1 : Int), ())))
      (fun left11 i12 t13 =>
        (some ((), (left11, ()))))
       N (isub .i64 left2 (ilen a1)) (0 : Int)))

noncomputable def T_laws_szKidRun (N : Nat) (a1 : Y_KidRun) (left2 : Int) : Option (Unit × (Int × Unit)) :=
    ((T_laws_szIntS N a1.2.2.2.2.2.2.1 left2).bind fun o3 =>
    (bif decide (o3.2.1 < (0 : Int)) then
      (some ((), ((-1 : Int), ())))
      else
      ((T_laws_szEntryS N a1.2.2.2.2.2.2.2.1 o3.2.1).bind fun o4 =>
        (bif decide (o4.2.1 < (0 : Int)) then
          (some ((), ((-1 : Int), ())))
          else
          ((T_laws_szRowS N a1.2.2.2.2.2.2.2.2.1 o4.2.1).bind fun o5 =>
            (bif decide (o5.2.1 < (0 : Int)) then
              (some ((), ((-1 : Int), ())))
              else
              ((T_laws_szKidMarkS N a1.2.2.2.2.2.2.2.2.2.1 o5.2.1).bind fun o6 =>
                (bif decide (o6.2.1 < (0 : Int)) then
                  (some ((), ((-1 : Int), ())))
                  else
                  (some ((), (o6.2.1, ())))))))))))

noncomputable def T_laws_szKidRunS_lp0 {R : Type} (N : Nat) (a3 : List Y_KidRun) (K0 : Option R) (K1 : Int → Int → Bool → Option R) : Nat → Int → Int → Option R
  | 0, _, _ => none
  | n + 1, left4, i5 =>
    (bif decide (i5 < (ilen a3)) then
    (bif inb i5 (List.length a3) then
      ((T_laws_szKidRun N (List.getD a3 (Int.toNat i5) d_KidRun) left4).bind fun o10 =>
        (bif decide (o10.2.1 < (0 : Int)) then
          K0
          else
          (T_laws_szKidRunS_lp0 N a3 K0 K1 n o10.2.1 (iadd .i64 i5 (1 : Int))))) else none)
    else
    (K1 left4 i5 (decide (i5 < (ilen a3)))))

noncomputable def T_laws_szKidRunS (N : Nat) (a1 : List Y_KidRun) (left2 : Int) : Option (Unit × (Int × Unit)) :=
    (bif decide ((isub .i64 left2 (ilen a1)) < (0 : Int)) then
    (some ((), ((-1 : Int), ())))
    else
    (T_laws_szKidRunS_lp0 N a1
      (some ((), ((-1 : Int), ())))
      (fun left11 i12 t13 =>
        (some ((), (left11, ()))))
       N (isub .i64 left2 (ilen a1)) (0 : Int)))

noncomputable def T_laws_szFamily (N : Nat) (a1 : Y_Family) (left2 : Int) : Option (Unit × (Int × Unit)) :=
    ((T_laws_szIntS N a1.2.2.2.2.1 left2).bind fun o3 =>
    (bif decide (o3.2.1 < (0 : Int)) then
      (some ((), ((-1 : Int), ())))
      else
      ((T_laws_szRowS N a1.2.2.2.2.2.1 o3.2.1).bind fun o4 =>
        (bif decide (o4.2.1 < (0 : Int)) then
          (some ((), ((-1 : Int), ())))
          else
          ((T_laws_szEntryS N a1.2.2.2.2.2.2.1 o4.2.1).bind fun o5 =>
            (bif decide (o5.2.1 < (0 : Int)) then
              (some ((), ((-1 : Int), ())))
              else
              ((T_laws_szIntS N a1.2.2.2.2.2.2.2.1 o5.2.1).bind fun o6 =>
                (bif decide (o6.2.1 < (0 : Int)) then
                  (some ((), ((-1 : Int), ())))
                  else
                  ((T_laws_szRowS N a1.2.2.2.2.2.2.2.2.1 o6.2.1).bind fun o7 =>
                    (bif decide (o7.2.1 < (0 : Int)) then
                      (some ((), ((-1 : Int), ())))
                      else
                      ((T_laws_szKidRunS N a1.2.2.2.2.2.2.2.2.2 o7.2.1).bind fun o8 =>
                        (bif decide (o8.2.1 < (0 : Int)) then
                          (some ((), ((-1 : Int), ())))
                          else
                          (some ((), (o8.2.1, ())))))))))))))))

noncomputable def T_laws_szRoot (N : Nat) (a1 : Y_Root) (left2 : Int) : Option (Unit × (Int × Unit)) :=
    ((T_laws_szIntS N a1.2.2.2.2.2.2.2.2.2.2.2.2.1 left2).bind fun o3 =>
    (bif decide (o3.2.1 < (0 : Int)) then
      (some ((), ((-1 : Int), ())))
      else
      ((T_laws_szRowS N a1.2.2.2.2.2.2.2.2.2.2.2.2.2.1 o3.2.1).bind fun o4 =>
        (bif decide (o4.2.1 < (0 : Int)) then
          (some ((), ((-1 : Int), ())))
          else
          ((T_laws_szRowS N a1.2.2.2.2.2.2.2.2.2.2.2.2.2.2.1 o4.2.1).bind fun o5 =>
            (bif decide (o5.2.1 < (0 : Int)) then
              (some ((), ((-1 : Int), ())))
              else
              ((T_laws_szMarkS N a1.2.2.2.2.2.2.2.2.2.2.2.2.2.2.2.1 o5.2.1).bind fun o6 =>
                (bif decide (o6.2.1 < (0 : Int)) then
                  (some ((), ((-1 : Int), ())))
                  else
                  ((T_laws_szUndoS N a1.2.2.2.2.2.2.2.2.2.2.2.2.2.2.2.2.1 o6.2.1).bind fun o7 =>
                    (bif decide (o7.2.1 < (0 : Int)) then
                      (some ((), ((-1 : Int), ())))
                      else
                      ((T_laws_szIntS N a1.2.2.2.2.2.2.2.2.2.2.2.2.2.2.2.2.2.1 o7.2.1).bind fun o8 =>
                        (bif decide (o8.2.1 < (0 : Int)) then
                          (some ((), ((-1 : Int), ())))
                          else
                          ((T_laws_szCommit N a1.2.2.2.2.2.2.2.2.2.2.2.2.2.2.2.2.2.2.2.2.1 o8.2.1).bind fun o9 =>
                            (bif decide (o9.2.1 < (0 : Int)) then
                              (some ((), ((-1 : Int), ())))
                              else
                              ((T_laws_szFamily N a1.2.2.2.2.2.2.2.2.2.2.2.2.2.2.2.2.2.2.2.2.2 o9.2.1).bind fun o10 =>
                                (bif decide (o10.2.1 < (0 : Int)) then
                                  (some ((), ((-1 : Int), ())))
                                  else
                                  (some ((), (o10.2.1, ())))))))))))))))))))

noncomputable def T_laws_szRootS_lp0 {R : Type} (N : Nat) (a3 : List Y_Root) (K0 : Option R) (K1 : Int → Int → Bool → Option R) : Nat → Int → Int → Option R
  | 0, _, _ => none
  | n + 1, left4, i5 =>
    (bif decide (i5 < (ilen a3)) then
    (bif inb i5 (List.length a3) then
      ((T_laws_szRoot N (List.getD a3 (Int.toNat i5) d_Root) left4).bind fun o10 =>
        (bif decide (o10.2.1 < (0 : Int)) then
          K0
          else
          (T_laws_szRootS_lp0 N a3 K0 K1 n o10.2.1 (iadd .i64 i5 (1 : Int))))) else none)
    else
    (K1 left4 i5 (decide (i5 < (ilen a3)))))

noncomputable def T_laws_szRootS (N : Nat) (a1 : List Y_Root) (left2 : Int) : Option (Unit × (Int × Unit)) :=
    (bif decide ((isub .i64 left2 (ilen a1)) < (0 : Int)) then
    (some ((), ((-1 : Int), ())))
    else
    (T_laws_szRootS_lp0 N a1
      (some ((), ((-1 : Int), ())))
      (fun left11 i12 t13 =>
        (some ((), (left11, ()))))
       N (isub .i64 left2 (ilen a1)) (0 : Int)))

noncomputable def T_laws_szWrote (N : Nat) (a1 : Int × Int × List (Int × Int)) (left2 : Int) : Option (Unit × (Int × Unit)) :=
    ((T_laws_szRowS N a1.2.2 left2).bind fun o3 =>
    (bif decide (o3.2.1 < (0 : Int)) then
      (some ((), ((-1 : Int), ())))
      else
      (some ((), (o3.2.1, ())))))

noncomputable def T_laws_szWroteS_lp0 {R : Type} (N : Nat) (a3 : List (Int × Int × List (Int × Int))) (K0 : Option R) (K1 : Int → Int → Bool → Option R) : Nat → Int → Int → Option R
  | 0, _, _ => none
  | n + 1, left4, i5 =>
    (bif decide (i5 < (ilen a3)) then
    (bif inb i5 (List.length a3) then
      ((T_laws_szWrote N (List.getD a3 (Int.toNat i5) ((0 : Int), ((0 : Int), ([] : List (Int × Int))))) left4).bind fun o10 =>
        (bif decide (o10.2.1 < (0 : Int)) then
          K0
          else
          (T_laws_szWroteS_lp0 N a3 K0 K1 n o10.2.1 (iadd .i64 i5 (1 : Int))))) else none)
    else
    (K1 left4 i5 (decide (i5 < (ilen a3)))))

noncomputable def T_laws_szWroteS (N : Nat) (a1 : List (Int × Int × List (Int × Int))) (left2 : Int) : Option (Unit × (Int × Unit)) :=
    (bif decide ((isub .i64 left2 (ilen a1)) < (0 : Int)) then
    (some ((), ((-1 : Int), ())))
    else
    (T_laws_szWroteS_lp0 N a1
      (some ((), ((-1 : Int), ())))
      (fun left11 i12 t13 =>
        (some ((), (left11, ()))))
       N (isub .i64 left2 (ilen a1)) (0 : Int)))

noncomputable def T_laws_szWorld (N : Nat) (a1 : Y_World) (left2 : Int) : Option (Unit × (Int × Unit)) :=
    ((T_laws_szMem N a1.2.2.1 left2).bind fun o3 =>
    (bif decide (o3.2.1 < (0 : Int)) then
      (some ((), ((-1 : Int), ())))
      else
      ((T_laws_szShelf N a1.2.2.2.1 o3.2.1).bind fun o4 =>
        (bif decide (o4.2.1 < (0 : Int)) then
          (some ((), ((-1 : Int), ())))
          else
          ((T_laws_szHoldS N a1.2.2.2.2.1 o4.2.1).bind fun o5 =>
            (bif decide (o5.2.1 < (0 : Int)) then
              (some ((), ((-1 : Int), ())))
              else
              ((T_laws_szRootS N a1.2.2.2.2.2.1 o5.2.1).bind fun o6 =>
                (bif decide (o6.2.1 < (0 : Int)) then
                  (some ((), ((-1 : Int), ())))
                  else
                  ((T_laws_szWroteS N a1.2.2.2.2.2.2 o6.2.1).bind fun o7 =>
                    (bif decide (o7.2.1 < (0 : Int)) then
                      (some ((), ((-1 : Int), ())))
                      else
                      (some ((), (o7.2.1, ())))))))))))))

noncomputable def T_laws_toWord (N : Nat) (a1 : Int × Int × Int) : Option (Unit × ((Int × Int × Int) × Unit)) :=
    (some ((), (a1, ())))

noncomputable def T_laws_toWordS_lp0 {R : Type} (N : Nat) (a2 : List (Int × Int × Int)) (K0 : Int → Bool → (List (Int × Int × Int)) → Option R) : Nat → Int → (List (Int × Int × Int)) → Option R
  | 0, _, _ => none
  | n + 1, i3, l4 =>
    (bif decide (i3 < (ilen a2)) then
    (bif inb i3 (List.length a2) then
      ((T_laws_toWord N (List.getD a2 (Int.toNat i3) ((0 : Int), ((0 : Int), (0 : Int))))).bind fun o9 =>
        (bif inb i3 (List.length l4) then
          (T_laws_toWordS_lp0 N a2 K0 n (iadd .i64 i3 (1 : Int)) (List.set l4 (Int.toNat i3) o9.2.1)) else none)) else none)
    else
    (K0 i3 (decide (i3 < (ilen a2))) l4))

noncomputable def T_laws_toWordS (N : Nat) (a1 : List (Int × Int × Int)) : Option (Unit × ((List (Int × Int × Int)) × Unit)) :=
    (bif ((decide ((0 : Int) ≤ (ilen a1))) && (decide ((ilen a1) ≤ (ilen a1)))) && (room (Int.toNat (ilen a1))) then
    (T_laws_toWordS_lp0 N a1
      (fun i10 t11 l12 =>
        (some ((), (l12, ()))))
       N (0 : Int) (List.replicate (Int.toNat (ilen a1)) ((0 : Int), ((0 : Int), (0 : Int))))) else none)

noncomputable def T_laws_toMem (N : Nat) (a1 : Int × List (Int × Int × Int)) : Option (Unit × ((Int × List (Int × Int × Int)) × Unit)) :=
    ((T_laws_toWordS N a1.2).bind fun o2 =>
    (some ((), ((a1.1, o2.2.1), ()))))

noncomputable def T_laws_toIntS_lp0 {R : Type} (N : Nat) (a2 : List Int) (K0 : Int → Bool → (List Int) → Option R) : Nat → Int → (List Int) → Option R
  | 0, _, _ => none
  | n + 1, i3, l4 =>
    (bif decide (i3 < (ilen a2)) then
    (bif inb i3 (List.length a2) then
      (bif inb i3 (List.length l4) then
        (T_laws_toIntS_lp0 N a2 K0 n (iadd .i64 i3 (1 : Int)) (List.set l4 (Int.toNat i3) (List.getD a2 (Int.toNat i3) (0 : Int)))) else none) else none)
    else
    (K0 i3 (decide (i3 < (ilen a2))) l4))

noncomputable def T_laws_toIntS (N : Nat) (a1 : List Int) : Option (Unit × ((List Int) × Unit)) :=
    (bif ((decide ((0 : Int) ≤ (ilen a1))) && (decide ((ilen a1) ≤ (ilen a1)))) && (room (Int.toNat (ilen a1))) then
    (T_laws_toIntS_lp0 N a1
      (fun i8 t9 l10 =>
        (some ((), (l10, ()))))
       N (0 : Int) (List.replicate (Int.toNat (ilen a1)) (0 : Int))) else none)

noncomputable def T_laws_toShelf (N : Nat) (a1 : List Int × Int) : Option (Unit × ((List Int × Int) × Unit)) :=
    ((T_laws_toIntS N a1.1).bind fun o2 =>
    (some ((), ((o2.2.1, a1.2), ()))))

noncomputable def T_laws_toHold (N : Nat) (a1 : Int × Int × Int) : Option (Unit × ((Int × Int × Int) × Unit)) :=
    (some ((), (a1, ())))

noncomputable def T_laws_toHoldS_lp0 {R : Type} (N : Nat) (a2 : List (Int × Int × Int)) (K0 : Int → Bool → (List (Int × Int × Int)) → Option R) : Nat → Int → (List (Int × Int × Int)) → Option R
  | 0, _, _ => none
  | n + 1, i3, l4 =>
    (bif decide (i3 < (ilen a2)) then
    (bif inb i3 (List.length a2) then
      ((T_laws_toHold N (List.getD a2 (Int.toNat i3) ((0 : Int), ((0 : Int), (0 : Int))))).bind fun o9 =>
        (bif inb i3 (List.length l4) then
          (T_laws_toHoldS_lp0 N a2 K0 n (iadd .i64 i3 (1 : Int)) (List.set l4 (Int.toNat i3) o9.2.1)) else none)) else none)
    else
    (K0 i3 (decide (i3 < (ilen a2))) l4))

noncomputable def T_laws_toHoldS (N : Nat) (a1 : List (Int × Int × Int)) : Option (Unit × ((List (Int × Int × Int)) × Unit)) :=
    (bif ((decide ((0 : Int) ≤ (ilen a1))) && (decide ((ilen a1) ≤ (ilen a1)))) && (room (Int.toNat (ilen a1))) then
    (T_laws_toHoldS_lp0 N a1
      (fun i10 t11 l12 =>
        (some ((), (l12, ()))))
       N (0 : Int) (List.replicate (Int.toNat (ilen a1)) ((0 : Int), ((0 : Int), (0 : Int))))) else none)

noncomputable def T_laws_toRow (N : Nat) (a1 : Int × Int) : Option (Unit × ((Int × Int) × Unit)) :=
    (some ((), (a1, ())))

noncomputable def T_laws_toRowS_lp0 {R : Type} (N : Nat) (a2 : List (Int × Int)) (K0 : Int → Bool → (List (Int × Int)) → Option R) : Nat → Int → (List (Int × Int)) → Option R
  | 0, _, _ => none
  | n + 1, i3, l4 =>
    (bif decide (i3 < (ilen a2)) then
    (bif inb i3 (List.length a2) then
      ((T_laws_toRow N (List.getD a2 (Int.toNat i3) ((0 : Int), (0 : Int)))).bind fun o9 =>
        (bif inb i3 (List.length l4) then
          (T_laws_toRowS_lp0 N a2 K0 n (iadd .i64 i3 (1 : Int)) (List.set l4 (Int.toNat i3) o9.2.1)) else none)) else none)
    else
    (K0 i3 (decide (i3 < (ilen a2))) l4))

noncomputable def T_laws_toRowS (N : Nat) (a1 : List (Int × Int)) : Option (Unit × ((List (Int × Int)) × Unit)) :=
    (bif ((decide ((0 : Int) ≤ (ilen a1))) && (decide ((ilen a1) ≤ (ilen a1)))) && (room (Int.toNat (ilen a1))) then
    (T_laws_toRowS_lp0 N a1
      (fun i10 t11 l12 =>
        (some ((), (l12, ()))))
       N (0 : Int) (List.replicate (Int.toNat (ilen a1)) ((0 : Int), (0 : Int)))) else none)

noncomputable def T_laws_toMark (N : Nat) (a1 : Int × Int × Int × Int × List Int) : Option (Unit × ((Int × Int × Int × Int × List Int) × Unit)) :=
    ((T_laws_toIntS N a1.2.2.2.2).bind fun o2 =>
    (some ((), ((a1.1, (a1.2.1, (a1.2.2.1, (a1.2.2.2.1, o2.2.1)))), ()))))

noncomputable def T_laws_toMarkS_lp0 {R : Type} (N : Nat) (a2 : List (Int × Int × Int × Int × List Int)) (K0 : Int → Bool → (List (Int × Int × Int × Int × List Int)) → Option R) : Nat → Int → (List (Int × Int × Int × Int × List Int)) → Option R
  | 0, _, _ => none
  | n + 1, i3, l4 =>
    (bif decide (i3 < (ilen a2)) then
    (bif inb i3 (List.length a2) then
      ((T_laws_toMark N (List.getD a2 (Int.toNat i3) ((0 : Int), ((0 : Int), ((0 : Int), ((0 : Int), ([] : List Int))))))).bind fun o9 =>
        (bif inb i3 (List.length l4) then
          (T_laws_toMarkS_lp0 N a2 K0 n (iadd .i64 i3 (1 : Int)) (List.set l4 (Int.toNat i3) o9.2.1)) else none)) else none)
    else
    (K0 i3 (decide (i3 < (ilen a2))) l4))

noncomputable def T_laws_toMarkS (N : Nat) (a1 : List (Int × Int × Int × Int × List Int)) : Option (Unit × ((List (Int × Int × Int × Int × List Int)) × Unit)) :=
    (bif ((decide ((0 : Int) ≤ (ilen a1))) && (decide ((ilen a1) ≤ (ilen a1)))) && (room (Int.toNat (ilen a1))) then
    (T_laws_toMarkS_lp0 N a1
      (fun i10 t11 l12 =>
        (some ((), (l12, ()))))
       N (0 : Int) (List.replicate (Int.toNat (ilen a1)) ((0 : Int), ((0 : Int), ((0 : Int), ((0 : Int), ([] : List Int))))))) else none)

noncomputable def T_laws_toUndo (N : Nat) (a1 : Int × Int × Int) : Option (Unit × ((Int × Int × Int) × Unit)) :=
    (some ((), (a1, ())))

noncomputable def T_laws_toUndoS_lp0 {R : Type} (N : Nat) (a2 : List (Int × Int × Int)) (K0 : Int → Bool → (List (Int × Int × Int)) → Option R) : Nat → Int → (List (Int × Int × Int)) → Option R
  | 0, _, _ => none
  | n + 1, i3, l4 =>
    (bif decide (i3 < (ilen a2)) then
    (bif inb i3 (List.length a2) then
      ((T_laws_toUndo N (List.getD a2 (Int.toNat i3) ((0 : Int), ((0 : Int), (0 : Int))))).bind fun o9 =>
        (bif inb i3 (List.length l4) then
          (T_laws_toUndoS_lp0 N a2 K0 n (iadd .i64 i3 (1 : Int)) (List.set l4 (Int.toNat i3) o9.2.1)) else none)) else none)
    else
    (K0 i3 (decide (i3 < (ilen a2))) l4))

noncomputable def T_laws_toUndoS (N : Nat) (a1 : List (Int × Int × Int)) : Option (Unit × ((List (Int × Int × Int)) × Unit)) :=
    (bif ((decide ((0 : Int) ≤ (ilen a1))) && (decide ((ilen a1) ≤ (ilen a1)))) && (room (Int.toNat (ilen a1))) then
    (T_laws_toUndoS_lp0 N a1
      (fun i10 t11 l12 =>
        (some ((), (l12, ()))))
       N (0 : Int) (List.replicate (Int.toNat (ilen a1)) ((0 : Int), ((0 : Int), (0 : Int))))) else none)

noncomputable def T_laws_toProbe (N : Nat) (a1 : Int × Int × Int × Int) : Option (Unit × ((Int × Int × Int × Int) × Unit)) :=
    (some ((), (a1, ())))

noncomputable def T_laws_toCommit (N : Nat) (a1 : Int × Int × Int × Int × Int × List (Int × Int) × List Int) : Option (Unit × ((Int × Int × Int × Int × Int × List (Int × Int) × List Int) × Unit)) :=
    ((T_laws_toRowS N a1.2.2.2.2.2.1).bind fun o2 =>
    ((T_laws_toIntS N a1.2.2.2.2.2.2).bind fun o3 =>
      (some ((), ((a1.1, (a1.2.1, (a1.2.2.1, (a1.2.2.2.1, (a1.2.2.2.2.1, (o2.2.1, o3.2.1)))))), ())))))

noncomputable def T_laws_toEntry (N : Nat) (a1 : Int × Int × Int) : Option (Unit × ((Int × Int × Int) × Unit)) :=
    (some ((), (a1, ())))

noncomputable def T_laws_toEntryS_lp0 {R : Type} (N : Nat) (a2 : List (Int × Int × Int)) (K0 : Int → Bool → (List (Int × Int × Int)) → Option R) : Nat → Int → (List (Int × Int × Int)) → Option R
  | 0, _, _ => none
  | n + 1, i3, l4 =>
    (bif decide (i3 < (ilen a2)) then
    (bif inb i3 (List.length a2) then
      ((T_laws_toEntry N (List.getD a2 (Int.toNat i3) ((0 : Int), ((0 : Int), (0 : Int))))).bind fun o9 =>
        (bif inb i3 (List.length l4) then
          (T_laws_toEntryS_lp0 N a2 K0 n (iadd .i64 i3 (1 : Int)) (List.set l4 (Int.toNat i3) o9.2.1)) else none)) else none)
    else
    (K0 i3 (decide (i3 < (ilen a2))) l4))

noncomputable def T_laws_toEntryS (N : Nat) (a1 : List (Int × Int × Int)) : Option (Unit × ((List (Int × Int × Int)) × Unit)) :=
    (bif ((decide ((0 : Int) ≤ (ilen a1))) && (decide ((ilen a1) ≤ (ilen a1)))) && (room (Int.toNat (ilen a1))) then
    (T_laws_toEntryS_lp0 N a1
      (fun i10 t11 l12 =>
        (some ((), (l12, ()))))
       N (0 : Int) (List.replicate (Int.toNat (ilen a1)) ((0 : Int), ((0 : Int), (0 : Int))))) else none)

noncomputable def T_laws_toKidMark (N : Nat) (a1 : Int × Int × List Int) : Option (Unit × ((Int × Int × List Int) × Unit)) :=
    ((T_laws_toIntS N a1.2.2).bind fun o2 =>
    (some ((), ((a1.1, (a1.2.1, o2.2.1)), ()))))

noncomputable def T_laws_toKidMarkS_lp0 {R : Type} (N : Nat) (a2 : List (Int × Int × List Int)) (K0 : Int → Bool → (List (Int × Int × List Int)) → Option R) : Nat → Int → (List (Int × Int × List Int)) → Option R
  | 0, _, _ => none
  | n + 1, i3, l4 =>
    (bif decide (i3 < (ilen a2)) then
    (bif inb i3 (List.length a2) then
      ((T_laws_toKidMark N (List.getD a2 (Int.toNat i3) ((0 : Int), ((0 : Int), ([] : List Int))))).bind fun o9 =>
        (bif inb i3 (List.length l4) then
          (T_laws_toKidMarkS_lp0 N a2 K0 n (iadd .i64 i3 (1 : Int)) (List.set l4 (Int.toNat i3) o9.2.1)) else none)) else none)
    else
    (K0 i3 (decide (i3 < (ilen a2))) l4))

noncomputable def T_laws_toKidMarkS (N : Nat) (a1 : List (Int × Int × List Int)) : Option (Unit × ((List (Int × Int × List Int)) × Unit)) :=
    (bif ((decide ((0 : Int) ≤ (ilen a1))) && (decide ((ilen a1) ≤ (ilen a1)))) && (room (Int.toNat (ilen a1))) then
    (T_laws_toKidMarkS_lp0 N a1
      (fun i10 t11 l12 =>
        (some ((), (l12, ()))))
       N (0 : Int) (List.replicate (Int.toNat (ilen a1)) ((0 : Int), ((0 : Int), ([] : List Int))))) else none)

noncomputable def T_laws_toKidRun (N : Nat) (a1 : Y_KidRun) : Option (Unit × (Y_KidRun × Unit)) :=
    ((T_laws_toIntS N a1.2.2.2.2.2.2.1).bind fun o2 =>
    ((T_laws_toEntryS N a1.2.2.2.2.2.2.2.1).bind fun o3 =>
      ((T_laws_toRowS N a1.2.2.2.2.2.2.2.2.1).bind fun o4 =>
        ((T_laws_toKidMarkS N a1.2.2.2.2.2.2.2.2.2.1).bind fun o5 =>
          ((T_laws_toProbe N a1.2.2.2.2.2.2.2.2.2.2.2).bind fun o6 =>
            (some ((), ((a1.1, (a1.2.1, (a1.2.2.1, (a1.2.2.2.1, (a1.2.2.2.2.1, (a1.2.2.2.2.2.1, (o2.2.1, (o3.2.1, (o4.2.1, (o5.2.1, (a1.2.2.2.2.2.2.2.2.2.2.1, o6.2.1))))))))))), ()))))))))

noncomputable def T_laws_toKidRunS_lp0 {R : Type} (N : Nat) (a2 : List Y_KidRun) (K0 : Int → Bool → (List Y_KidRun) → Option R) : Nat → Int → (List Y_KidRun) → Option R
  | 0, _, _ => none
  | n + 1, i3, l4 =>
    (bif decide (i3 < (ilen a2)) then
    (bif inb i3 (List.length a2) then
      ((T_laws_toKidRun N (List.getD a2 (Int.toNat i3) d_KidRun)).bind fun o9 =>
        (bif inb i3 (List.length l4) then
          (T_laws_toKidRunS_lp0 N a2 K0 n (iadd .i64 i3 (1 : Int)) (List.set l4 (Int.toNat i3) o9.2.1)) else none)) else none)
    else
    (K0 i3 (decide (i3 < (ilen a2))) l4))

noncomputable def T_laws_toKidRunS (N : Nat) (a1 : List Y_KidRun) : Option (Unit × ((List Y_KidRun) × Unit)) :=
    (bif ((decide ((0 : Int) ≤ (ilen a1))) && (decide ((ilen a1) ≤ (ilen a1)))) && (room (Int.toNat (ilen a1))) then
    (T_laws_toKidRunS_lp0 N a1
      (fun i10 t11 l12 =>
        (some ((), (l12, ()))))
       N (0 : Int) (List.replicate (Int.toNat (ilen a1)) d_KidRun)) else none)

noncomputable def T_laws_toFamily (N : Nat) (a1 : Y_Family) : Option (Unit × (Y_Family × Unit)) :=
    ((T_laws_toIntS N a1.2.2.2.2.1).bind fun o2 =>
    ((T_laws_toRowS N a1.2.2.2.2.2.1).bind fun o3 =>
      ((T_laws_toEntryS N a1.2.2.2.2.2.2.1).bind fun o4 =>
        ((T_laws_toIntS N a1.2.2.2.2.2.2.2.1).bind fun o5 =>
          ((T_laws_toRowS N a1.2.2.2.2.2.2.2.2.1).bind fun o6 =>
            ((T_laws_toKidRunS N a1.2.2.2.2.2.2.2.2.2).bind fun o7 =>
              (some ((), ((a1.1, (a1.2.1, (a1.2.2.1, (a1.2.2.2.1, (o2.2.1, (o3.2.1, (o4.2.1, (o5.2.1, (o6.2.1, o7.2.1))))))))), ())))))))))

noncomputable def T_laws_toRoot (N : Nat) (a1 : Y_Root) : Option (Unit × (Y_Root × Unit)) :=
    ((T_laws_toIntS N a1.2.2.2.2.2.2.2.2.2.2.2.2.1).bind fun o2 =>
    ((T_laws_toRowS N a1.2.2.2.2.2.2.2.2.2.2.2.2.2.1).bind fun o3 =>
      ((T_laws_toRowS N a1.2.2.2.2.2.2.2.2.2.2.2.2.2.2.1).bind fun o4 =>
        ((T_laws_toMarkS N a1.2.2.2.2.2.2.2.2.2.2.2.2.2.2.2.1).bind fun o5 =>
          ((T_laws_toUndoS N a1.2.2.2.2.2.2.2.2.2.2.2.2.2.2.2.2.1).bind fun o6 =>
            ((T_laws_toIntS N a1.2.2.2.2.2.2.2.2.2.2.2.2.2.2.2.2.2.1).bind fun o7 =>
              ((T_laws_toProbe N a1.2.2.2.2.2.2.2.2.2.2.2.2.2.2.2.2.2.2.2.1).bind fun o8 =>
                ((T_laws_toCommit N a1.2.2.2.2.2.2.2.2.2.2.2.2.2.2.2.2.2.2.2.2.1).bind fun o9 =>
                  ((T_laws_toFamily N a1.2.2.2.2.2.2.2.2.2.2.2.2.2.2.2.2.2.2.2.2.2).bind fun o10 =>
                    (some ((), ((a1.1, (a1.2.1, (a1.2.2.1, (a1.2.2.2.1, (a1.2.2.2.2.1, (a1.2.2.2.2.2.1, (a1.2.2.2.2.2.2.1, (a1.2.2.2.2.2.2.2.1, (a1.2.2.2.2.2.2.2.2.1, (a1.2.2.2.2.2.2.2.2.2.1, (a1.2.2.2.2.2.2.2.2.2.2.1, (a1.2.2.2.2.2.2.2.2.2.2.2.1, (o2.2.1, (o3.2.1, (o4.2.1, (o5.2.1, (o6.2.1, (o7.2.1, (a1.2.2.2.2.2.2.2.2.2.2.2.2.2.2.2.2.2.2.1, (o8.2.1, (o9.2.1, o10.2.1))))))))))))))))))))), ()))))))))))))

noncomputable def T_laws_toRootS_lp0 {R : Type} (N : Nat) (a2 : List Y_Root) (K0 : Int → Bool → (List Y_Root) → Option R) : Nat → Int → (List Y_Root) → Option R
  | 0, _, _ => none
  | n + 1, i3, l4 =>
    (bif decide (i3 < (ilen a2)) then
    (bif inb i3 (List.length a2) then
      ((T_laws_toRoot N (List.getD a2 (Int.toNat i3) d_Root)).bind fun o9 =>
        (bif inb i3 (List.length l4) then
          (T_laws_toRootS_lp0 N a2 K0 n (iadd .i64 i3 (1 : Int)) (List.set l4 (Int.toNat i3) o9.2.1)) else none)) else none)
    else
    (K0 i3 (decide (i3 < (ilen a2))) l4))

noncomputable def T_laws_toRootS (N : Nat) (a1 : List Y_Root) : Option (Unit × ((List Y_Root) × Unit)) :=
    (bif ((decide ((0 : Int) ≤ (ilen a1))) && (decide ((ilen a1) ≤ (ilen a1)))) && (room (Int.toNat (ilen a1))) then
    (T_laws_toRootS_lp0 N a1
      (fun i10 t11 l12 =>
        (some ((), (l12, ()))))
       N (0 : Int) (List.replicate (Int.toNat (ilen a1)) d_Root)) else none)

noncomputable def T_laws_toWrote (N : Nat) (a1 : Int × Int × List (Int × Int)) : Option (Unit × ((Int × Int × List (Int × Int)) × Unit)) :=
    ((T_laws_toRowS N a1.2.2).bind fun o2 =>
    (some ((), ((a1.1, (a1.2.1, o2.2.1)), ()))))

noncomputable def T_laws_toWroteS_lp0 {R : Type} (N : Nat) (a2 : List (Int × Int × List (Int × Int))) (K0 : Int → Bool → (List (Int × Int × List (Int × Int))) → Option R) : Nat → Int → (List (Int × Int × List (Int × Int))) → Option R
  | 0, _, _ => none
  | n + 1, i3, l4 =>
    (bif decide (i3 < (ilen a2)) then
    (bif inb i3 (List.length a2) then
      ((T_laws_toWrote N (List.getD a2 (Int.toNat i3) ((0 : Int), ((0 : Int), ([] : List (Int × Int)))))).bind fun o9 =>
        (bif inb i3 (List.length l4) then
          (T_laws_toWroteS_lp0 N a2 K0 n (iadd .i64 i3 (1 : Int)) (List.set l4 (Int.toNat i3) o9.2.1)) else none)) else none)
    else
    (K0 i3 (decide (i3 < (ilen a2))) l4))

noncomputable def T_laws_toWroteS (N : Nat) (a1 : List (Int × Int × List (Int × Int))) : Option (Unit × ((List (Int × Int × List (Int × Int))) × Unit)) :=
    (bif ((decide ((0 : Int) ≤ (ilen a1))) && (decide ((ilen a1) ≤ (ilen a1)))) && (room (Int.toNat (ilen a1))) then
    (T_laws_toWroteS_lp0 N a1
      (fun i10 t11 l12 =>
        (some ((), (l12, ()))))
       N (0 : Int) (List.replicate (Int.toNat (ilen a1)) ((0 : Int), ((0 : Int), ([] : List (Int × Int)))))) else none)

noncomputable def T_laws_toWorld (N : Nat) (a1 : Y_World) : Option (Unit × (Y_World × Unit)) :=
    ((T_laws_toMem N a1.2.2.1).bind fun o2 =>
    ((T_laws_toShelf N a1.2.2.2.1).bind fun o3 =>
      ((T_laws_toHoldS N a1.2.2.2.2.1).bind fun o4 =>
        ((T_laws_toRootS N a1.2.2.2.2.2.1).bind fun o5 =>
          ((T_laws_toWroteS N a1.2.2.2.2.2.2).bind fun o6 =>
            (some ((), ((a1.1, (a1.2.1, (o2.2.1, (o3.2.1, (o4.2.1, (o5.2.1, o6.2.1)))))), ()))))))))

noncomputable def T_spec_l1In (N : Nat) (x1 : Int) (low2 : Int) (high3 : Int) : Option (Unit × (Bool × Unit)) :=
    (bif decide (x1 ≥ low2) then
    (some ((), (decide (x1 ≤ high3), ())))
    else
    (some ((), (false, ()))))

noncomputable def T_spec_TallyOf_lp0 {R : Type} (N : Nat) (b3 : Y_World) (K0 : Int → Bool → Int → Int → Int → Int → Int → Option R) : Nat → Int → Int → Int → Int → Int → Int → Option R
  | 0, _, _, _, _, _, _ => none
  | n + 1, i2, b11, b12, b13, b14, b15 =>
    (bif decide (i2 < (ilen b3.2.2.2.2.2.1)) then
    (bif inb i2 (List.length b3.2.2.2.2.2.1) then
      (bif (List.getD b3.2.2.2.2.2.1 (Int.toNat i2) d_Root).1 == (0 : Int) then
        ((T_spec_l1In N (List.getD b3.2.2.2.2.2.1 (Int.toNat i2) d_Root).2.1 (1 : Int) (400 : Int)).bind fun o33 =>
          (bif o33.2.1 then
            (T_spec_TallyOf_lp0 N b3 K0 n (iadd .i64 i2 (1 : Int)) (iadd .i64 b11 (1 : Int)) b12 b13 b14 (iadd .i64 b15 (List.getD b3.2.2.2.2.2.1 (Int.toNat i2) d_Root).2.1))
            else
            (T_spec_TallyOf_lp0 N b3 K0 n (iadd .i64 i2 (1 : Int)) (iadd .i64 b11 (1 : Int)) b12 b13 b14 b15)))
        else
        (bif (List.getD b3.2.2.2.2.2.1 (Int.toNat i2) d_Root).1 != (8 : Int) then
          ((T_spec_l1In N (List.getD b3.2.2.2.2.2.1 (Int.toNat i2) d_Root).2.1 (1 : Int) (400 : Int)).bind fun o34 =>
            (bif o34.2.1 then
              (T_spec_TallyOf_lp0 N b3 K0 n (iadd .i64 i2 (1 : Int)) b11 (iadd .i64 b12 (1 : Int)) b13 b14 (iadd .i64 b15 (List.getD b3.2.2.2.2.2.1 (Int.toNat i2) d_Root).2.1))
              else
              (T_spec_TallyOf_lp0 N b3 K0 n (iadd .i64 i2 (1 : Int)) b11 (iadd .i64 b12 (1 : Int)) b13 b14 b15)))
          else
          (bif (List.getD b3.2.2.2.2.2.1 (Int.toNat i2) d_Root).2.2.2.2.2.2.2.1 == (1 : Int) then
            ((T_spec_l1In N (List.getD b3.2.2.2.2.2.1 (Int.toNat i2) d_Root).2.1 (1 : Int) (400 : Int)).bind fun o35 =>
              (bif o35.2.1 then
                (T_spec_TallyOf_lp0 N b3 K0 n (iadd .i64 i2 (1 : Int)) b11 b12 (iadd .i64 b13 (1 : Int)) b14 (iadd .i64 b15 (List.getD b3.2.2.2.2.2.1 (Int.toNat i2) d_Root).2.1))
                else
                (T_spec_TallyOf_lp0 N b3 K0 n (iadd .i64 i2 (1 : Int)) b11 b12 (iadd .i64 b13 (1 : Int)) b14 b15)))
            else
            ((T_spec_l1In N (List.getD b3.2.2.2.2.2.1 (Int.toNat i2) d_Root).2.1 (1 : Int) (400 : Int)).bind fun o36 =>
              (bif o36.2.1 then
                (T_spec_TallyOf_lp0 N b3 K0 n (iadd .i64 i2 (1 : Int)) b11 b12 b13 (iadd .i64 b14 (1 : Int)) (iadd .i64 b15 (List.getD b3.2.2.2.2.2.1 (Int.toNat i2) d_Root).2.1))
                else
                (T_spec_TallyOf_lp0 N b3 K0 n (iadd .i64 i2 (1 : Int)) b11 b12 b13 (iadd .i64 b14 (1 : Int)) b15)))))) else none)
    else
    (K0 i2 (decide (i2 < (ilen b3.2.2.2.2.2.1))) b11 b12 b13 b14 b15))

noncomputable def T_spec_TallyOf_lp1 {R : Type} (N : Nat) (b45 : Y_World) (b53 : Int) (b54 : Int) (b55 : Int) (b56 : Int) (b57 : Int) (K0 : Int → Bool → Int → Option R) : Nat → Int → Int → Option R
  | 0, _, _ => none
  | n + 1, i44, b58 =>
    (bif decide (i44 < (ilen b45.2.2.1.2)) then
    (bif inb i44 (List.length b45.2.2.1.2) then
      (bif (List.getD b45.2.2.1.2 (Int.toNat i44) ((0 : Int), ((0 : Int), (0 : Int)))).2.2 != (0 : Int) then
        (T_spec_TallyOf_lp1 N b45 b53 b54 b55 b56 b57 K0 n (iadd .i64 i44 (1 : Int)) (iadd .i64 b58 (1 : Int)))
        else
        (T_spec_TallyOf_lp1 N b45 b53 b54 b55 b56 b57 K0 n (iadd .i64 i44 (1 : Int)) b58)) else none)
    else
    (K0 i44 (decide (i44 < (ilen b45.2.2.1.2))) b58))

noncomputable def T_spec_TallyOf (N : Nat) (w1 : Y_World) : Option (Unit × ((Int × Int × Int × Int × Int × Int × Int) × Unit)) :=
    (T_spec_TallyOf_lp0 N w1
    (fun i37 t38 b39 b40 b41 b42 b43 =>
      (T_spec_TallyOf_lp1 N w1 b39 b40 b41 b42 b43
        (fun i63 t64 b65 =>
          (some ((), ((b39, (b40, (b41, (b42, (b43, (b65, ilen w1.2.2.2.2.1)))))), ()))))
         N (0 : Int) (0 : Int)))
     N (0 : Int) (0 : Int) (0 : Int) (0 : Int) (0 : Int) (0 : Int))

noncomputable def T_impl_Live_lp0 {R : Type} (N : Nat) (t2 : List Y_Root) (t3 : Int) (K0 : Int → Bool → (List Int) → Option R) : Nat → Int → (List Int) → Option R
  | 0, _, _ => none
  | n + 1, t4, l5 =>
    (bif decide (t4 < t3) then
    (bif inb t4 (List.length t2) then
      (bif (List.getD t2 (Int.toNat t4) d_Root).1 != (0 : Int) then
        (bif (List.getD t2 (Int.toNat t4) d_Root).1 != (8 : Int) then
          (bif room ((List.length l5) + (List.length ([t4]))) then
            (T_impl_Live_lp0 N t2 t3 K0 n (iadd .i64 t4 (1 : Int)) (List.append l5 ([t4]))) else none)
          else
          (T_impl_Live_lp0 N t2 t3 K0 n (iadd .i64 t4 (1 : Int)) l5))
        else
        (T_impl_Live_lp0 N t2 t3 K0 n (iadd .i64 t4 (1 : Int)) l5)) else none)
    else
    (K0 t4 (decide (t4 < t3)) l5))

noncomputable def T_impl_Live (N : Nat) (w1 : Y_World) : Option (Unit × ((List Int) × Unit)) :=
    (T_impl_Live_lp0 N w1.2.2.2.2.2.1 (ilen w1.2.2.2.2.2.1)
    (fun t9 t10 l11 =>
      (some ((), (l11, ()))))
     N (0 : Int) ([] : List Int))

noncomputable def T_impl_within (N : Nat) (x1 : Int) (lo2 : Int) (hi3 : Int) : Option (Unit × (Bool × Unit)) :=
    (bif decide (x1 ≥ lo2) then
    (some ((), (decide (x1 ≤ hi3), ())))
    else
    (some ((), (false, ()))))

noncomputable def T_impl_TallyOf_lp0 {R : Type} (N : Nat) (t3 : List Y_Root) (b6 : Y_World) (b15 : Int) (K0 : Int → Bool → Int → Int → Int → Int → Option R) : Nat → Int → Int → Int → Int → Int → Option R
  | 0, _, _, _, _, _ => none
  | n + 1, t5, b14, b16, b17, b18 =>
    (bif decide (t5 < (ilen b6.2.2.2.2.2.1)) then
    (bif inb t5 (List.length t3) then
      (bif (List.getD t3 (Int.toNat t5) d_Root).1 == (0 : Int) then
        ((T_impl_within N (List.getD t3 (Int.toNat t5) d_Root).2.1 (1 : Int) (400 : Int)).bind fun o39 =>
          (bif o39.2.1 then
            (T_impl_TallyOf_lp0 N t3 b6 b15 K0 n (iadd .i64 t5 (1 : Int)) (iadd .i64 b14 (1 : Int)) b16 b17 (iadd .i64 b18 (List.getD t3 (Int.toNat t5) d_Root).2.1))
            else
            (T_impl_TallyOf_lp0 N t3 b6 b15 K0 n (iadd .i64 t5 (1 : Int)) (iadd .i64 b14 (1 : Int)) b16 b17 b18)))
        else
        (bif (List.getD t3 (Int.toNat t5) d_Root).1 == (8 : Int) then
          (bif (List.getD t3 (Int.toNat t5) d_Root).2.2.2.2.2.2.2.1 == (1 : Int) then
            ((T_impl_within N (List.getD t3 (Int.toNat t5) d_Root).2.1 (1 : Int) (400 : Int)).bind fun o40 =>
              (bif o40.2.1 then
                (T_impl_TallyOf_lp0 N t3 b6 b15 K0 n (iadd .i64 t5 (1 : Int)) b14 (iadd .i64 b16 (1 : Int)) b17 (iadd .i64 b18 (List.getD t3 (Int.toNat t5) d_Root).2.1))
                else
                (T_impl_TallyOf_lp0 N t3 b6 b15 K0 n (iadd .i64 t5 (1 : Int)) b14 (iadd .i64 b16 (1 : Int)) b17 b18)))
            else
            (bif (List.getD t3 (Int.toNat t5) d_Root).1 == (8 : Int) then
              ((T_impl_within N (List.getD t3 (Int.toNat t5) d_Root).2.1 (1 : Int) (400 : Int)).bind fun o41 =>
                (bif o41.2.1 then
                  (T_impl_TallyOf_lp0 N t3 b6 b15 K0 n (iadd .i64 t5 (1 : Int)) b14 b16 (iadd .i64 b17 (1 : Int)) (iadd .i64 b18 (List.getD t3 (Int.toNat t5) d_Root).2.1))
                  else
                  (T_impl_TallyOf_lp0 N t3 b6 b15 K0 n (iadd .i64 t5 (1 : Int)) b14 b16 (iadd .i64 b17 (1 : Int)) b18)))
              else
              ((T_impl_within N (List.getD t3 (Int.toNat t5) d_Root).2.1 (1 : Int) (400 : Int)).bind fun o42 =>
                (bif o42.2.1 then
                  (T_impl_TallyOf_lp0 N t3 b6 b15 K0 n (iadd .i64 t5 (1 : Int)) b14 b16 b17 (iadd .i64 b18 (List.getD t3 (Int.toNat t5) d_Root).2.1))
                  else
                  (T_impl_TallyOf_lp0 N t3 b6 b15 K0 n (iadd .i64 t5 (1 : Int)) b14 b16 b17 b18)))))
          else
          (bif (List.getD t3 (Int.toNat t5) d_Root).1 == (8 : Int) then
            ((T_impl_within N (List.getD t3 (Int.toNat t5) d_Root).2.1 (1 : Int) (400 : Int)).bind fun o43 =>
              (bif o43.2.1 then
                (T_impl_TallyOf_lp0 N t3 b6 b15 K0 n (iadd .i64 t5 (1 : Int)) b14 b16 (iadd .i64 b17 (1 : Int)) (iadd .i64 b18 (List.getD t3 (Int.toNat t5) d_Root).2.1))
                else
                (T_impl_TallyOf_lp0 N t3 b6 b15 K0 n (iadd .i64 t5 (1 : Int)) b14 b16 (iadd .i64 b17 (1 : Int)) b18)))
            else
            ((T_impl_within N (List.getD t3 (Int.toNat t5) d_Root).2.1 (1 : Int) (400 : Int)).bind fun o44 =>
              (bif o44.2.1 then
                (T_impl_TallyOf_lp0 N t3 b6 b15 K0 n (iadd .i64 t5 (1 : Int)) b14 b16 b17 (iadd .i64 b18 (List.getD t3 (Int.toNat t5) d_Root).2.1))
                else
                (T_impl_TallyOf_lp0 N t3 b6 b15 K0 n (iadd .i64 t5 (1 : Int)) b14 b16 b17 b18)))))) else none)
    else
    (K0 t5 (decide (t5 < (ilen b6.2.2.2.2.2.1))) b14 b16 b17 b18))

noncomputable def T_impl_TallyOf_lp1 {R : Type} (N : Nat) (t51 : List (Int × Int × Int)) (t52 : Int) (b61 : Int) (b62 : Int) (b63 : Int) (b64 : Int) (b65 : Int) (b67 : Int) (K0 : Int → Bool → Int → Option R) : Nat → Int → Int → Option R
  | 0, _, _ => none
  | n + 1, t53, b66 =>
    (bif decide (t53 < t52) then
    (bif inb t53 (List.length t51) then
      (bif (List.getD t51 (Int.toNat t53) ((0 : Int), ((0 : Int), (0 : Int)))).2.2 != (0 : Int) then
        (T_impl_TallyOf_lp1 N t51 t52 b61 b62 b63 b64 b65 b67 K0 n (iadd .i64 t53 (1 : Int)) (iadd .i64 b66 (1 : Int)))
        else
        (T_impl_TallyOf_lp1 N t51 t52 b61 b62 b63 b64 b65 b67 K0 n (iadd .i64 t53 (1 : Int)) b66)) else none)
    else
    (K0 t53 (decide (t53 < t52)) b66))

noncomputable def T_impl_TallyOf (N : Nat) (w1 : Y_World) : Option (Unit × ((Int × Int × Int × Int × Int × Int × Int) × Unit)) :=
    (both
    ((T_impl_Live N w1).bind fun o2 =>
      (T_impl_TallyOf_lp0 N w1.2.2.2.2.2.1 w1 (ilen o2.2.1)
        (fun t45 t46 b47 b48 b49 b50 =>
          (T_impl_TallyOf_lp1 N w1.2.2.1.2 (ilen w1.2.2.1.2) b47 (ilen o2.2.1) b48 b49 b50 (ilen w1.2.2.2.2.1)
            (fun t71 t72 b73 =>
              (some ((), ((b47, (ilen o2.2.1, (b48, (b49, (b50, (b73, ilen w1.2.2.2.2.1)))))), ()))))
             N (0 : Int) (0 : Int)))
         N (0 : Int) (0 : Int) (0 : Int) (0 : Int) (0 : Int)))
    ((T_impl_Live N w1).bind fun o74 =>
      (T_impl_TallyOf_lp0 N w1.2.2.2.2.2.1 w1 (ilen o74.2.1)
        (fun t75 t76 b77 b78 b79 b80 =>
          (T_impl_TallyOf_lp1 N w1.2.2.1.2 (ilen w1.2.2.1.2) b77 (ilen o74.2.1) b78 b79 b80 (ilen w1.2.2.2.2.1)
            (fun t81 t82 b83 =>
              (some ((), ((b77, (ilen o74.2.1, (b78, (b79, (b80, (b83, ilen w1.2.2.2.2.1)))))), ()))))
             N (0 : Int) (0 : Int)))
         N (0 : Int) (0 : Int) (0 : Int) (0 : Int) (0 : Int))))

noncomputable def T_laws_eqTally (N : Nat) (a1 : Int × Int × Int × Int × Int × Int × Int) (b2 : Int × Int × Int × Int × Int × Int × Int) : Option (Unit × (Bool × Unit)) :=
    (bif a1.1 != b2.1 then
    (some ((), (false, ())))
    else
    (bif a1.2.1 != b2.2.1 then
      (some ((), (false, ())))
      else
      (bif a1.2.2.1 != b2.2.2.1 then
        (some ((), (false, ())))
        else
        (bif a1.2.2.2.1 != b2.2.2.2.1 then
          (some ((), (false, ())))
          else
          (bif a1.2.2.2.2.1 != b2.2.2.2.2.1 then
            (some ((), (false, ())))
            else
            (bif a1.2.2.2.2.2.1 != b2.2.2.2.2.2.1 then
              (some ((), (false, ())))
              else
              (bif a1.2.2.2.2.2.2 != b2.2.2.2.2.2.2 then
                (some ((), (false, ())))
                else
                (some ((), (true, ()))))))))))

noncomputable def T_laws_eqWord (N : Nat) (a1 : Int × Int × Int) (b2 : Int × Int × Int) : Option (Unit × (Bool × Unit)) :=
    (bif a1.1 != b2.1 then
    (some ((), (false, ())))
    else
    (bif a1.2.1 != b2.2.1 then
      (some ((), (false, ())))
      else
      (bif a1.2.2 != b2.2.2 then
        (some ((), (false, ())))
        else
        (some ((), (true, ()))))))

noncomputable def T_laws_eqWordS_lp0 {R : Type} (N : Nat) (a3 : List (Int × Int × Int)) (b4 : List (Int × Int × Int)) (K0 : Option R) (K1 : Int → Bool → Option R) : Nat → Int → Option R
  | 0, _ => none
  | n + 1, i5 =>
    (bif decide (i5 < (ilen a3)) then
    (bif inb i5 (List.length a3) then
      (bif inb i5 (List.length b4) then
        ((T_laws_eqWord N (List.getD a3 (Int.toNat i5) ((0 : Int), ((0 : Int), (0 : Int)))) (List.getD b4 (Int.toNat i5) ((0 : Int), ((0 : Int), (0 : Int))))).bind fun o9 =>
          (bif !o9.2.1 then
            K0
            else
            (T_laws_eqWordS_lp0 N a3 b4 K0 K1 n (iadd .i64 i5 (1 : Int))))) else none) else none)
    else
    (K1 i5 (decide (i5 < (ilen a3)))))

noncomputable def T_laws_eqWordS (N : Nat) (a1 : List (Int × Int × Int)) (b2 : List (Int × Int × Int)) : Option (Unit × (Bool × Unit)) :=
    (bif (ilen a1) != (ilen b2) then
    (some ((), (false, ())))
    else
    (T_laws_eqWordS_lp0 N a1 b2
      (some ((), (false, ())))
      (fun i10 t11 =>
        (some ((), (true, ()))))
       N (0 : Int)))

noncomputable def T_laws_eqMem (N : Nat) (a1 : Int × List (Int × Int × Int)) (b2 : Int × List (Int × Int × Int)) : Option (Unit × (Bool × Unit)) :=
    (bif a1.1 != b2.1 then
    (some ((), (false, ())))
    else
    ((T_laws_eqWordS N a1.2 b2.2).bind fun o3 =>
      (bif !o3.2.1 then
        (some ((), (false, ())))
        else
        (some ((), (true, ()))))))

noncomputable def T_laws_eqIntS_lp0 {R : Type} (N : Nat) (a3 : List Int) (b4 : List Int) (K0 : Option R) (K1 : Int → Bool → Option R) : Nat → Int → Option R
  | 0, _ => none
  | n + 1, i5 =>
    (bif decide (i5 < (ilen a3)) then
    (bif inb i5 (List.length a3) then
      (bif inb i5 (List.length b4) then
        (bif (List.getD a3 (Int.toNat i5) (0 : Int)) != (List.getD b4 (Int.toNat i5) (0 : Int)) then
          K0
          else
          (T_laws_eqIntS_lp0 N a3 b4 K0 K1 n (iadd .i64 i5 (1 : Int)))) else none) else none)
    else
    (K1 i5 (decide (i5 < (ilen a3)))))

noncomputable def T_laws_eqIntS (N : Nat) (a1 : List Int) (b2 : List Int) : Option (Unit × (Bool × Unit)) :=
    (bif (ilen a1) != (ilen b2) then
    (some ((), (false, ())))
    else
    (T_laws_eqIntS_lp0 N a1 b2
      (some ((), (false, ())))
      (fun i8 t9 =>
        (some ((), (true, ()))))
       N (0 : Int)))

noncomputable def T_laws_eqShelf (N : Nat) (a1 : List Int × Int) (b2 : List Int × Int) : Option (Unit × (Bool × Unit)) :=
    ((T_laws_eqIntS N a1.1 b2.1).bind fun o3 =>
    (bif !o3.2.1 then
      (some ((), (false, ())))
      else
      (bif a1.2 != b2.2 then
        (some ((), (false, ())))
        else
        (some ((), (true, ()))))))

noncomputable def T_laws_eqHold (N : Nat) (a1 : Int × Int × Int) (b2 : Int × Int × Int) : Option (Unit × (Bool × Unit)) :=
    (bif a1.1 != b2.1 then
    (some ((), (false, ())))
    else
    (bif a1.2.1 != b2.2.1 then
      (some ((), (false, ())))
      else
      (bif a1.2.2 != b2.2.2 then
        (some ((), (false, ())))
        else
        (some ((), (true, ()))))))

noncomputable def T_laws_eqHoldS_lp0 {R : Type} (N : Nat) (a3 : List (Int × Int × Int)) (b4 : List (Int × Int × Int)) (K0 : Option R) (K1 : Int → Bool → Option R) : Nat → Int → Option R
  | 0, _ => none
  | n + 1, i5 =>
    (bif decide (i5 < (ilen a3)) then
    (bif inb i5 (List.length a3) then
      (bif inb i5 (List.length b4) then
        ((T_laws_eqHold N (List.getD a3 (Int.toNat i5) ((0 : Int), ((0 : Int), (0 : Int)))) (List.getD b4 (Int.toNat i5) ((0 : Int), ((0 : Int), (0 : Int))))).bind fun o9 =>
          (bif !o9.2.1 then
            K0
            else
            (T_laws_eqHoldS_lp0 N a3 b4 K0 K1 n (iadd .i64 i5 (1 : Int))))) else none) else none)
    else
    (K1 i5 (decide (i5 < (ilen a3)))))

noncomputable def T_laws_eqHoldS (N : Nat) (a1 : List (Int × Int × Int)) (b2 : List (Int × Int × Int)) : Option (Unit × (Bool × Unit)) :=
    (bif (ilen a1) != (ilen b2) then
    (some ((), (false, ())))
    else
    (T_laws_eqHoldS_lp0 N a1 b2
      (some ((), (false, ())))
      (fun i10 t11 =>
        (some ((), (true, ()))))
       N (0 : Int)))

noncomputable def T_laws_eqRow (N : Nat) (a1 : Int × Int) (b2 : Int × Int) : Option (Unit × (Bool × Unit)) :=
    (bif a1.1 != b2.1 then
    (some ((), (false, ())))
    else
    (bif a1.2 != b2.2 then
      (some ((), (false, ())))
      else
      (some ((), (true, ())))))

noncomputable def T_laws_eqRowS_lp0 {R : Type} (N : Nat) (a3 : List (Int × Int)) (b4 : List (Int × Int)) (K0 : Option R) (K1 : Int → Bool → Option R) : Nat → Int → Option R
  | 0, _ => none
  | n + 1, i5 =>
    (bif decide (i5 < (ilen a3)) then
    (bif inb i5 (List.length a3) then
      (bif inb i5 (List.length b4) then
        ((T_laws_eqRow N (List.getD a3 (Int.toNat i5) ((0 : Int), (0 : Int))) (List.getD b4 (Int.toNat i5) ((0 : Int), (0 : Int)))).bind fun o9 =>
          (bif !o9.2.1 then
            K0
            else
            (T_laws_eqRowS_lp0 N a3 b4 K0 K1 n (iadd .i64 i5 (1 : Int))))) else none) else none)
    else
    (K1 i5 (decide (i5 < (ilen a3)))))

noncomputable def T_laws_eqRowS (N : Nat) (a1 : List (Int × Int)) (b2 : List (Int × Int)) : Option (Unit × (Bool × Unit)) :=
    (bif (ilen a1) != (ilen b2) then
    (some ((), (false, ())))
    else
    (T_laws_eqRowS_lp0 N a1 b2
      (some ((), (false, ())))
      (fun i10 t11 =>
        (some ((), (true, ()))))
       N (0 : Int)))

noncomputable def T_laws_eqMark (N : Nat) (a1 : Int × Int × Int × Int × List Int) (b2 : Int × Int × Int × Int × List Int) : Option (Unit × (Bool × Unit)) :=
    (bif a1.1 != b2.1 then
    (some ((), (false, ())))
    else
    (bif a1.2.1 != b2.2.1 then
      (some ((), (false, ())))
      else
      (bif a1.2.2.1 != b2.2.2.1 then
        (some ((), (false, ())))
        else
        (bif a1.2.2.2.1 != b2.2.2.2.1 then
          (some ((), (false, ())))
          else
          ((T_laws_eqIntS N a1.2.2.2.2 b2.2.2.2.2).bind fun o3 =>
            (bif !o3.2.1 then
              (some ((), (false, ())))
              else
              (some ((), (true, ())))))))))

noncomputable def T_laws_eqMarkS_lp0 {R : Type} (N : Nat) (a3 : List (Int × Int × Int × Int × List Int)) (b4 : List (Int × Int × Int × Int × List Int)) (K0 : Option R) (K1 : Int → Bool → Option R) : Nat → Int → Option R
  | 0, _ => none
  | n + 1, i5 =>
    (bif decide (i5 < (ilen a3)) then
    (bif inb i5 (List.length a3) then
      (bif inb i5 (List.length b4) then
        ((T_laws_eqMark N (List.getD a3 (Int.toNat i5) ((0 : Int), ((0 : Int), ((0 : Int), ((0 : Int), ([] : List Int)))))) (List.getD b4 (Int.toNat i5) ((0 : Int), ((0 : Int), ((0 : Int), ((0 : Int), ([] : List Int))))))).bind fun o9 =>
          (bif !o9.2.1 then
            K0
            else
            (T_laws_eqMarkS_lp0 N a3 b4 K0 K1 n (iadd .i64 i5 (1 : Int))))) else none) else none)
    else
    (K1 i5 (decide (i5 < (ilen a3)))))

noncomputable def T_laws_eqMarkS (N : Nat) (a1 : List (Int × Int × Int × Int × List Int)) (b2 : List (Int × Int × Int × Int × List Int)) : Option (Unit × (Bool × Unit)) :=
    (bif (ilen a1) != (ilen b2) then
    (some ((), (false, ())))
    else
    (T_laws_eqMarkS_lp0 N a1 b2
      (some ((), (false, ())))
      (fun i10 t11 =>
        (some ((), (true, ()))))
       N (0 : Int)))

noncomputable def T_laws_eqUndo (N : Nat) (a1 : Int × Int × Int) (b2 : Int × Int × Int) : Option (Unit × (Bool × Unit)) :=
    (bif a1.1 != b2.1 then
    (some ((), (false, ())))
    else
    (bif a1.2.1 != b2.2.1 then
      (some ((), (false, ())))
      else
      (bif a1.2.2 != b2.2.2 then
        (some ((), (false, ())))
        else
        (some ((), (true, ()))))))

noncomputable def T_laws_eqUndoS_lp0 {R : Type} (N : Nat) (a3 : List (Int × Int × Int)) (b4 : List (Int × Int × Int)) (K0 : Option R) (K1 : Int → Bool → Option R) : Nat → Int → Option R
  | 0, _ => none
  | n + 1, i5 =>
    (bif decide (i5 < (ilen a3)) then
    (bif inb i5 (List.length a3) then
      (bif inb i5 (List.length b4) then
        ((T_laws_eqUndo N (List.getD a3 (Int.toNat i5) ((0 : Int), ((0 : Int), (0 : Int)))) (List.getD b4 (Int.toNat i5) ((0 : Int), ((0 : Int), (0 : Int))))).bind fun o9 =>
          (bif !o9.2.1 then
            K0
            else
            (T_laws_eqUndoS_lp0 N a3 b4 K0 K1 n (iadd .i64 i5 (1 : Int))))) else none) else none)
    else
    (K1 i5 (decide (i5 < (ilen a3)))))

noncomputable def T_laws_eqUndoS (N : Nat) (a1 : List (Int × Int × Int)) (b2 : List (Int × Int × Int)) : Option (Unit × (Bool × Unit)) :=
    (bif (ilen a1) != (ilen b2) then
    (some ((), (false, ())))
    else
    (T_laws_eqUndoS_lp0 N a1 b2
      (some ((), (false, ())))
      (fun i10 t11 =>
        (some ((), (true, ()))))
       N (0 : Int)))

noncomputable def T_laws_eqProbe (N : Nat) (a1 : Int × Int × Int × Int) (b2 : Int × Int × Int × Int) : Option (Unit × (Bool × Unit)) :=
    (bif a1.1 != b2.1 then
    (some ((), (false, ())))
    else
    (bif a1.2.1 != b2.2.1 then
      (some ((), (false, ())))
      else
      (bif a1.2.2.1 != b2.2.2.1 then
        (some ((), (false, ())))
        else
        (bif a1.2.2.2 != b2.2.2.2 then
          (some ((), (false, ())))
          else
          (some ((), (true, ())))))))

noncomputable def T_laws_eqCommit (N : Nat) (a1 : Int × Int × Int × Int × Int × List (Int × Int) × List Int) (b2 : Int × Int × Int × Int × Int × List (Int × Int) × List Int) : Option (Unit × (Bool × Unit)) :=
    (bif a1.1 != b2.1 then
    (some ((), (false, ())))
    else
    (bif a1.2.1 != b2.2.1 then
      (some ((), (false, ())))
      else
      (bif a1.2.2.1 != b2.2.2.1 then
        (some ((), (false, ())))
        else
        (bif a1.2.2.2.1 != b2.2.2.2.1 then
          (some ((), (false, ())))
          else
          (bif a1.2.2.2.2.1 != b2.2.2.2.2.1 then
            (some ((), (false, ())))
            else
            ((T_laws_eqRowS N a1.2.2.2.2.2.1 b2.2.2.2.2.2.1).bind fun o3 =>
              (bif !o3.2.1 then
                (some ((), (false, ())))
                else
                ((T_laws_eqIntS N a1.2.2.2.2.2.2 b2.2.2.2.2.2.2).bind fun o4 =>
                  (bif !o4.2.1 then
                    (some ((), (false, ())))
                    else
                    (some ((), (true, ()))))))))))))

noncomputable def T_laws_eqEntry (N : Nat) (a1 : Int × Int × Int) (b2 : Int × Int × Int) : Option (Unit × (Bool × Unit)) :=
    (bif a1.1 != b2.1 then
    (some ((), (false, ())))
    else
    (bif a1.2.1 != b2.2.1 then
      (some ((), (false, ())))
      else
      (bif a1.2.2 != b2.2.2 then
        (some ((), (false, ())))
        else
        (some ((), (true, ()))))))

noncomputable def T_laws_eqEntryS_lp0 {R : Type} (N : Nat) (a3 : List (Int × Int × Int)) (b4 : List (Int × Int × Int)) (K0 : Option R) (K1 : Int → Bool → Option R) : Nat → Int → Option R
  | 0, _ => none
  | n + 1, i5 =>
    (bif decide (i5 < (ilen a3)) then
    (bif inb i5 (List.length a3) then
      (bif inb i5 (List.length b4) then
        ((T_laws_eqEntry N (List.getD a3 (Int.toNat i5) ((0 : Int), ((0 : Int), (0 : Int)))) (List.getD b4 (Int.toNat i5) ((0 : Int), ((0 : Int), (0 : Int))))).bind fun o9 =>
          (bif !o9.2.1 then
            K0
            else
            (T_laws_eqEntryS_lp0 N a3 b4 K0 K1 n (iadd .i64 i5 (1 : Int))))) else none) else none)
    else
    (K1 i5 (decide (i5 < (ilen a3)))))

noncomputable def T_laws_eqEntryS (N : Nat) (a1 : List (Int × Int × Int)) (b2 : List (Int × Int × Int)) : Option (Unit × (Bool × Unit)) :=
    (bif (ilen a1) != (ilen b2) then
    (some ((), (false, ())))
    else
    (T_laws_eqEntryS_lp0 N a1 b2
      (some ((), (false, ())))
      (fun i10 t11 =>
        (some ((), (true, ()))))
       N (0 : Int)))

noncomputable def T_laws_eqKidMark (N : Nat) (a1 : Int × Int × List Int) (b2 : Int × Int × List Int) : Option (Unit × (Bool × Unit)) :=
    (bif a1.1 != b2.1 then
    (some ((), (false, ())))
    else
    (bif a1.2.1 != b2.2.1 then
      (some ((), (false, ())))
      else
      ((T_laws_eqIntS N a1.2.2 b2.2.2).bind fun o3 =>
        (bif !o3.2.1 then
          (some ((), (false, ())))
          else
          (some ((), (true, ())))))))

noncomputable def T_laws_eqKidMarkS_lp0 {R : Type} (N : Nat) (a3 : List (Int × Int × List Int)) (b4 : List (Int × Int × List Int)) (K0 : Option R) (K1 : Int → Bool → Option R) : Nat → Int → Option R
  | 0, _ => none
  | n + 1, i5 =>
    (bif decide (i5 < (ilen a3)) then
    (bif inb i5 (List.length a3) then
      (bif inb i5 (List.length b4) then
        ((T_laws_eqKidMark N (List.getD a3 (Int.toNat i5) ((0 : Int), ((0 : Int), ([] : List Int)))) (List.getD b4 (Int.toNat i5) ((0 : Int), ((0 : Int), ([] : List Int))))).bind fun o9 =>
          (bif !o9.2.1 then
            K0
            else
            (T_laws_eqKidMarkS_lp0 N a3 b4 K0 K1 n (iadd .i64 i5 (1 : Int))))) else none) else none)
    else
    (K1 i5 (decide (i5 < (ilen a3)))))

noncomputable def T_laws_eqKidMarkS (N : Nat) (a1 : List (Int × Int × List Int)) (b2 : List (Int × Int × List Int)) : Option (Unit × (Bool × Unit)) :=
    (bif (ilen a1) != (ilen b2) then
    (some ((), (false, ())))
    else
    (T_laws_eqKidMarkS_lp0 N a1 b2
      (some ((), (false, ())))
      (fun i10 t11 =>
        (some ((), (true, ()))))
       N (0 : Int)))

noncomputable def T_laws_eqKidRun (N : Nat) (a1 : Y_KidRun) (b2 : Y_KidRun) : Option (Unit × (Bool × Unit)) :=
    (bif a1.1 != b2.1 then
    (some ((), (false, ())))
    else
    (bif a1.2.1 != b2.2.1 then
      (some ((), (false, ())))
      else
      (bif a1.2.2.1 != b2.2.2.1 then
        (some ((), (false, ())))
        else
        (bif a1.2.2.2.1 != b2.2.2.2.1 then
          (some ((), (false, ())))
          else
          (bif a1.2.2.2.2.1 != b2.2.2.2.2.1 then
            (some ((), (false, ())))
            else
            (bif a1.2.2.2.2.2.1 != b2.2.2.2.2.2.1 then
              (some ((), (false, ())))
              else
              ((T_laws_eqIntS N a1.2.2.2.2.2.2.1 b2.2.2.2.2.2.2.1).bind fun o3 =>
                (bif !o3.2.1 then
                  (some ((), (false, ())))
                  else
                  ((T_laws_eqEntryS N a1.2.2.2.2.2.2.2.1 b2.2.2.2.2.2.2.2.1).bind fun o4 =>
                    (bif !o4.2.1 then
                      (some ((), (false, ())))
                      else
                      ((T_laws_eqRowS N a1.2.2.2.2.2.2.2.2.1 b2.2.2.2.2.2.2.2.2.1).bind fun o5 =>
                        (bif !o5.2.1 then
                          (some ((), (false, ())))
                          else
                          ((T_laws_eqKidMarkS N a1.2.2.2.2.2.2.2.2.2.1 b2.2.2.2.2.2.2.2.2.2.1).bind fun o6 =>
                            (bif !o6.2.1 then
                              (some ((), (false, ())))
                              else
                              (bif !(beq a1.2.2.2.2.2.2.2.2.2.2.1 b2.2.2.2.2.2.2.2.2.2.2.1) then
                                (some ((), (false, ())))
                                else
                                ((T_laws_eqProbe N a1.2.2.2.2.2.2.2.2.2.2.2 b2.2.2.2.2.2.2.2.2.2.2.2).bind fun o7 =>
                                  (bif !o7.2.1 then
                                    (some ((), (false, ())))
                                    else
                                    (some ((), (true, ()))))))))))))))))))))

noncomputable def T_laws_eqKidRunS_lp0 {R : Type} (N : Nat) (a3 : List Y_KidRun) (b4 : List Y_KidRun) (K0 : Option R) (K1 : Int → Bool → Option R) : Nat → Int → Option R
  | 0, _ => none
  | n + 1, i5 =>
    (bif decide (i5 < (ilen a3)) then
    (bif inb i5 (List.length a3) then
      (bif inb i5 (List.length b4) then
        ((T_laws_eqKidRun N (List.getD a3 (Int.toNat i5) d_KidRun) (List.getD b4 (Int.toNat i5) d_KidRun)).bind fun o9 =>
          (bif !o9.2.1 then
            K0
            else
            (T_laws_eqKidRunS_lp0 N a3 b4 K0 K1 n (iadd .i64 i5 (1 : Int))))) else none) else none)
    else
    (K1 i5 (decide (i5 < (ilen a3)))))

noncomputable def T_laws_eqKidRunS (N : Nat) (a1 : List Y_KidRun) (b2 : List Y_KidRun) : Option (Unit × (Bool × Unit)) :=
    (bif (ilen a1) != (ilen b2) then
    (some ((), (false, ())))
    else
    (T_laws_eqKidRunS_lp0 N a1 b2
      (some ((), (false, ())))
      (fun i10 t11 =>
        (some ((), (true, ()))))
       N (0 : Int)))

noncomputable def T_laws_eqFamily (N : Nat) (a1 : Y_Family) (b2 : Y_Family) : Option (Unit × (Bool × Unit)) :=
    (bif a1.1 != b2.1 then
    (some ((), (false, ())))
    else
    (bif a1.2.1 != b2.2.1 then
      (some ((), (false, ())))
      else
      (bif a1.2.2.1 != b2.2.2.1 then
        (some ((), (false, ())))
        else
        (bif !(beq a1.2.2.2.1 b2.2.2.2.1) then
          (some ((), (false, ())))
          else
          ((T_laws_eqIntS N a1.2.2.2.2.1 b2.2.2.2.2.1).bind fun o3 =>
            (bif !o3.2.1 then
              (some ((), (false, ())))
              else
              ((T_laws_eqRowS N a1.2.2.2.2.2.1 b2.2.2.2.2.2.1).bind fun o4 =>
                (bif !o4.2.1 then
                  (some ((), (false, ())))
                  else
                  ((T_laws_eqEntryS N a1.2.2.2.2.2.2.1 b2.2.2.2.2.2.2.1).bind fun o5 =>
                    (bif !o5.2.1 then
                      (some ((), (false, ())))
                      else
                      ((T_laws_eqIntS N a1.2.2.2.2.2.2.2.1 b2.2.2.2.2.2.2.2.1).bind fun o6 =>
                        (bif !o6.2.1 then
                          (some ((), (false, ())))
                          else
                          ((T_laws_eqRowS N a1.2.2.2.2.2.2.2.2.1 b2.2.2.2.2.2.2.2.2.1).bind fun o7 =>
                            (bif !o7.2.1 then
                              (some ((), (false, ())))
                              else
                              ((T_laws_eqKidRunS N a1.2.2.2.2.2.2.2.2.2 b2.2.2.2.2.2.2.2.2.2).bind fun o8 =>
                                (bif !o8.2.1 then
                                  (some ((), (false, ())))
                                  else
                                  (some ((), (true, ())))))))))))))))))))

noncomputable def T_laws_eqRoot (N : Nat) (a1 : Y_Root) (b2 : Y_Root) : Option (Unit × (Bool × Unit)) :=
    (bif a1.1 != b2.1 then
    (some ((), (false, ())))
    else
    (bif a1.2.1 != b2.2.1 then
      (some ((), (false, ())))
      else
      (bif a1.2.2.1 != b2.2.2.1 then
        (some ((), (false, ())))
        else
        (bif a1.2.2.2.1 != b2.2.2.2.1 then
          (some ((), (false, ())))
          else
          (bif a1.2.2.2.2.1 != b2.2.2.2.2.1 then
            (some ((), (false, ())))
            else
            (bif a1.2.2.2.2.2.1 != b2.2.2.2.2.2.1 then
              (some ((), (false, ())))
              else
              (bif a1.2.2.2.2.2.2.1 != b2.2.2.2.2.2.2.1 then
                (some ((), (false, ())))
                else
                (bif a1.2.2.2.2.2.2.2.1 != b2.2.2.2.2.2.2.2.1 then
                  (some ((), (false, ())))
                  else
                  (bif a1.2.2.2.2.2.2.2.2.1 != b2.2.2.2.2.2.2.2.2.1 then
                    (some ((), (false, ())))
                    else
                    (bif a1.2.2.2.2.2.2.2.2.2.1 != b2.2.2.2.2.2.2.2.2.2.1 then
                      (some ((), (false, ())))
                      else
                      (bif a1.2.2.2.2.2.2.2.2.2.2.1 != b2.2.2.2.2.2.2.2.2.2.2.1 then
                        (some ((), (false, ())))
                        else
                        (bif !(beq a1.2.2.2.2.2.2.2.2.2.2.2.1 b2.2.2.2.2.2.2.2.2.2.2.2.1) then
                          (some ((), (false, ())))
                          else
                          ((T_laws_eqIntS N a1.2.2.2.2.2.2.2.2.2.2.2.2.1 b2.2.2.2.2.2.2.2.2.2.2.2.2.1).bind fun o3 =>
                            (bif !o3.2.1 then
                              (some ((), (false, ())))
                              else
                              ((T_laws_eqRowS N a1.2.2.2.2.2.2.2.2.2.2.2.2.2.1 b2.2.2.2.2.2.2.2.2.2.2.2.2.2.1).bind fun o4 =>
                                (bif !o4.2.1 then
                                  (some ((), (false, ())))
                                  else
                                  ((T_laws_eqRowS N a1.2.2.2.2.2.2.2.2.2.2.2.2.2.2.1 b2.2.2.2.2.2.2.2.2.2.2.2.2.2.2.1).bind fun o5 =>
                                    (bif !o5.2.1 then
                                      (some ((), (false, ())))
                                      else
                                      ((T_laws_eqMarkS N a1.2.2.2.2.2.2.2.2.2.2.2.2.2.2.2.1 b2.2.2.2.2.2.2.2.2.2.2.2.2.2.2.2.1).bind fun o6 =>
                                        (bif !o6.2.1 then
                                          (some ((), (false, ())))
                                          else
                                          ((T_laws_eqUndoS N a1.2.2.2.2.2.2.2.2.2.2.2.2.2.2.2.2.1 b2.2.2.2.2.2.2.2.2.2.2.2.2.2.2.2.2.1).bind fun o7 =>
                                            (bif !o7.2.1 then
                                              (some ((), (false, ())))
                                              else
                                              ((T_laws_eqIntS N a1.2.2.2.2.2.2.2.2.2.2.2.2.2.2.2.2.2.1 b2.2.2.2.2.2.2.2.2.2.2.2.2.2.2.2.2.2.1).bind fun o8 =>
                                                (bif !o8.2.1 then
                                                  (some ((), (false, ())))
                                                  else
                                                  (bif !(beq a1.2.2.2.2.2.2.2.2.2.2.2.2.2.2.2.2.2.2.1 b2.2.2.2.2.2.2.2.2.2.2.2.2.2.2.2.2.2.2.1) then
                                                    (some ((), (false, ())))
                                                    else
                                                    ((T_laws_eqProbe N a1.2.2.2.2.2.2.2.2.2.2.2.2.2.2.2.2.2.2.2.1 b2.2.2.2.2.2.2.2.2.2.2.2.2.2.2.2.2.2.2.2.1).bind fun o9 =>
                                                      (bif !o9.2.1 then
                                                        (some ((), (false, ())))
                                                        else
                                                        ((T_laws_eqCommit N a1.2.2.2.2.2.2.2.2.2.2.2.2.2.2.2.2.2.2.2.2.1 b2.2.2.2.2.2.2.2.2.2.2.2.2.2.2.2.2.2.2.2.2.1).bind fun o10 =>
                                                          (bif !o10.2.1 then
                                                            (some ((), (false, ())))
                                                            else
                                                            ((T_laws_eqFamily N a1.2.2.2.2.2.2.2.2.2.2.2.2.2.2.2.2.2.2.2.2.2 b2.2.2.2.2.2.2.2.2.2.2.2.2.2.2.2.2.2.2.2.2.2).bind fun o11 =>
                                                              (bif !o11.2.1 then
                                                                (some ((), (false, ())))
                                                                else
                                                                (some ((), (true, ()))))))))))))))))))))))))))))))))))

noncomputable def T_laws_eqRootS_lp0 {R : Type} (N : Nat) (a3 : List Y_Root) (b4 : List Y_Root) (K0 : Option R) (K1 : Int → Bool → Option R) : Nat → Int → Option R
  | 0, _ => none
  | n + 1, i5 =>
    (bif decide (i5 < (ilen a3)) then
    (bif inb i5 (List.length a3) then
      (bif inb i5 (List.length b4) then
        ((T_laws_eqRoot N (List.getD a3 (Int.toNat i5) d_Root) (List.getD b4 (Int.toNat i5) d_Root)).bind fun o9 =>
          (bif !o9.2.1 then
            K0
            else
            (T_laws_eqRootS_lp0 N a3 b4 K0 K1 n (iadd .i64 i5 (1 : Int))))) else none) else none)
    else
    (K1 i5 (decide (i5 < (ilen a3)))))

noncomputable def T_laws_eqRootS (N : Nat) (a1 : List Y_Root) (b2 : List Y_Root) : Option (Unit × (Bool × Unit)) :=
    (bif (ilen a1) != (ilen b2) then
    (some ((), (false, ())))
    else
    (T_laws_eqRootS_lp0 N a1 b2
      (some ((), (false, ())))
      (fun i10 t11 =>
        (some ((), (true, ()))))
       N (0 : Int)))

noncomputable def T_laws_eqWrote (N : Nat) (a1 : Int × Int × List (Int × Int)) (b2 : Int × Int × List (Int × Int)) : Option (Unit × (Bool × Unit)) :=
    (bif a1.1 != b2.1 then
    (some ((), (false, ())))
    else
    (bif a1.2.1 != b2.2.1 then
      (some ((), (false, ())))
      else
      ((T_laws_eqRowS N a1.2.2 b2.2.2).bind fun o3 =>
        (bif !o3.2.1 then
          (some ((), (false, ())))
          else
          (some ((), (true, ())))))))

noncomputable def T_laws_eqWroteS_lp0 {R : Type} (N : Nat) (a3 : List (Int × Int × List (Int × Int))) (b4 : List (Int × Int × List (Int × Int))) (K0 : Option R) (K1 : Int → Bool → Option R) : Nat → Int → Option R
  | 0, _ => none
  | n + 1, i5 =>
    (bif decide (i5 < (ilen a3)) then
    (bif inb i5 (List.length a3) then
      (bif inb i5 (List.length b4) then
        ((T_laws_eqWrote N (List.getD a3 (Int.toNat i5) ((0 : Int), ((0 : Int), ([] : List (Int × Int))))) (List.getD b4 (Int.toNat i5) ((0 : Int), ((0 : Int), ([] : List (Int × Int)))))).bind fun o9 =>
          (bif !o9.2.1 then
            K0
            else
            (T_laws_eqWroteS_lp0 N a3 b4 K0 K1 n (iadd .i64 i5 (1 : Int))))) else none) else none)
    else
    (K1 i5 (decide (i5 < (ilen a3)))))

noncomputable def T_laws_eqWroteS (N : Nat) (a1 : List (Int × Int × List (Int × Int))) (b2 : List (Int × Int × List (Int × Int))) : Option (Unit × (Bool × Unit)) :=
    (bif (ilen a1) != (ilen b2) then
    (some ((), (false, ())))
    else
    (T_laws_eqWroteS_lp0 N a1 b2
      (some ((), (false, ())))
      (fun i10 t11 =>
        (some ((), (true, ()))))
       N (0 : Int)))

noncomputable def T_laws_eqWorld (N : Nat) (a1 : Y_World) (b2 : Y_World) : Option (Unit × (Bool × Unit)) :=
    (bif a1.1 != b2.1 then
    (some ((), (false, ())))
    else
    (bif a1.2.1 != b2.2.1 then
      (some ((), (false, ())))
      else
      ((T_laws_eqMem N a1.2.2.1 b2.2.2.1).bind fun o3 =>
        (bif !o3.2.1 then
          (some ((), (false, ())))
          else
          ((T_laws_eqShelf N a1.2.2.2.1 b2.2.2.2.1).bind fun o4 =>
            (bif !o4.2.1 then
              (some ((), (false, ())))
              else
              ((T_laws_eqHoldS N a1.2.2.2.2.1 b2.2.2.2.2.1).bind fun o5 =>
                (bif !o5.2.1 then
                  (some ((), (false, ())))
                  else
                  ((T_laws_eqRootS N a1.2.2.2.2.2.1 b2.2.2.2.2.2.1).bind fun o6 =>
                    (bif !o6.2.1 then
                      (some ((), (false, ())))
                      else
                      ((T_laws_eqWroteS N a1.2.2.2.2.2.2 b2.2.2.2.2.2.2).bind fun o7 =>
                        (bif !o7.2.1 then
                          (some ((), (false, ())))
                          else
                          (some ((), (true, ())))))))))))))))

noncomputable def T_laws_FnExactTallyOf (N : Nat) (aW1 : Y_World) : Option (Unit × (Bool × Unit)) :=
    ((T_laws_szWorld N aW1 (1048576 : Int)).bind fun o2 =>
    (bif decide (o2.2.1 < (0 : Int)) then
      (some ((), (true, ())))
      else
      ((T_laws_toWorld N aW1).bind fun o3 =>
        ((T_spec_TallyOf N o3.2.1).bind fun o4 =>
          ((T_laws_toWorld N aW1).bind fun o5 =>
            ((T_impl_TallyOf N o5.2.1).bind fun o6 =>
              ((T_laws_eqTally N o6.2.1 o4.2.1).bind fun o7 =>
                (bif !o7.2.1 then
                  (some ((), (false, ())))
                  else
                  ((T_laws_toWorld N aW1).bind fun o8 =>
                    ((T_laws_eqWorld N o5.2.1 o8.2.1).bind fun o9 =>
                      (bif !o9.2.1 then
                        (some ((), (false, ())))
                        else
                        (some ((), (true, ()))))))))))))))

noncomputable def T_laws_szTripleS (N : Nat) (a1 : List (Int × Int × Int)) (left2 : Int) : Option (Unit × (Int × Unit)) :=
    (bif decide ((isub .i64 left2 (ilen a1)) < (0 : Int)) then
    (some ((), ((-1 : Int), ())))
    else
    (some ((), (isub .i64 left2 (ilen a1), ()))))

noncomputable def T_laws_toTriple (N : Nat) (a1 : Int × Int × Int) : Option (Unit × ((Int × Int × Int) × Unit)) :=
    (some ((), (a1, ())))

noncomputable def T_laws_toTripleS_lp0 {R : Type} (N : Nat) (a2 : List (Int × Int × Int)) (K0 : Int → Bool → (List (Int × Int × Int)) → Option R) : Nat → Int → (List (Int × Int × Int)) → Option R
  | 0, _, _ => none
  | n + 1, i3, l4 =>
    (bif decide (i3 < (ilen a2)) then
    (bif inb i3 (List.length a2) then
      ((T_laws_toTriple N (List.getD a2 (Int.toNat i3) ((0 : Int), ((0 : Int), (0 : Int))))).bind fun o9 =>
        (bif inb i3 (List.length l4) then
          (T_laws_toTripleS_lp0 N a2 K0 n (iadd .i64 i3 (1 : Int)) (List.set l4 (Int.toNat i3) o9.2.1)) else none)) else none)
    else
    (K0 i3 (decide (i3 < (ilen a2))) l4))

noncomputable def T_laws_toTripleS (N : Nat) (a1 : List (Int × Int × Int)) : Option (Unit × ((List (Int × Int × Int)) × Unit)) :=
    (bif ((decide ((0 : Int) ≤ (ilen a1))) && (decide ((ilen a1) ≤ (ilen a1)))) && (room (Int.toNat (ilen a1))) then
    (T_laws_toTripleS_lp0 N a1
      (fun i10 t11 l12 =>
        (some ((), (l12, ()))))
       N (0 : Int) (List.replicate (Int.toNat (ilen a1)) ((0 : Int), ((0 : Int), (0 : Int))))) else none)

noncomputable def T_spec_l3Val (N : Nat) (v1 : Int) : Option (Unit × (Bool × Unit)) :=
    ((T_spec_l1In N v1 (0 : Int) (65535 : Int)).bind fun o2 =>
    (some ((), (o2.2.1, ()))))

noncomputable def T_spec_l25Ok (N : Nat) (t1 : Int × Int × Int) : Option (Unit × (Bool × Unit)) :=
    ((T_spec_l3Val N t1.1).bind fun o2 =>
    (bif o2.2.1 then
      ((T_spec_l3Val N t1.2.1).bind fun o3 =>
        (bif o3.2.1 then
          ((T_spec_l3Val N t1.2.2).bind fun o4 =>
            (some ((), (o4.2.1, ()))))
          else
          (some ((), (false, ())))))
      else
      (some ((), (false, ())))))

noncomputable def T_spec_TriplesOk_lp0 {R : Type} (N : Nat) (l2 : List (Int × Int × Int)) (K0 : Option R) (K1 : Int → Bool → Option R) : Nat → Int → Option R
  | 0, _ => none
  | n + 1, i3 =>
    (bif decide (i3 < (ilen l2)) then
    (bif inb i3 (List.length l2) then
      ((T_spec_l25Ok N (List.getD l2 (Int.toNat i3) ((0 : Int), ((0 : Int), (0 : Int))))).bind fun o7 =>
        (bif !o7.2.1 then
          K0
          else
          (T_spec_TriplesOk_lp0 N l2 K0 K1 n (iadd .i64 i3 (1 : Int))))) else none)
    else
    (K1 i3 (decide (i3 < (ilen l2)))))

noncomputable def T_spec_TriplesOk (N : Nat) (l1 : List (Int × Int × Int)) : Option (Unit × (Bool × Unit)) :=
    (bif decide ((ilen l1) > (20 : Int)) then
    (some ((), (false, ())))
    else
    (T_spec_TriplesOk_lp0 N l1
      (some ((), (false, ())))
      (fun i8 t9 =>
        (some ((), (true, ()))))
       N (0 : Int)))

noncomputable def T_spec_SeqValue (N : Nat) (start1 : Int × Int × Int) (l2 : List (Int × Int × Int)) (seq3 : Int) : Option (Unit × ((Int × Int × Int) × (Bool × Unit))) :=
    ((T_spec_l25Ok N start1).bind fun o4 =>
    (bif !o4.2.1 then
      (some ((), (((0 : Int), ((0 : Int), (0 : Int))), (false, ()))))
      else
      ((T_spec_TriplesOk N l2).bind fun o5 =>
        (bif !o5.2.1 then
          (some ((), (((0 : Int), ((0 : Int), (0 : Int))), (false, ()))))
          else
          ((T_spec_l1In N seq3 (0 : Int) (imul .i64 (2 : Int) (ilen l2))).bind fun o6 =>
            (bif !o6.2.1 then
              (some ((), (((0 : Int), ((0 : Int), (0 : Int))), (false, ()))))
              else
              (bif inz (2 : Int) then
                (bif (irem seq3 (2 : Int)) == (1 : Int) then
                  (some ((), (((0 : Int), ((0 : Int), (0 : Int))), (false, ()))))
                  else
                  (bif seq3 == (0 : Int) then
                    (some ((), (start1, (true, ()))))
                    else
                    (bif inz (2 : Int) then
                      (bif inb (isub .i64 (iquo .i64 seq3 (2 : Int)) (1 : Int)) (List.length l2) then
                        (some ((), (List.getD l2 (Int.toNat (isub .i64 (iquo .i64 seq3 (2 : Int)) (1 : Int))) ((0 : Int), ((0 : Int), (0 : Int))), (true, ())))) else none) else none))) else none)))))))

noncomputable def T_impl_isValue (N : Nat) (v1 : Int) : Option (Unit × (Bool × Unit)) :=
    ((T_impl_within N v1 (0 : Int) (65535 : Int)).bind fun o2 =>
    (some ((), (o2.2.1, ()))))

noncomputable def T_impl_isTriple (N : Nat) (t1 : Int × Int × Int) : Option (Unit × (Bool × Unit)) :=
    ((T_impl_isValue N t1.1).bind fun o2 =>
    (bif o2.2.1 then
      ((T_impl_isValue N t1.2.1).bind fun o3 =>
        (bif o3.2.1 then
          ((T_impl_isValue N t1.2.2).bind fun o4 =>
            (some ((), (o4.2.1, ()))))
          else
          (some ((), (false, ())))))
      else
      (some ((), (false, ())))))

noncomputable def T_impl_TriplesOk_lp0 {R : Type} (N : Nat) (l2 : List (Int × Int × Int)) (K0 : Option R) (K1 : Int → Bool → Option R) : Nat → Int → Option R
  | 0, _ => none
  | n + 1, t5 =>
    (bif decide (t5 < (ilen l2)) then
    (bif inb t5 (List.length l2) then
      ((T_impl_isTriple N (List.getD l2 (Int.toNat t5) ((0 : Int), ((0 : Int), (0 : Int))))).bind fun o10 =>
        (bif !o10.2.1 then
          K0
          else
          (T_impl_TriplesOk_lp0 N l2 K0 K1 n (iadd .i64 t5 (1 : Int))))) else none)
    else
    (K1 t5 (decide (t5 < (ilen l2)))))

noncomputable def T_impl_TriplesOk (N : Nat) (l1 : List (Int × Int × Int)) : Option (Unit × (Bool × Unit)) :=
    (T_impl_TriplesOk_lp0 N l1
    (some ((), (false, ())))
    (fun t11 t12 =>
      (some ((), (decide ((ilen l1) ≤ (20 : Int)), ()))))
     N (0 : Int))

noncomputable def T_impl_SeqValue (N : Nat) (start1 : Int × Int × Int) (l2 : List (Int × Int × Int)) (seq3 : Int) : Option (Unit × ((Int × Int × Int) × (Bool × Unit))) :=
    ((T_impl_isTriple N start1).bind fun o4 =>
    (bif !o4.2.1 then
      (some ((), (((0 : Int), ((0 : Int), (0 : Int))), (false, ()))))
      else
      ((T_impl_TriplesOk N l2).bind fun o5 =>
        (bif !o5.2.1 then
          (some ((), (((0 : Int), ((0 : Int), (0 : Int))), (false, ()))))
          else
          ((T_impl_within N seq3 (0 : Int) (imul .i64 (2 : Int) (ilen l2))).bind fun o6 =>
            (bif !o6.2.1 then
              (some ((), (((0 : Int), ((0 : Int), (0 : Int))), (false, ()))))
              else
              (bif inz (2 : Int) then
                (bif (irem seq3 (2 : Int)) == (1 : Int) then
                  (some ((), (((0 : Int), ((0 : Int), (0 : Int))), (false, ()))))
                  else
                  (bif seq3 == (0 : Int) then
                    (some ((), (start1, (true, ()))))
                    else
                    (bif inz (2 : Int) then
                      (bif inb (isub .i64 (iquo .i64 seq3 (2 : Int)) (1 : Int)) (List.length l2) then
                        (some ((), (List.getD l2 (Int.toNat (isub .i64 (iquo .i64 seq3 (2 : Int)) (1 : Int))) ((0 : Int), ((0 : Int), (0 : Int))), (true, ())))) else none) else none))) else none)))))))

noncomputable def T_laws_eqTriple (N : Nat) (a1 : Int × Int × Int) (b2 : Int × Int × Int) : Option (Unit × (Bool × Unit)) :=
    (bif a1.1 != b2.1 then
    (some ((), (false, ())))
    else
    (bif a1.2.1 != b2.2.1 then
      (some ((), (false, ())))
      else
      (bif a1.2.2 != b2.2.2 then
        (some ((), (false, ())))
        else
        (some ((), (true, ()))))))

noncomputable def T_laws_eqTripleS_lp0 {R : Type} (N : Nat) (a3 : List (Int × Int × Int)) (b4 : List (Int × Int × Int)) (K0 : Option R) (K1 : Int → Bool → Option R) : Nat → Int → Option R
  | 0, _ => none
  | n + 1, i5 =>
    (bif decide (i5 < (ilen a3)) then
    (bif inb i5 (List.length a3) then
      (bif inb i5 (List.length b4) then
        ((T_laws_eqTriple N (List.getD a3 (Int.toNat i5) ((0 : Int), ((0 : Int), (0 : Int)))) (List.getD b4 (Int.toNat i5) ((0 : Int), ((0 : Int), (0 : Int))))).bind fun o9 =>
          (bif !o9.2.1 then
            K0
            else
            (T_laws_eqTripleS_lp0 N a3 b4 K0 K1 n (iadd .i64 i5 (1 : Int))))) else none) else none)
    else
    (K1 i5 (decide (i5 < (ilen a3)))))

noncomputable def T_laws_eqTripleS (N : Nat) (a1 : List (Int × Int × Int)) (b2 : List (Int × Int × Int)) : Option (Unit × (Bool × Unit)) :=
    (bif (ilen a1) != (ilen b2) then
    (some ((), (false, ())))
    else
    (T_laws_eqTripleS_lp0 N a1 b2
      (some ((), (false, ())))
      (fun i10 t11 =>
        (some ((), (true, ()))))
       N (0 : Int)))

noncomputable def T_laws_FnExactSeqValue (N : Nat) (aStart1 : Int × Int × Int) (aL2 : List (Int × Int × Int)) (aSeq3 : Int) : Option (Unit × (Bool × Unit)) :=
    ((T_laws_szTripleS N aL2 (1048576 : Int)).bind fun o4 =>
    (bif decide (o4.2.1 < (0 : Int)) then
      (some ((), (true, ())))
      else
      ((T_laws_toTriple N aStart1).bind fun o5 =>
        ((T_laws_toTripleS N aL2).bind fun o6 =>
          ((T_spec_SeqValue N o5.2.1 o6.2.1 aSeq3).bind fun o7 =>
            ((T_laws_toTripleS N aL2).bind fun o8 =>
              ((T_laws_toTriple N aStart1).bind fun o9 =>
                ((T_impl_SeqValue N o9.2.1 o8.2.1 aSeq3).bind fun o10 =>
                  ((T_laws_eqTriple N o10.2.1 o7.2.1).bind fun o11 =>
                    (bif !o11.2.1 then
                      (some ((), (false, ())))
                      else
                      (bif !(beq o10.2.2.1 o7.2.2.1) then
                        (some ((), (false, ())))
                        else
                        ((T_laws_toTripleS N aL2).bind fun o12 =>
                          ((T_laws_eqTripleS N o8.2.1 o12.2.1).bind fun o13 =>
                            (bif !o13.2.1 then
                              (some ((), (false, ())))
                              else
                              (some ((), (true, ())))))))))))))))))

noncomputable def T_laws_FnExactTriplesOk (N : Nat) (aL1 : List (Int × Int × Int)) : Option (Unit × (Bool × Unit)) :=
    ((T_laws_szTripleS N aL1 (1048576 : Int)).bind fun o2 =>
    (bif decide (o2.2.1 < (0 : Int)) then
      (some ((), (true, ())))
      else
      ((T_laws_toTripleS N aL1).bind fun o3 =>
        ((T_spec_TriplesOk N o3.2.1).bind fun o4 =>
          ((T_laws_toTripleS N aL1).bind fun o5 =>
            ((T_impl_TriplesOk N o5.2.1).bind fun o6 =>
              (bif !(beq o6.2.1 o4.2.1) then
                (some ((), (false, ())))
                else
                ((T_laws_toTripleS N aL1).bind fun o7 =>
                  ((T_laws_eqTripleS N o5.2.1 o7.2.1).bind fun o8 =>
                    (bif !o8.2.1 then
                      (some ((), (false, ())))
                      else
                      (some ((), (true, ())))))))))))))

end Go.Sx
