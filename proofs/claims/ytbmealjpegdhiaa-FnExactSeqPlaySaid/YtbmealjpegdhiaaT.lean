/- What each Go function computes, as a Lean function. -/
import Derived.Test.YtbmealjpegdhiaaM3
namespace Go.Sx
set_option linter.unusedVariables false

noncomputable def T_laws_szTripleS (N : Nat) (a1 : List (Int × Int × Int)) (left2 : Int) : Option (Unit × (Int × Unit)) :=
    (bif decide ((isub .i64 left2 (ilen a1)) < (0 : Int)) then
    (some ((), ((-1 : Int), ())))
    else
    (some ((), (isub .i64 left2 (ilen a1), ()))))

noncomputable def T_laws_toTriple (N : Nat) (a1 : Int × Int × Int) : Option (Unit × ((Int × Int × Int) × Unit)) :=
    (some ((), (a1, ())))

noncomputable def T_laws_toTripleS_lp0 {R : Type} (N : Nat) (a2 : List (Int × Int × Int)) (K0 : Int → Bool → (List (Int × Int × Int)) → Option R) : Nat → Int → (List (Int × Int × Int)) → Option R
  | 0, _, _ => none
  | n + 1, i3, l4 =>
    (bif decide (i3 < (ilen a2)) then
    (bif inb i3 (List.length a2) then
      ((T_laws_toTriple N (List.getD a2 (Int.toNat i3) ((0 : Int), ((0 : Int), (0 : Int))))).bind fun o9 =>
        (bif inb i3 (List.length l4) then
          (T_laws_toTripleS_lp0 N a2 K0 n (iadd .i64 i3 (1 : Int)) (List.set l4 (Int.toNat i3) o9.2.1)) else none)) else none)
    else
    (K0 i3 (decide (i3 < (ilen a2))) l4))

noncomputable def T_laws_toTripleS (N : Nat) (a1 : List (Int × Int × Int)) : Option (Unit × ((List (Int × Int × Int)) × Unit)) :=
    (bif ((decide ((0 : Int) ≤ (ilen a1))) && (decide ((ilen a1) ≤ (ilen a1)))) && (room (Int.toNat (ilen a1))) then
    (T_laws_toTripleS_lp0 N a1
      (fun i10 t11 l12 =>
        (some ((), (l12, ()))))
       N (0 : Int) (List.replicate (Int.toNat (ilen a1)) ((0 : Int), ((0 : Int), (0 : Int))))) else none)

noncomputable def T_laws_toIntS_lp0 {R : Type} (N : Nat) (a2 : List Int) (K0 : Int → Bool → (List Int) → Option R) : Nat → Int → (List Int) → Option R
  | 0, _, _ => none
  | n + 1, i3, l4 =>
    (bif decide (i3 < (ilen a2)) then
    (bif inb i3 (List.length a2) then
      (bif inb i3 (List.length l4) then
        (T_laws_toIntS_lp0 N a2 K0 n (iadd .i64 i3 (1 : Int)) (List.set l4 (Int.toNat i3) (List.getD a2 (Int.toNat i3) (0 : Int)))) else none) else none)
    else
    (K0 i3 (decide (i3 < (ilen a2))) l4))

noncomputable def T_laws_toIntS (N : Nat) (a1 : List Int) : Option (Unit × ((List Int) × Unit)) :=
    (bif ((decide ((0 : Int) ≤ (ilen a1))) && (decide ((ilen a1) ≤ (ilen a1)))) && (room (Int.toNat (ilen a1))) then
    (T_laws_toIntS_lp0 N a1
      (fun i8 t9 l10 =>
        (some ((), (l10, ()))))
       N (0 : Int) (List.replicate (Int.toNat (ilen a1)) (0 : Int))) else none)

noncomputable def T_spec_l1In (N : Nat) (x1 : Int) (low2 : Int) (high3 : Int) : Option (Unit × (Bool × Unit)) :=
    (bif decide (x1 ≥ low2) then
    (some ((), (decide (x1 ≤ high3), ())))
    else
    (some ((), (false, ()))))

noncomputable def T_spec_l3Val (N : Nat) (v1 : Int) : Option (Unit × (Bool × Unit)) :=
    ((T_spec_l1In N v1 (0 : Int) (65535 : Int)).bind fun o2 =>
    (some ((), (o2.2.1, ()))))

noncomputable def T_spec_l25Ok (N : Nat) (t1 : Int × Int × Int) : Option (Unit × (Bool × Unit)) :=
    ((T_spec_l3Val N t1.1).bind fun o2 =>
    (bif o2.2.1 then
      ((T_spec_l3Val N t1.2.1).bind fun o3 =>
        (bif o3.2.1 then
          ((T_spec_l3Val N t1.2.2).bind fun o4 =>
            (some ((), (o4.2.1, ()))))
          else
          (some ((), (false, ())))))
      else
      (some ((), (false, ())))))

noncomputable def T_spec_TriplesOk_lp0 {R : Type} (N : Nat) (l2 : List (Int × Int × Int)) (K0 : Option R) (K1 : Int → Bool → Option R) : Nat → Int → Option R
  | 0, _ => none
  | n + 1, i3 =>
    (bif decide (i3 < (ilen l2)) then
    (bif inb i3 (List.length l2) then
      ((T_spec_l25Ok N (List.getD l2 (Int.toNat i3) ((0 : Int), ((0 : Int), (0 : Int))))).bind fun o7 =>
        (bif !o7.2.1 then
          K0
          else
          (T_spec_TriplesOk_lp0 N l2 K0 K1 n (iadd .i64 i3 (1 : Int))))) else none)
    else
    (K1 i3 (decide (i3 < (ilen l2)))))

noncomputable def T_spec_TriplesOk (N : Nat) (l1 : List (Int × Int × Int)) : Option (Unit × (Bool × Unit)) :=
    (bif decide ((ilen l1) > (20 : Int)) then
    (some ((), (false, ())))
    else
    (T_spec_TriplesOk_lp0 N l1
      (some ((), (false, ())))
      (fun i8 t9 =>
        (some ((), (true, ()))))
       N (0 : Int)))

noncomputable def T_spec_l25Write (N : Nat) (w1 : Int × (Int × Int × Int) × Int × Int × List (Int × Int × (Int × Int × Int) × Int) × List (Int × Int × Int × Int × Int)) (l2 : List (Int × Int × Int)) : Option (Unit × ((Int × (Int × Int × Int) × Int × Int × List (Int × Int × (Int × Int × Int) × Int) × List (Int × Int × Int × Int × Int)) × Unit)) :=
    (bif w1.2.2.1 == (0 : Int) then
    (bif w1.2.2.2.1 == (ilen l2) then
      (some ((), (w1, ())))
      else
      (bif inz (5 : Int) then
        (some ((), ((iadd .i64 w1.1 (1 : Int), (w1.2.1, (irem (iadd .i64 w1.2.2.1 (1 : Int)) (5 : Int), w1.2.2.2))), ()))) else none))
    else
    (bif w1.2.2.1 == (1 : Int) then
      (bif inb w1.2.2.2.1 (List.length l2) then
        (bif inz (5 : Int) then
          (some ((), ((w1.1, (((List.getD l2 (Int.toNat w1.2.2.2.1) ((0 : Int), ((0 : Int), (0 : Int)))).1, w1.2.1.2), (irem (iadd .i64 w1.2.2.1 (1 : Int)) (5 : Int), w1.2.2.2))), ()))) else none) else none)
      else
      (bif w1.2.2.1 == (2 : Int) then
        (bif inb w1.2.2.2.1 (List.length l2) then
          (bif inz (5 : Int) then
            (some ((), ((w1.1, ((w1.2.1.1, ((List.getD l2 (Int.toNat w1.2.2.2.1) ((0 : Int), ((0 : Int), (0 : Int)))).2.1, w1.2.1.2.2)), (irem (iadd .i64 w1.2.2.1 (1 : Int)) (5 : Int), w1.2.2.2))), ()))) else none) else none)
        else
        (bif w1.2.2.1 == (3 : Int) then
          (bif inb w1.2.2.2.1 (List.length l2) then
            (bif inz (5 : Int) then
              (some ((), ((w1.1, ((w1.2.1.1, (w1.2.1.2.1, (List.getD l2 (Int.toNat w1.2.2.2.1) ((0 : Int), ((0 : Int), (0 : Int)))).2.2)), (irem (iadd .i64 w1.2.2.1 (1 : Int)) (5 : Int), w1.2.2.2))), ()))) else none) else none)
          else
          (bif inz (5 : Int) then
            (some ((), ((iadd .i64 w1.1 (1 : Int), (w1.2.1, (irem (iadd .i64 w1.2.2.1 (1 : Int)) (5 : Int), (iadd .i64 w1.2.2.2.1 (1 : Int), w1.2.2.2.2)))), ()))) else none)))))

noncomputable def T_spec_l25Read (N : Nat) (w1 : Int × (Int × Int × Int) × Int × Int × List (Int × Int × (Int × Int × Int) × Int) × List (Int × Int × Int × Int × Int)) (k2 : Int) : Option (Unit × ((Int × (Int × Int × Int) × Int × Int × List (Int × Int × (Int × Int × Int) × Int) × List (Int × Int × Int × Int × Int)) × Unit)) :=
    (bif inb k2 (List.length w1.2.2.2.2.1) then
    (bif (List.getD w1.2.2.2.2.1 (Int.toNat k2) ((0 : Int), ((0 : Int), (((0 : Int), ((0 : Int), (0 : Int))), (0 : Int))))).1 == (0 : Int) then
      (bif inz (2 : Int) then
        (bif (irem w1.1 (2 : Int)) == (1 : Int) then
          (some ((), (w1, ())))
          else
          (bif inb k2 (List.length w1.2.2.2.2.1) then
            (some ((), ((w1.1, (w1.2.1, (w1.2.2.1, (w1.2.2.2.1, (List.set w1.2.2.2.2.1 (Int.toNat k2) (iadd .i64 (List.getD w1.2.2.2.2.1 (Int.toNat k2) ((0 : Int), ((0 : Int), (((0 : Int), ((0 : Int), (0 : Int))), (0 : Int))))).1 (1 : Int), (w1.1, (List.getD w1.2.2.2.2.1 (Int.toNat k2) ((0 : Int), ((0 : Int), (((0 : Int), ((0 : Int), (0 : Int))), (0 : Int))))).2.2)), w1.2.2.2.2.2))))), ()))) else none)) else none)
      else
      (bif (List.getD w1.2.2.2.2.1 (Int.toNat k2) ((0 : Int), ((0 : Int), (((0 : Int), ((0 : Int), (0 : Int))), (0 : Int))))).1 == (1 : Int) then
        (bif inb k2 (List.length w1.2.2.2.2.1) then
          (some ((), ((w1.1, (w1.2.1, (w1.2.2.1, (w1.2.2.2.1, (List.set w1.2.2.2.2.1 (Int.toNat k2) (iadd .i64 (List.getD w1.2.2.2.2.1 (Int.toNat k2) ((0 : Int), ((0 : Int), (((0 : Int), ((0 : Int), (0 : Int))), (0 : Int))))).1 (1 : Int), ((List.getD w1.2.2.2.2.1 (Int.toNat k2) ((0 : Int), ((0 : Int), (((0 : Int), ((0 : Int), (0 : Int))), (0 : Int))))).2.1, ((w1.2.1.1, (List.getD w1.2.2.2.2.1 (Int.toNat k2) ((0 : Int), ((0 : Int), (((0 : Int), ((0 : Int), (0 : Int))), (0 : Int))))).2.2.1.2), (List.getD w1.2.2.2.2.1 (Int.toNat k2) ((0 : Int), ((0 : Int), (((0 : Int), ((0 : Int), (0 : Int))), (0 : Int))))).2.2.2))), w1.2.2.2.2.2))))), ()))) else none)
        else
        (bif (List.getD w1.2.2.2.2.1 (Int.toNat k2) ((0 : Int), ((0 : Int), (((0 : Int), ((0 : Int), (0 : Int))), (0 : Int))))).1 == (2 : Int) then
          (bif inb k2 (List.length w1.2.2.2.2.1) then
            (some ((), ((w1.1, (w1.2.1, (w1.2.2.1, (w1.2.2.2.1, (List.set w1.2.2.2.2.1 (Int.toNat k2) (iadd .i64 (List.getD w1.2.2.2.2.1 (Int.toNat k2) ((0 : Int), ((0 : Int), (((0 : Int), ((0 : Int), (0 : Int))), (0 : Int))))).1 (1 : Int), ((List.getD w1.2.2.2.2.1 (Int.toNat k2) ((0 : Int), ((0 : Int), (((0 : Int), ((0 : Int), (0 : Int))), (0 : Int))))).2.1, (((List.getD w1.2.2.2.2.1 (Int.toNat k2) ((0 : Int), ((0 : Int), (((0 : Int), ((0 : Int), (0 : Int))), (0 : Int))))).2.2.1.1, (w1.2.1.2.1, (List.getD w1.2.2.2.2.1 (Int.toNat k2) ((0 : Int), ((0 : Int), (((0 : Int), ((0 : Int), (0 : Int))), (0 : Int))))).2.2.1.2.2)), (List.getD w1.2.2.2.2.1 (Int.toNat k2) ((0 : Int), ((0 : Int), (((0 : Int), ((0 : Int), (0 : Int))), (0 : Int))))).2.2.2))), w1.2.2.2.2.2))))), ()))) else none)
          else
          (bif (List.getD w1.2.2.2.2.1 (Int.toNat k2) ((0 : Int), ((0 : Int), (((0 : Int), ((0 : Int), (0 : Int))), (0 : Int))))).1 == (3 : Int) then
            (bif inb k2 (List.length w1.2.2.2.2.1) then
              (some ((), ((w1.1, (w1.2.1, (w1.2.2.1, (w1.2.2.2.1, (List.set w1.2.2.2.2.1 (Int.toNat k2) (iadd .i64 (List.getD w1.2.2.2.2.1 (Int.toNat k2) ((0 : Int), ((0 : Int), (((0 : Int), ((0 : Int), (0 : Int))), (0 : Int))))).1 (1 : Int), ((List.getD w1.2.2.2.2.1 (Int.toNat k2) ((0 : Int), ((0 : Int), (((0 : Int), ((0 : Int), (0 : Int))), (0 : Int))))).2.1, (((List.getD w1.2.2.2.2.1 (Int.toNat k2) ((0 : Int), ((0 : Int), (((0 : Int), ((0 : Int), (0 : Int))), (0 : Int))))).2.2.1.1, ((List.getD w1.2.2.2.2.1 (Int.toNat k2) ((0 : Int), ((0 : Int), (((0 : Int), ((0 : Int), (0 : Int))), (0 : Int))))).2.2.1.2.1, w1.2.1.2.2)), (List.getD w1.2.2.2.2.1 (Int.toNat k2) ((0 : Int), ((0 : Int), (((0 : Int), ((0 : Int), (0 : Int))), (0 : Int))))).2.2.2))), w1.2.2.2.2.2))))), ()))) else none)
            else
            (bif w1.1 == (List.getD w1.2.2.2.2.1 (Int.toNat k2) ((0 : Int), ((0 : Int), (((0 : Int), ((0 : Int), (0 : Int))), (0 : Int))))).2.1 then
              (bif room ((List.length w1.2.2.2.2.2) + (List.length ([(k2, ((List.getD w1.2.2.2.2.1 (Int.toNat k2) ((0 : Int), ((0 : Int), (((0 : Int), ((0 : Int), (0 : Int))), (0 : Int))))).2.1, (List.getD w1.2.2.2.2.1 (Int.toNat k2) ((0 : Int), ((0 : Int), (((0 : Int), ((0 : Int), (0 : Int))), (0 : Int))))).2.2.1))]))) then
                (bif inb k2 (List.length w1.2.2.2.2.1) then
                  (some ((), ((w1.1, (w1.2.1, (w1.2.2.1, (w1.2.2.2.1, (List.set w1.2.2.2.2.1 (Int.toNat k2) ((0 : Int), ((0 : Int), (((0 : Int), ((0 : Int), (0 : Int))), (List.getD w1.2.2.2.2.1 (Int.toNat k2) ((0 : Int), ((0 : Int), (((0 : Int), ((0 : Int), (0 : Int))), (0 : Int))))).2.2.2))), List.append w1.2.2.2.2.2 ([(k2, ((List.getD w1.2.2.2.2.1 (Int.toNat k2) ((0 : Int), ((0 : Int), (((0 : Int), ((0 : Int), (0 : Int))), (0 : Int))))).2.1, (List.getD w1.2.2.2.2.1 (Int.toNat k2) ((0 : Int), ((0 : Int), (((0 : Int), ((0 : Int), (0 : Int))), (0 : Int))))).2.2.1))])))))), ()))) else none) else none)
              else
              (bif inb k2 (List.length w1.2.2.2.2.1) then
                (some ((), ((w1.1, (w1.2.1, (w1.2.2.1, (w1.2.2.2.1, (List.set w1.2.2.2.2.1 (Int.toNat k2) ((0 : Int), ((0 : Int), (((0 : Int), ((0 : Int), (0 : Int))), iadd .i64 (List.getD w1.2.2.2.2.1 (Int.toNat k2) ((0 : Int), ((0 : Int), (((0 : Int), ((0 : Int), (0 : Int))), (0 : Int))))).2.2.2 (1 : Int)))), w1.2.2.2.2.2))))), ()))) else none)))))) else none)

noncomputable def T_spec_SeqPlay_lp0 {R : Type} (N : Nat) (l6 : List (Int × Int × Int)) (acts7 : List Int) (K0 : Int → Bool → Int → Int → Int → Int → Int → Int → (List (Int × Int × (Int × Int × Int) × Int)) → (List (Int × Int × Int × Int × Int)) → Option R) : Nat → Int → Int → Int → Int → Int → Int → Int → (List (Int × Int × (Int × Int × Int) × Int)) → (List (Int × Int × Int × Int × Int)) → Option R
  | 0, _, _, _, _, _, _, _, _, _ => none
  | n + 1, i8, b15, b16, b17, b18, b19, b20, l21, l22 =>
    (bif decide (i8 < (ilen acts7)) then
    (bif inb i8 (List.length acts7) then
      (bif (List.getD acts7 (Int.toNat i8) (0 : Int)) == (0 : Int) then
        ((T_spec_l25Write N (b15, ((b16, (b17, b18)), (b19, (b20, (l21, l22))))) l6).bind fun o43 =>
          (bif inb i8 (List.length acts7) then
            ((T_spec_l1In N (List.getD acts7 (Int.toNat i8) (0 : Int)) (1 : Int) (3 : Int)).bind fun o44 =>
              (bif o44.2.1 then
                (bif inb i8 (List.length acts7) then
                  ((T_spec_l25Read N o43.2.1 (isub .i64 (List.getD acts7 (Int.toNat i8) (0 : Int)) (1 : Int))).bind fun o45 =>
                    (T_spec_SeqPlay_lp0 N l6 acts7 K0 n (iadd .i64 i8 (1 : Int)) o45.2.1.1 o45.2.1.2.1.1 o45.2.1.2.1.2.1 o45.2.1.2.1.2.2 o45.2.1.2.2.1 o45.2.1.2.2.2.1 o45.2.1.2.2.2.2.1 o45.2.1.2.2.2.2.2)) else none)
                else
                (T_spec_SeqPlay_lp0 N l6 acts7 K0 n (iadd .i64 i8 (1 : Int)) o43.2.1.1 o43.2.1.2.1.1 o43.2.1.2.1.2.1 o43.2.1.2.1.2.2 o43.2.1.2.2.1 o43.2.1.2.2.2.1 o43.2.1.2.2.2.2.1 o43.2.1.2.2.2.2.2))) else none))
        else
        (bif inb i8 (List.length acts7) then
          ((T_spec_l1In N (List.getD acts7 (Int.toNat i8) (0 : Int)) (1 : Int) (3 : Int)).bind fun o46 =>
            (bif o46.2.1 then
              (bif inb i8 (List.length acts7) then
                ((T_spec_l25Read N (b15, ((b16, (b17, b18)), (b19, (b20, (l21, l22))))) (isub .i64 (List.getD acts7 (Int.toNat i8) (0 : Int)) (1 : Int))).bind fun o47 =>
                  (T_spec_SeqPlay_lp0 N l6 acts7 K0 n (iadd .i64 i8 (1 : Int)) o47.2.1.1 o47.2.1.2.1.1 o47.2.1.2.1.2.1 o47.2.1.2.1.2.2 o47.2.1.2.2.1 o47.2.1.2.2.2.1 o47.2.1.2.2.2.2.1 o47.2.1.2.2.2.2.2)) else none)
              else
              (T_spec_SeqPlay_lp0 N l6 acts7 K0 n (iadd .i64 i8 (1 : Int)) b15 b16 b17 b18 b19 b20 l21 l22))) else none)) else none)
    else
    (K0 i8 (decide (i8 < (ilen acts7))) b15 b16 b17 b18 b19 b20 l21 l22))

noncomputable def T_spec_SeqPlay (N : Nat) (start1 : Int × Int × Int) (l2 : List (Int × Int × Int)) (acts3 : List Int) : Option (Unit × ((Int × (Int × Int × Int) × Int × Int × List (Int × Int × (Int × Int × Int) × Int) × List (Int × Int × Int × Int × Int)) × Unit)) :=
    ((T_spec_l25Ok N start1).bind fun o4 =>
    (bif !o4.2.1 then
      (some ((), (((0 : Int), (((0 : Int), ((0 : Int), (0 : Int))), ((0 : Int), ((0 : Int), (([] : List (Int × Int × (Int × Int × Int) × Int)), ([] : List (Int × Int × Int × Int × Int))))))), ())))
      else
      ((T_spec_TriplesOk N l2).bind fun o5 =>
        (bif !o5.2.1 then
          (some ((), (((0 : Int), (((0 : Int), ((0 : Int), (0 : Int))), ((0 : Int), ((0 : Int), (([] : List (Int × Int × (Int × Int × Int) × Int)), ([] : List (Int × Int × Int × Int × Int))))))), ())))
          else
          (bif decide ((ilen acts3) > (200 : Int)) then
            (some ((), (((0 : Int), (((0 : Int), ((0 : Int), (0 : Int))), ((0 : Int), ((0 : Int), (([] : List (Int × Int × (Int × Int × Int) × Int)), ([] : List (Int × Int × Int × Int × Int))))))), ())))
            else
            (both
              (bif ((decide ((0 : Int) ≤ (3 : Int))) && (decide ((3 : Int) ≤ (3 : Int)))) && (room (Int.toNat (3 : Int))) then
                (T_spec_SeqPlay_lp0 N l2 acts3
                  (fun i48 t49 b50 b51 b52 b53 b54 b55 l56 l57 =>
                    (some ((), ((b50, ((b51, (b52, b53)), (b54, (b55, (l56, l57))))), ()))))
                   N (0 : Int) (0 : Int) start1.1 start1.2.1 start1.2.2 (0 : Int) (0 : Int) (List.replicate (Int.toNat (3 : Int)) ((0 : Int), ((0 : Int), (((0 : Int), ((0 : Int), (0 : Int))), (0 : Int))))) ([] : List (Int × Int × Int × Int × Int))) else none)
              (bif ((decide ((0 : Int) ≤ (3 : Int))) && (decide ((3 : Int) ≤ (3 : Int)))) && (room (Int.toNat (3 : Int))) then
                (T_spec_SeqPlay_lp0 N l2 acts3
                  (fun i58 t59 b60 b61 b62 b63 b64 b65 l66 l67 =>
                    (some ((), ((b60, ((b61, (b62, b63)), (b64, (b65, (l66, l67))))), ()))))
                   N (0 : Int) (0 : Int) start1.1 start1.2.1 start1.2.2 (0 : Int) (0 : Int) (List.replicate (Int.toNat (3 : Int)) ((0 : Int), ((0 : Int), (((0 : Int), ((0 : Int), (0 : Int))), (0 : Int))))) ([] : List (Int × Int × Int × Int × Int))) else none)))))))

noncomputable def T_impl_within (N : Nat) (x1 : Int) (lo2 : Int) (hi3 : Int) : Option (Unit × (Bool × Unit)) :=
    (bif decide (x1 ≥ lo2) then
    (some ((), (decide (x1 ≤ hi3), ())))
    else
    (some ((), (false, ()))))

noncomputable def T_impl_isValue (N : Nat) (v1 : Int) : Option (Unit × (Bool × Unit)) :=
    ((T_impl_within N v1 (0 : Int) (65535 : Int)).bind fun o2 =>
    (some ((), (o2.2.1, ()))))

noncomputable def T_impl_isTriple (N : Nat) (t1 : Int × Int × Int) : Option (Unit × (Bool × Unit)) :=
    ((T_impl_isValue N t1.1).bind fun o2 =>
    (bif o2.2.1 then
      ((T_impl_isValue N t1.2.1).bind fun o3 =>
        (bif o3.2.1 then
          ((T_impl_isValue N t1.2.2).bind fun o4 =>
            (some ((), (o4.2.1, ()))))
          else
          (some ((), (false, ())))))
      else
      (some ((), (false, ())))))

noncomputable def T_impl_TriplesOk_lp0 {R : Type} (N : Nat) (l2 : List (Int × Int × Int)) (K0 : Option R) (K1 : Int → Bool → Option R) : Nat → Int → Option R
  | 0, _ => none
  | n + 1, t5 =>
    (bif decide (t5 < (ilen l2)) then
    (bif inb t5 (List.length l2) then
      ((T_impl_isTriple N (List.getD l2 (Int.toNat t5) ((0 : Int), ((0 : Int), (0 : Int))))).bind fun o10 =>
        (bif !o10.2.1 then
          K0
          else
          (T_impl_TriplesOk_lp0 N l2 K0 K1 n (iadd .i64 t5 (1 : Int))))) else none)
    else
    (K1 t5 (decide (t5 < (ilen l2)))))

noncomputable def T_impl_TriplesOk (N : Nat) (l1 : List (Int × Int × Int)) : Option (Unit × (Bool × Unit)) :=
    (T_impl_TriplesOk_lp0 N l1
    (some ((), (false, ())))
    (fun t11 t12 =>
      (some ((), (decide ((ilen l1) ≤ (20 : Int)), ()))))
     N (0 : Int))

noncomputable def T_impl_SeqWorld_write (N : Nat) (w1 : Int × (Int × Int × Int) × Int × Int × List (Int × Int × (Int × Int × Int) × Int) × List (Int × Int × Int × Int × Int)) (l2 : List (Int × Int × Int)) : Option (((Int × (Int × Int × Int) × Int × Int × List (Int × Int × (Int × Int × Int) × Int) × List (Int × Int × Int × Int × Int)) × Unit) × Unit) :=
    (bif w1.2.2.1 == (0 : Int) then
    (bif w1.2.2.2.1 == (ilen l2) then
      (some ((w1, ()), ()))
      else
      (bif inz (5 : Int) then
        (some (((iadd .i64 w1.1 (1 : Int), (w1.2.1, (irem (iadd .i64 w1.2.2.1 (1 : Int)) (5 : Int), w1.2.2.2))), ()), ())) else none))
    else
    (bif w1.2.2.1 == (1 : Int) then
      (bif inb w1.2.2.2.1 (List.length l2) then
        (bif inz (5 : Int) then
          (some (((w1.1, (((List.getD l2 (Int.toNat w1.2.2.2.1) ((0 : Int), ((0 : Int), (0 : Int)))).1, w1.2.1.2), (irem (iadd .i64 w1.2.2.1 (1 : Int)) (5 : Int), w1.2.2.2))), ()), ())) else none) else none)
      else
      (bif w1.2.2.1 == (2 : Int) then
        (bif inb w1.2.2.2.1 (List.length l2) then
          (bif inz (5 : Int) then
            (some (((w1.1, ((w1.2.1.1, ((List.getD l2 (Int.toNat w1.2.2.2.1) ((0 : Int), ((0 : Int), (0 : Int)))).2.1, w1.2.1.2.2)), (irem (iadd .i64 w1.2.2.1 (1 : Int)) (5 : Int), w1.2.2.2))), ()), ())) else none) else none)
        else
        (bif w1.2.2.1 == (3 : Int) then
          (bif inb w1.2.2.2.1 (List.length l2) then
            (bif inz (5 : Int) then
              (some (((w1.1, ((w1.2.1.1, (w1.2.1.2.1, (List.getD l2 (Int.toNat w1.2.2.2.1) ((0 : Int), ((0 : Int), (0 : Int)))).2.2)), (irem (iadd .i64 w1.2.2.1 (1 : Int)) (5 : Int), w1.2.2.2))), ()), ())) else none) else none)
          else
          (bif w1.2.2.1 == (4 : Int) then
            (bif inz (5 : Int) then
              (some (((iadd .i64 w1.1 (1 : Int), (w1.2.1, (irem (iadd .i64 w1.2.2.1 (1 : Int)) (5 : Int), (iadd .i64 w1.2.2.2.1 (1 : Int), w1.2.2.2.2)))), ()), ())) else none)
            else
            (bif inz (5 : Int) then
              (some (((w1.1, (w1.2.1, (irem (iadd .i64 w1.2.2.1 (1 : Int)) (5 : Int), w1.2.2.2))), ()), ())) else none))))))

noncomputable def T_impl_SeqWorld_read (N : Nat) (w1 : Int × (Int × Int × Int) × Int × Int × List (Int × Int × (Int × Int × Int) × Int) × List (Int × Int × Int × Int × Int)) (k2 : Int) : Option (((Int × (Int × Int × Int) × Int × Int × List (Int × Int × (Int × Int × Int) × Int) × List (Int × Int × Int × Int × Int)) × Unit) × Unit) :=
    (bif inb k2 (List.length w1.2.2.2.2.1) then
    (bif (List.getD w1.2.2.2.2.1 (Int.toNat k2) ((0 : Int), ((0 : Int), (((0 : Int), ((0 : Int), (0 : Int))), (0 : Int))))).1 == (0 : Int) then
      (bif inz (2 : Int) then
        (bif (irem w1.1 (2 : Int)) == (1 : Int) then
          (some ((w1, ()), ()))
          else
          (share (List.set w1.2.2.2.2.1 (Int.toNat k2) ((List.getD w1.2.2.2.2.1 (Int.toNat k2) ((0 : Int), ((0 : Int), (((0 : Int), ((0 : Int), (0 : Int))), (0 : Int))))).1, (w1.1, (List.getD w1.2.2.2.2.1 (Int.toNat k2) ((0 : Int), ((0 : Int), (((0 : Int), ((0 : Int), (0 : Int))), (0 : Int))))).2.2))) fun s3 =>
            (some (((w1.1, (w1.2.1, (w1.2.2.1, (w1.2.2.2.1, (List.set s3 (Int.toNat k2) (iadd .i64 (List.getD (List.set w1.2.2.2.2.1 (Int.toNat k2) ((List.getD w1.2.2.2.2.1 (Int.toNat k2) ((0 : Int), ((0 : Int), (((0 : Int), ((0 : Int), (0 : Int))), (0 : Int))))).1, (w1.1, (List.getD w1.2.2.2.2.1 (Int.toNat k2) ((0 : Int), ((0 : Int), (((0 : Int), ((0 : Int), (0 : Int))), (0 : Int))))).2.2))) (Int.toNat k2) ((0 : Int), ((0 : Int), (((0 : Int), ((0 : Int), (0 : Int))), (0 : Int))))).1 (1 : Int), (List.getD s3 (Int.toNat k2) ((0 : Int), ((0 : Int), (((0 : Int), ((0 : Int), (0 : Int))), (0 : Int))))).2), w1.2.2.2.2.2))))), ()), ())))) else none)
      else
      (bif (List.getD w1.2.2.2.2.1 (Int.toNat k2) ((0 : Int), ((0 : Int), (((0 : Int), ((0 : Int), (0 : Int))), (0 : Int))))).1 == (1 : Int) then
        (share (List.set w1.2.2.2.2.1 (Int.toNat k2) ((List.getD w1.2.2.2.2.1 (Int.toNat k2) ((0 : Int), ((0 : Int), (((0 : Int), ((0 : Int), (0 : Int))), (0 : Int))))).1, ((List.getD w1.2.2.2.2.1 (Int.toNat k2) ((0 : Int), ((0 : Int), (((0 : Int), ((0 : Int), (0 : Int))), (0 : Int))))).2.1, ((w1.2.1.1, (List.getD w1.2.2.2.2.1 (Int.toNat k2) ((0 : Int), ((0 : Int), (((0 : Int), ((0 : Int), (0 : Int))), (0 : Int))))).2.2.1.2), (List.getD w1.2.2.2.2.1 (Int.toNat k2) ((0 : Int), ((0 : Int), (((0 : Int), ((0 : Int), (0 : Int))), (0 : Int))))).2.2.2)))) fun s4 =>
          (some (((w1.1, (w1.2.1, (w1.2.2.1, (w1.2.2.2.1, (List.set s4 (Int.toNat k2) (iadd .i64 (List.getD (List.set w1.2.2.2.2.1 (Int.toNat k2) ((List.getD w1.2.2.2.2.1 (Int.toNat k2) ((0 : Int), ((0 : Int), (((0 : Int), ((0 : Int), (0 : Int))), (0 : Int))))).1, ((List.getD w1.2.2.2.2.1 (Int.toNat k2) ((0 : Int), ((0 : Int), (((0 : Int), ((0 : Int), (0 : Int))), (0 : Int))))).2.1, ((w1.2.1.1, (List.getD w1.2.2.2.2.1 (Int.toNat k2) ((0 : Int), ((0 : Int), (((0 : Int), ((0 : Int), (0 : Int))), (0 : Int))))).2.2.1.2), (List.getD w1.2.2.2.2.1 (Int.toNat k2) ((0 : Int), ((0 : Int), (((0 : Int), ((0 : Int), (0 : Int))), (0 : Int))))).2.2.2)))) (Int.toNat k2) ((0 : Int), ((0 : Int), (((0 : Int), ((0 : Int), (0 : Int))), (0 : Int))))).1 (1 : Int), (List.getD s4 (Int.toNat k2) ((0 : Int), ((0 : Int), (((0 : Int), ((0 : Int), (0 : Int))), (0 : Int))))).2), w1.2.2.2.2.2))))), ()), ())))
        else
        (bif (List.getD w1.2.2.2.2.1 (Int.toNat k2) ((0 : Int), ((0 : Int), (((0 : Int), ((0 : Int), (0 : Int))), (0 : Int))))).1 == (2 : Int) then
          (share (List.set w1.2.2.2.2.1 (Int.toNat k2) ((List.getD w1.2.2.2.2.1 (Int.toNat k2) ((0 : Int), ((0 : Int), (((0 : Int), ((0 : Int), (0 : Int))), (0 : Int))))).1, ((List.getD w1.2.2.2.2.1 (Int.toNat k2) ((0 : Int), ((0 : Int), (((0 : Int), ((0 : Int), (0 : Int))), (0 : Int))))).2.1, (((List.getD w1.2.2.2.2.1 (Int.toNat k2) ((0 : Int), ((0 : Int), (((0 : Int), ((0 : Int), (0 : Int))), (0 : Int))))).2.2.1.1, (w1.2.1.2.1, (List.getD w1.2.2.2.2.1 (Int.toNat k2) ((0 : Int), ((0 : Int), (((0 : Int), ((0 : Int), (0 : Int))), (0 : Int))))).2.2.1.2.2)), (List.getD w1.2.2.2.2.1 (Int.toNat k2) ((0 : Int), ((0 : Int), (((0 : Int), ((0 : Int), (0 : Int))), (0 : Int))))).2.2.2)))) fun s5 =>
            (some (((w1.1, (w1.2.1, (w1.2.2.1, (w1.2.2.2.1, (List.set s5 (Int.toNat k2) (iadd .i64 (List.getD (List.set w1.2.2.2.2.1 (Int.toNat k2) ((List.getD w1.2.2.2.2.1 (Int.toNat k2) ((0 : Int), ((0 : Int), (((0 : Int), ((0 : Int), (0 : Int))), (0 : Int))))).1, ((List.getD w1.2.2.2.2.1 (Int.toNat k2) ((0 : Int), ((0 : Int), (((0 : Int), ((0 : Int), (0 : Int))), (0 : Int))))).2.1, (((List.getD w1.2.2.2.2.1 (Int.toNat k2) ((0 : Int), ((0 : Int), (((0 : Int), ((0 : Int), (0 : Int))), (0 : Int))))).2.2.1.1, (w1.2.1.2.1, (List.getD w1.2.2.2.2.1 (Int.toNat k2) ((0 : Int), ((0 : Int), (((0 : Int), ((0 : Int), (0 : Int))), (0 : Int))))).2.2.1.2.2)), (List.getD w1.2.2.2.2.1 (Int.toNat k2) ((0 : Int), ((0 : Int), (((0 : Int), ((0 : Int), (0 : Int))), (0 : Int))))).2.2.2)))) (Int.toNat k2) ((0 : Int), ((0 : Int), (((0 : Int), ((0 : Int), (0 : Int))), (0 : Int))))).1 (1 : Int), (List.getD s5 (Int.toNat k2) ((0 : Int), ((0 : Int), (((0 : Int), ((0 : Int), (0 : Int))), (0 : Int))))).2), w1.2.2.2.2.2))))), ()), ())))
          else
          (bif (List.getD w1.2.2.2.2.1 (Int.toNat k2) ((0 : Int), ((0 : Int), (((0 : Int), ((0 : Int), (0 : Int))), (0 : Int))))).1 == (3 : Int) then
            (share (List.set w1.2.2.2.2.1 (Int.toNat k2) ((List.getD w1.2.2.2.2.1 (Int.toNat k2) ((0 : Int), ((0 : Int), (((0 : Int), ((0 : Int), (0 : Int))), (0 : Int))))).1, ((List.getD w1.2.2.2.2.1 (Int.toNat k2) ((0 : Int), ((0 : Int), (((0 : Int), ((0 : Int), (0 : Int))), (0 : Int))))).2.1, (((List.getD w1.2.2.2.2.1 (Int.toNat k2) ((0 : Int), ((0 : Int), (((0 : Int), ((0 : Int), (0 : Int))), (0 : Int))))).2.2.1.1, ((List.getD w1.2.2.2.2.1 (Int.toNat k2) ((0 : Int), ((0 : Int), (((0 : Int), ((0 : Int), (0 : Int))), (0 : Int))))).2.2.1.2.1, w1.2.1.2.2)), (List.getD w1.2.2.2.2.1 (Int.toNat k2) ((0 : Int), ((0 : Int), (((0 : Int), ((0 : Int), (0 : Int))), (0 : Int))))).2.2.2)))) fun s6 =>
              (some (((w1.1, (w1.2.1, (w1.2.2.1, (w1.2.2.2.1, (List.set s6 (Int.toNat k2) (iadd .i64 (List.getD (List.set w1.2.2.2.2.1 (Int.toNat k2) ((List.getD w1.2.2.2.2.1 (Int.toNat k2) ((0 : Int), ((0 : Int), (((0 : Int), ((0 : Int), (0 : Int))), (0 : Int))))).1, ((List.getD w1.2.2.2.2.1 (Int.toNat k2) ((0 : Int), ((0 : Int), (((0 : Int), ((0 : Int), (0 : Int))), (0 : Int))))).2.1, (((List.getD w1.2.2.2.2.1 (Int.toNat k2) ((0 : Int), ((0 : Int), (((0 : Int), ((0 : Int), (0 : Int))), (0 : Int))))).2.2.1.1, ((List.getD w1.2.2.2.2.1 (Int.toNat k2) ((0 : Int), ((0 : Int), (((0 : Int), ((0 : Int), (0 : Int))), (0 : Int))))).2.2.1.2.1, w1.2.1.2.2)), (List.getD w1.2.2.2.2.1 (Int.toNat k2) ((0 : Int), ((0 : Int), (((0 : Int), ((0 : Int), (0 : Int))), (0 : Int))))).2.2.2)))) (Int.toNat k2) ((0 : Int), ((0 : Int), (((0 : Int), ((0 : Int), (0 : Int))), (0 : Int))))).1 (1 : Int), (List.getD s6 (Int.toNat k2) ((0 : Int), ((0 : Int), (((0 : Int), ((0 : Int), (0 : Int))), (0 : Int))))).2), w1.2.2.2.2.2))))), ()), ())))
            else
            (bif (List.getD w1.2.2.2.2.1 (Int.toNat k2) ((0 : Int), ((0 : Int), (((0 : Int), ((0 : Int), (0 : Int))), (0 : Int))))).1 == (4 : Int) then
              (bif w1.1 == (List.getD w1.2.2.2.2.1 (Int.toNat k2) ((0 : Int), ((0 : Int), (((0 : Int), ((0 : Int), (0 : Int))), (0 : Int))))).2.1 then
                (bif room ((List.length w1.2.2.2.2.2) + (List.length ([(k2, ((List.getD w1.2.2.2.2.1 (Int.toNat k2) ((0 : Int), ((0 : Int), (((0 : Int), ((0 : Int), (0 : Int))), (0 : Int))))).2.1, (List.getD w1.2.2.2.2.1 (Int.toNat k2) ((0 : Int), ((0 : Int), (((0 : Int), ((0 : Int), (0 : Int))), (0 : Int))))).2.2.1))]))) then
                  (some (((w1.1, (w1.2.1, (w1.2.2.1, (w1.2.2.2.1, (List.set w1.2.2.2.2.1 (Int.toNat k2) ((0 : Int), ((0 : Int), (((0 : Int), ((0 : Int), (0 : Int))), (List.getD w1.2.2.2.2.1 (Int.toNat k2) ((0 : Int), ((0 : Int), (((0 : Int), ((0 : Int), (0 : Int))), (0 : Int))))).2.2.2))), List.append w1.2.2.2.2.2 ([(k2, ((List.getD w1.2.2.2.2.1 (Int.toNat k2) ((0 : Int), ((0 : Int), (((0 : Int), ((0 : Int), (0 : Int))), (0 : Int))))).2.1, (List.getD w1.2.2.2.2.1 (Int.toNat k2) ((0 : Int), ((0 : Int), (((0 : Int), ((0 : Int), (0 : Int))), (0 : Int))))).2.2.1))])))))), ()), ())) else none)
                else
                (some (((w1.1, (w1.2.1, (w1.2.2.1, (w1.2.2.2.1, (List.set w1.2.2.2.2.1 (Int.toNat k2) ((0 : Int), ((0 : Int), (((0 : Int), ((0 : Int), (0 : Int))), iadd .i64 (List.getD w1.2.2.2.2.1 (Int.toNat k2) ((0 : Int), ((0 : Int), (((0 : Int), ((0 : Int), (0 : Int))), (0 : Int))))).2.2.2 (1 : Int)))), w1.2.2.2.2.2))))), ()), ())))
              else
              (some (((w1.1, (w1.2.1, (w1.2.2.1, (w1.2.2.2.1, (List.set w1.2.2.2.2.1 (Int.toNat k2) (iadd .i64 (List.getD w1.2.2.2.2.1 (Int.toNat k2) ((0 : Int), ((0 : Int), (((0 : Int), ((0 : Int), (0 : Int))), (0 : Int))))).1 (1 : Int), (List.getD w1.2.2.2.2.1 (Int.toNat k2) ((0 : Int), ((0 : Int), (((0 : Int), ((0 : Int), (0 : Int))), (0 : Int))))).2), w1.2.2.2.2.2))))), ()), ()))))))) else none)

noncomputable def T_impl_SeqPlay_lp0 {R : Type} (N : Nat) (l6 : List (Int × Int × Int)) (t7 : List Int) (K0 : Int → Bool → Int → Int → Int → Int → Int → Int → (List (Int × Int × (Int × Int × Int) × Int)) → (List (Int × Int × Int × Int × Int)) → Option R) : Nat → Int → Int → Int → Int → Int → Int → Int → (List (Int × Int × (Int × Int × Int) × Int)) → (List (Int × Int × Int × Int × Int)) → Option R
  | 0, _, _, _, _, _, _, _, _, _ => none
  | n + 1, t9, b16, b17, b18, b19, b20, b21, l22, l23 =>
    (bif decide (t9 < (ilen t7)) then
    (bif inb t9 (List.length t7) then
      (bif (List.getD t7 (Int.toNat t9) (0 : Int)) == (0 : Int) then
        ((T_impl_SeqWorld_write N (b16, ((b17, (b18, b19)), (b20, (b21, (l22, l23))))) l6).bind fun o40 =>
          (T_impl_SeqPlay_lp0 N l6 t7 K0 n (iadd .i64 t9 (1 : Int)) o40.1.1.1 o40.1.1.2.1.1 o40.1.1.2.1.2.1 o40.1.1.2.1.2.2 o40.1.1.2.2.1 o40.1.1.2.2.2.1 o40.1.1.2.2.2.2.1 o40.1.1.2.2.2.2.2))
        else
        ((T_impl_within N (List.getD t7 (Int.toNat t9) (0 : Int)) (1 : Int) (3 : Int)).bind fun o41 =>
          (bif o41.2.1 then
            ((T_impl_SeqWorld_read N (b16, ((b17, (b18, b19)), (b20, (b21, (l22, l23))))) (isub .i64 (List.getD t7 (Int.toNat t9) (0 : Int)) (1 : Int))).bind fun o42 =>
              (T_impl_SeqPlay_lp0 N l6 t7 K0 n (iadd .i64 t9 (1 : Int)) o42.1.1.1 o42.1.1.2.1.1 o42.1.1.2.1.2.1 o42.1.1.2.1.2.2 o42.1.1.2.2.1 o42.1.1.2.2.2.1 o42.1.1.2.2.2.2.1 o42.1.1.2.2.2.2.2))
            else
            (T_impl_SeqPlay_lp0 N l6 t7 K0 n (iadd .i64 t9 (1 : Int)) b16 b17 b18 b19 b20 b21 l22 l23)))) else none)
    else
    (K0 t9 (decide (t9 < (ilen t7))) b16 b17 b18 b19 b20 b21 l22 l23))

noncomputable def T_impl_SeqPlay (N : Nat) (start1 : Int × Int × Int) (l2 : List (Int × Int × Int)) (acts3 : List Int) : Option (Unit × ((Int × (Int × Int × Int) × Int × Int × List (Int × Int × (Int × Int × Int) × Int) × List (Int × Int × Int × Int × Int)) × Unit)) :=
    ((T_impl_isTriple N start1).bind fun o4 =>
    (bif !o4.2.1 then
      (some ((), (((0 : Int), (((0 : Int), ((0 : Int), (0 : Int))), ((0 : Int), ((0 : Int), (([] : List (Int × Int × (Int × Int × Int) × Int)), ([] : List (Int × Int × Int × Int × Int))))))), ())))
      else
      ((T_impl_TriplesOk N l2).bind fun o5 =>
        (bif !o5.2.1 then
          (some ((), (((0 : Int), (((0 : Int), ((0 : Int), (0 : Int))), ((0 : Int), ((0 : Int), (([] : List (Int × Int × (Int × Int × Int) × Int)), ([] : List (Int × Int × Int × Int × Int))))))), ())))
          else
          (bif decide ((ilen acts3) > (200 : Int)) then
            (some ((), (((0 : Int), (((0 : Int), ((0 : Int), (0 : Int))), ((0 : Int), ((0 : Int), (([] : List (Int × Int × (Int × Int × Int) × Int)), ([] : List (Int × Int × Int × Int × Int))))))), ())))
            else
            (both
              (bif ((decide ((0 : Int) ≤ (3 : Int))) && (decide ((3 : Int) ≤ (3 : Int)))) && (room (Int.toNat (3 : Int))) then
                (T_impl_SeqPlay_lp0 N l2 acts3
                  (fun t43 t44 b45 b46 b47 b48 b49 b50 l51 l52 =>
                    (some ((), ((b45, ((b46, (b47, b48)), (b49, (b50, (l51, l52))))), ()))))
                   N (0 : Int) (0 : Int) start1.1 start1.2.1 start1.2.2 (0 : Int) (0 : Int) (List.replicate (Int.toNat (3 : Int)) ((0 : Int), ((0 : Int), (((0 : Int), ((0 : Int), (0 : Int))), (0 : Int))))) ([] : List (Int × Int × Int × Int × Int))) else none)
              (bif ((decide ((0 : Int) ≤ (3 : Int))) && (decide ((3 : Int) ≤ (3 : Int)))) && (room (Int.toNat (3 : Int))) then
                (T_impl_SeqPlay_lp0 N l2 acts3
                  (fun t53 t54 b55 b56 b57 b58 b59 b60 l61 l62 =>
                    (some ((), ((b55, ((b56, (b57, b58)), (b59, (b60, (l61, l62))))), ()))))
                   N (0 : Int) (0 : Int) start1.1 start1.2.1 start1.2.2 (0 : Int) (0 : Int) (List.replicate (Int.toNat (3 : Int)) ((0 : Int), ((0 : Int), (((0 : Int), ((0 : Int), (0 : Int))), (0 : Int))))) ([] : List (Int × Int × Int × Int × Int))) else none)))))))

noncomputable def T_laws_eqTriple (N : Nat) (a1 : Int × Int × Int) (b2 : Int × Int × Int) : Option (Unit × (Bool × Unit)) :=
    (bif a1.1 != b2.1 then
    (some ((), (false, ())))
    else
    (bif a1.2.1 != b2.2.1 then
      (some ((), (false, ())))
      else
      (bif a1.2.2 != b2.2.2 then
        (some ((), (false, ())))
        else
        (some ((), (true, ()))))))

noncomputable def T_laws_eqSeqReader (N : Nat) (a1 : Int × Int × (Int × Int × Int) × Int) (b2 : Int × Int × (Int × Int × Int) × Int) : Option (Unit × (Bool × Unit)) :=
    (bif a1.1 != b2.1 then
    (some ((), (false, ())))
    else
    (bif a1.2.1 != b2.2.1 then
      (some ((), (false, ())))
      else
      ((T_laws_eqTriple N a1.2.2.1 b2.2.2.1).bind fun o3 =>
        (bif !o3.2.1 then
          (some ((), (false, ())))
          else
          (bif a1.2.2.2 != b2.2.2.2 then
            (some ((), (false, ())))
            else
            (some ((), (true, ()))))))))

noncomputable def T_laws_eqSeqReaderS_lp0 {R : Type} (N : Nat) (a3 : List (Int × Int × (Int × Int × Int) × Int)) (b4 : List (Int × Int × (Int × Int × Int) × Int)) (K0 : Option R) (K1 : Int → Bool → Option R) : Nat → Int → Option R
  | 0, _ => none
  | n + 1, i5 =>
    (bif decide (i5 < (ilen a3)) then
    (bif inb i5 (List.length a3) then
      (bif inb i5 (List.length b4) then
        ((T_laws_eqSeqReader N (List.getD a3 (Int.toNat i5) ((0 : Int), ((0 : Int), (((0 : Int), ((0 : Int), (0 : Int))), (0 : Int))))) (List.getD b4 (Int.toNat i5) ((0 : Int), ((0 : Int), (((0 : Int), ((0 : Int), (0 : Int))), (0 : Int)))))).bind fun o9 =>
          (bif !o9.2.1 then
            K0
            else
            (T_laws_eqSeqReaderS_lp0 N a3 b4 K0 K1 n (iadd .i64 i5 (1 : Int))))) else none) else none)
    else
    (K1 i5 (decide (i5 < (ilen a3)))))

noncomputable def T_laws_eqSeqReaderS (N : Nat) (a1 : List (Int × Int × (Int × Int × Int) × Int)) (b2 : List (Int × Int × (Int × Int × Int) × Int)) : Option (Unit × (Bool × Unit)) :=
    (bif (ilen a1) != (ilen b2) then
    (some ((), (false, ())))
    else
    (T_laws_eqSeqReaderS_lp0 N a1 b2
      (some ((), (false, ())))
      (fun i10 t11 =>
        (some ((), (true, ()))))
       N (0 : Int)))

noncomputable def T_laws_eqSeqRead (N : Nat) (a1 : Int × Int × Int × Int × Int) (b2 : Int × Int × Int × Int × Int) : Option (Unit × (Bool × Unit)) :=
    (bif a1.1 != b2.1 then
    (some ((), (false, ())))
    else
    (bif a1.2.1 != b2.2.1 then
      (some ((), (false, ())))
      else
      ((T_laws_eqTriple N a1.2.2 b2.2.2).bind fun o3 =>
        (bif !o3.2.1 then
          (some ((), (false, ())))
          else
          (some ((), (true, ())))))))

noncomputable def T_laws_eqSeqReadS_lp0 {R : Type} (N : Nat) (a3 : List (Int × Int × Int × Int × Int)) (b4 : List (Int × Int × Int × Int × Int)) (K0 : Option R) (K1 : Int → Bool → Option R) : Nat → Int → Option R
  | 0, _ => none
  | n + 1, i5 =>
    (bif decide (i5 < (ilen a3)) then
    (bif inb i5 (List.length a3) then
      (bif inb i5 (List.length b4) then
        ((T_laws_eqSeqRead N (List.getD a3 (Int.toNat i5) ((0 : Int), ((0 : Int), ((0 : Int), ((0 : Int), (0 : Int)))))) (List.getD b4 (Int.toNat i5) ((0 : Int), ((0 : Int), ((0 : Int), ((0 : Int), (0 : Int))))))).bind fun o9 =>
          (bif !o9.2.1 then
            K0
            else
            (T_laws_eqSeqReadS_lp0 N a3 b4 K0 K1 n (iadd .i64 i5 (1 : Int))))) else none) else none)
    else
    (K1 i5 (decide (i5 < (ilen a3)))))

noncomputable def T_laws_eqSeqReadS (N : Nat) (a1 : List (Int × Int × Int × Int × Int)) (b2 : List (Int × Int × Int × Int × Int)) : Option (Unit × (Bool × Unit)) :=
    (bif (ilen a1) != (ilen b2) then
    (some ((), (false, ())))
    else
    (T_laws_eqSeqReadS_lp0 N a1 b2
      (some ((), (false, ())))
      (fun i10 t11 =>
        (some ((), (true, ()))))
       N (0 : Int)))

noncomputable def T_laws_eqSeqWorld (N : Nat) (a1 : Int × (Int × Int × Int) × Int × Int × List (Int × Int × (Int × Int × Int) × Int) × List (Int × Int × Int × Int × Int)) (b2 : Int × (Int × Int × Int) × Int × Int × List (Int × Int × (Int × Int × Int) × Int) × List (Int × Int × Int × Int × Int)) : Option (Unit × (Bool × Unit)) :=
    (bif a1.1 != b2.1 then
    (some ((), (false, ())))
    else
    ((T_laws_eqTriple N a1.2.1 b2.2.1).bind fun o3 =>
      (bif !o3.2.1 then
        (some ((), (false, ())))
        else
        (bif a1.2.2.1 != b2.2.2.1 then
          (some ((), (false, ())))
          else
          (bif a1.2.2.2.1 != b2.2.2.2.1 then
            (some ((), (false, ())))
            else
            ((T_laws_eqSeqReaderS N a1.2.2.2.2.1 b2.2.2.2.2.1).bind fun o4 =>
              (bif !o4.2.1 then
                (some ((), (false, ())))
                else
                ((T_laws_eqSeqReadS N a1.2.2.2.2.2 b2.2.2.2.2.2).bind fun o5 =>
                  (bif !o5.2.1 then
                    (some ((), (false, ())))
                    else
                    (some ((), (true, ()))))))))))))

noncomputable def T_laws_eqTripleS_lp0 {R : Type} (N : Nat) (a3 : List (Int × Int × Int)) (b4 : List (Int × Int × Int)) (K0 : Option R) (K1 : Int → Bool → Option R) : Nat → Int → Option R
  | 0, _ => none
  | n + 1, i5 =>
    (bif decide (i5 < (ilen a3)) then
    (bif inb i5 (List.length a3) then
      (bif inb i5 (List.length b4) then
        ((T_laws_eqTriple N (List.getD a3 (Int.toNat i5) ((0 : Int), ((0 : Int), (0 : Int)))) (List.getD b4 (Int.toNat i5) ((0 : Int), ((0 : Int), (0 : Int))))).bind fun o9 =>
          (bif !o9.2.1 then
            K0
            else
            (T_laws_eqTripleS_lp0 N a3 b4 K0 K1 n (iadd .i64 i5 (1 : Int))))) else none) else none)
    else
    (K1 i5 (decide (i5 < (ilen a3)))))

noncomputable def T_laws_eqTripleS (N : Nat) (a1 : List (Int × Int × Int)) (b2 : List (Int × Int × Int)) : Option (Unit × (Bool × Unit)) :=
    (bif (ilen a1) != (ilen b2) then
    (some ((), (false, ())))
    else
    (T_laws_eqTripleS_lp0 N a1 b2
      (some ((), (false, ())))
      (fun i10 t11 =>
        (some ((), (true, ()))))
       N (0 : Int)))

noncomputable def T_laws_eqIntS_lp0 {R : Type} (N : Nat) (a3 : List Int) (b4 : List Int) (K0 : Option R) (K1 : Int → Bool → Option R) : Nat → Int → Option R
  | 0, _ => none
  | n + 1, i5 =>
    (bif decide (i5 < (ilen a3)) then
    (bif inb i5 (List.length a3) then
      (bif inb i5 (List.length b4) then
        (bif (List.getD a3 (Int.toNat i5) (0 : Int)) != (List.getD b4 (Int.toNat i5) (0 : Int)) then
          K0
          else
          (T_laws_eqIntS_lp0 N a3 b4 K0 K1 n (iadd .i64 i5 (1 : Int)))) else none) else none)
    else
    (K1 i5 (decide (i5 < (ilen a3)))))

noncomputable def T_laws_eqIntS (N : Nat) (a1 : List Int) (b2 : List Int) : Option (Unit × (Bool × Unit)) :=
    (bif (ilen a1) != (ilen b2) then
    (some ((), (false, ())))
    else
    (T_laws_eqIntS_lp0 N a1 b2
      (some ((), (false, ())))
      (fun i8 t9 =>
        (some ((), (true, ()))))
       N (0 : Int)))

noncomputable def T_laws_markTripleS_lp0 {R : Type} (N : Nat) (K0 : Int → Int → Bool → (List (Int × Int × Int)) → Option R) : Nat → Int → Int → (List (Int × Int × Int)) → Option R
  | 0, _, _, _ => none
  | n + 1, k3, i4, l5 =>
    (bif decide (i4 < (ilen l5)) then
    (bif inb i4 (List.length l5) then
      (bif inb i4 (List.length (List.set l5 (Int.toNat i4) (k3, (List.getD l5 (Int.toNat i4) ((0 : Int), ((0 : Int), (0 : Int)))).2))) then
        (share (List.set l5 (Int.toNat i4) (k3, (List.getD l5 (Int.toNat i4) ((0 : Int), ((0 : Int), (0 : Int)))).2)) fun s12 =>
          (bif inb i4 (List.length (List.set s12 (Int.toNat i4) ((List.getD s12 (Int.toNat i4) ((0 : Int), ((0 : Int), (0 : Int)))).1, (iadd .i64 k3 (1 : Int), (List.getD s12 (Int.toNat i4) ((0 : Int), ((0 : Int), (0 : Int)))).2.2)))) then
            (share (List.set s12 (Int.toNat i4) ((List.getD s12 (Int.toNat i4) ((0 : Int), ((0 : Int), (0 : Int)))).1, (iadd .i64 k3 (1 : Int), (List.getD s12 (Int.toNat i4) ((0 : Int), ((0 : Int), (0 : Int)))).2.2))) fun s13 =>
              (T_laws_markTripleS_lp0 N K0 n (iadd .i64 (iadd .i64 (iadd .i64 k3 (1 : Int)) (1 : Int)) (1 : Int)) (iadd .i64 i4 (1 : Int)) (List.set s13 (Int.toNat i4) ((List.getD s13 (Int.toNat i4) ((0 : Int), ((0 : Int), (0 : Int)))).1, ((List.getD s13 (Int.toNat i4) ((0 : Int), ((0 : Int), (0 : Int)))).2.1, iadd .i64 (iadd .i64 k3 (1 : Int)) (1 : Int)))))) else none)) else none) else none)
    else
    (K0 k3 i4 (decide (i4 < (ilen l5))) l5))

noncomputable def T_laws_markTripleS (N : Nat) (a1 : List (Int × Int × Int)) (k2 : Int) : Option (((List (Int × Int × Int)) × Unit) × (Int × Unit)) :=
    (T_laws_markTripleS_lp0 N
    (fun k14 i15 t16 l17 =>
      (some ((l17, ()), (k14, ()))))
     N k2 (0 : Int) a1)

noncomputable def T_laws_markIntS_lp0 {R : Type} (N : Nat) (K0 : Int → Int → Bool → (List Int) → Option R) : Nat → Int → Int → (List Int) → Option R
  | 0, _, _, _ => none
  | n + 1, k3, i4, l5 =>
    (bif decide (i4 < (ilen l5)) then
    (bif inb i4 (List.length l5) then
      (T_laws_markIntS_lp0 N K0 n (iadd .i64 k3 (1 : Int)) (iadd .i64 i4 (1 : Int)) (List.set l5 (Int.toNat i4) k3)) else none)
    else
    (K0 k3 i4 (decide (i4 < (ilen l5))) l5))

noncomputable def T_laws_markIntS (N : Nat) (a1 : List Int) (k2 : Int) : Option (((List Int) × Unit) × (Int × Unit)) :=
    (T_laws_markIntS_lp0 N
    (fun k10 i11 t12 l13 =>
      (some ((l13, ()), (k10, ()))))
     N k2 (0 : Int) a1)

noncomputable def T_laws_markSeqReaderS_lp0 {R : Type} (N : Nat) (K0 : Int → Int → Bool → (List (Int × Int × (Int × Int × Int) × Int)) → Option R) : Nat → Int → Int → (List (Int × Int × (Int × Int × Int) × Int)) → Option R
  | 0, _, _, _ => none
  | n + 1, k3, i4, l5 =>
    (bif decide (i4 < (ilen l5)) then
    (bif inb i4 (List.length l5) then
      (bif inb i4 (List.length (List.set l5 (Int.toNat i4) (k3, (List.getD l5 (Int.toNat i4) ((0 : Int), ((0 : Int), (((0 : Int), ((0 : Int), (0 : Int))), (0 : Int))))).2))) then
        (share (List.set l5 (Int.toNat i4) (k3, (List.getD l5 (Int.toNat i4) ((0 : Int), ((0 : Int), (((0 : Int), ((0 : Int), (0 : Int))), (0 : Int))))).2)) fun s15 =>
          (bif inb i4 (List.length (List.set s15 (Int.toNat i4) ((List.getD s15 (Int.toNat i4) ((0 : Int), ((0 : Int), (((0 : Int), ((0 : Int), (0 : Int))), (0 : Int))))).1, (iadd .i64 k3 (1 : Int), (List.getD s15 (Int.toNat i4) ((0 : Int), ((0 : Int), (((0 : Int), ((0 : Int), (0 : Int))), (0 : Int))))).2.2)))) then
            (share (List.set s15 (Int.toNat i4) ((List.getD s15 (Int.toNat i4) ((0 : Int), ((0 : Int), (((0 : Int), ((0 : Int), (0 : Int))), (0 : Int))))).1, (iadd .i64 k3 (1 : Int), (List.getD s15 (Int.toNat i4) ((0 : Int), ((0 : Int), (((0 : Int), ((0 : Int), (0 : Int))), (0 : Int))))).2.2))) fun s16 =>
              (bif inb i4 (List.length (List.set s16 (Int.toNat i4) ((List.getD s16 (Int.toNat i4) ((0 : Int), ((0 : Int), (((0 : Int), ((0 : Int), (0 : Int))), (0 : Int))))).1, ((List.getD s16 (Int.toNat i4) ((0 : Int), ((0 : Int), (((0 : Int), ((0 : Int), (0 : Int))), (0 : Int))))).2.1, ((iadd .i64 (iadd .i64 k3 (1 : Int)) (1 : Int), (List.getD s16 (Int.toNat i4) ((0 : Int), ((0 : Int), (((0 : Int), ((0 : Int), (0 : Int))), (0 : Int))))).2.2.1.2), (List.getD s16 (Int.toNat i4) ((0 : Int), ((0 : Int), (((0 : Int), ((0 : Int), (0 : Int))), (0 : Int))))).2.2.2))))) then
                (share (List.set s16 (Int.toNat i4) ((List.getD s16 (Int.toNat i4) ((0 : Int), ((0 : Int), (((0 : Int), ((0 : Int), (0 : Int))), (0 : Int))))).1, ((List.getD s16 (Int.toNat i4) ((0 : Int), ((0 : Int), (((0 : Int), ((0 : Int), (0 : Int))), (0 : Int))))).2.1, ((iadd .i64 (iadd .i64 k3 (1 : Int)) (1 : Int), (List.getD s16 (Int.toNat i4) ((0 : Int), ((0 : Int), (((0 : Int), ((0 : Int), (0 : Int))), (0 : Int))))).2.2.1.2), (List.getD s16 (Int.toNat i4) ((0 : Int), ((0 : Int), (((0 : Int), ((0 : Int), (0 : Int))), (0 : Int))))).2.2.2)))) fun s17 =>
                  (bif inb i4 (List.length (List.set s17 (Int.toNat i4) ((List.getD s17 (Int.toNat i4) ((0 : Int), ((0 : Int), (((0 : Int), ((0 : Int), (0 : Int))), (0 : Int))))).1, ((List.getD s17 (Int.toNat i4) ((0 : Int), ((0 : Int), (((0 : Int), ((0 : Int), (0 : Int))), (0 : Int))))).2.1, (((List.getD s17 (Int.toNat i4) ((0 : Int), ((0 : Int), (((0 : Int), ((0 : Int), (0 : Int))), (0 : Int))))).2.2.1.1, (iadd .i64 (iadd .i64 (iadd .i64 k3 (1 : Int)) (1 : Int)) (1 : Int), (List.getD s17 (Int.toNat i4) ((0 : Int), ((0 : Int), (((0 : Int), ((0 : Int), (0 : Int))), (0 : Int))))).2.2.1.2.2)), (List.getD s17 (Int.toNat i4) ((0 : Int), ((0 : Int), (((0 : Int), ((0 : Int), (0 : Int))), (0 : Int))))).2.2.2))))) then
                    (share (List.set s17 (Int.toNat i4) ((List.getD s17 (Int.toNat i4) ((0 : Int), ((0 : Int), (((0 : Int), ((0 : Int), (0 : Int))), (0 : Int))))).1, ((List.getD s17 (Int.toNat i4) ((0 : Int), ((0 : Int), (((0 : Int), ((0 : Int), (0 : Int))), (0 : Int))))).2.1, (((List.getD s17 (Int.toNat i4) ((0 : Int), ((0 : Int), (((0 : Int), ((0 : Int), (0 : Int))), (0 : Int))))).2.2.1.1, (iadd .i64 (iadd .i64 (iadd .i64 k3 (1 : Int)) (1 : Int)) (1 : Int), (List.getD s17 (Int.toNat i4) ((0 : Int), ((0 : Int), (((0 : Int), ((0 : Int), (0 : Int))), (0 : Int))))).2.2.1.2.2)), (List.getD s17 (Int.toNat i4) ((0 : Int), ((0 : Int), (((0 : Int), ((0 : Int), (0 : Int))), (0 : Int))))).2.2.2)))) fun s18 =>
                      (bif inb i4 (List.length (List.set s18 (Int.toNat i4) ((List.getD s18 (Int.toNat i4) ((0 : Int), ((0 : Int), (((0 : Int), ((0 : Int), (0 : Int))), (0 : Int))))).1, ((List.getD s18 (Int.toNat i4) ((0 : Int), ((0 : Int), (((0 : Int), ((0 : Int), (0 : Int))), (0 : Int))))).2.1, (((List.getD s18 (Int.toNat i4) ((0 : Int), ((0 : Int), (((0 : Int), ((0 : Int), (0 : Int))), (0 : Int))))).2.2.1.1, ((List.getD s18 (Int.toNat i4) ((0 : Int), ((0 : Int), (((0 : Int), ((0 : Int), (0 : Int))), (0 : Int))))).2.2.1.2.1, iadd .i64 (iadd .i64 (iadd .i64 (iadd .i64 k3 (1 : Int)) (1 : Int)) (1 : Int)) (1 : Int))), (List.getD s18 (Int.toNat i4) ((0 : Int), ((0 : Int), (((0 : Int), ((0 : Int), (0 : Int))), (0 : Int))))).2.2.2))))) then
                        (share (List.set s18 (Int.toNat i4) ((List.getD s18 (Int.toNat i4) ((0 : Int), ((0 : Int), (((0 : Int), ((0 : Int), (0 : Int))), (0 : Int))))).1, ((List.getD s18 (Int.toNat i4) ((0 : Int), ((0 : Int), (((0 : Int), ((0 : Int), (0 : Int))), (0 : Int))))).2.1, (((List.getD s18 (Int.toNat i4) ((0 : Int), ((0 : Int), (((0 : Int), ((0 : Int), (0 : Int))), (0 : Int))))).2.2.1.1, ((List.getD s18 (Int.toNat i4) ((0 : Int), ((0 : Int), (((0 : Int), ((0 : Int), (0 : Int))), (0 : Int))))).2.2.1.2.1, iadd .i64 (iadd .i64 (iadd .i64 (iadd .i64 k3 (1 : Int)) (1 : Int)) (1 : Int)) (1 : Int))), (List.getD s18 (Int.toNat i4) ((0 : Int), ((0 : Int), (((0 : Int), ((0 : Int), (0 : Int))), (0 : Int))))).2.2.2)))) fun s19 =>
                          (T_laws_markSeqReaderS_lp0 N K0 n (iadd .i64 (iadd .i64 (iadd .i64 (iadd .i64 (iadd .i64 (iadd .i64 k3 (1 : Int)) (1 : Int)) (1 : Int)) (1 : Int)) (1 : Int)) (1 : Int)) (iadd .i64 i4 (1 : Int)) (List.set s19 (Int.toNat i4) ((List.getD s19 (Int.toNat i4) ((0 : Int), ((0 : Int), (((0 : Int), ((0 : Int), (0 : Int))), (0 : Int))))).1, ((List.getD s19 (Int.toNat i4) ((0 : Int), ((0 : Int), (((0 : Int), ((0 : Int), (0 : Int))), (0 : Int))))).2.1, ((List.getD s19 (Int.toNat i4) ((0 : Int), ((0 : Int), (((0 : Int), ((0 : Int), (0 : Int))), (0 : Int))))).2.2.1, iadd .i64 (iadd .i64 (iadd .i64 (iadd .i64 (iadd .i64 k3 (1 : Int)) (1 : Int)) (1 : Int)) (1 : Int)) (1 : Int))))))) else none)) else none)) else none)) else none)) else none) else none)
    else
    (K0 k3 i4 (decide (i4 < (ilen l5))) l5))

noncomputable def T_laws_markSeqReaderS (N : Nat) (a1 : List (Int × Int × (Int × Int × Int) × Int)) (k2 : Int) : Option (((List (Int × Int × (Int × Int × Int) × Int)) × Unit) × (Int × Unit)) :=
    (T_laws_markSeqReaderS_lp0 N
    (fun k20 i21 t22 l23 =>
      (some ((l23, ()), (k20, ()))))
     N k2 (0 : Int) a1)

noncomputable def T_laws_markSeqReadS_lp0 {R : Type} (N : Nat) (K0 : Int → Int → Bool → (List (Int × Int × Int × Int × Int)) → Option R) : Nat → Int → Int → (List (Int × Int × Int × Int × Int)) → Option R
  | 0, _, _, _ => none
  | n + 1, k3, i4, l5 =>
    (bif decide (i4 < (ilen l5)) then
    (bif inb i4 (List.length l5) then
      (bif inb i4 (List.length (List.set l5 (Int.toNat i4) (k3, (List.getD l5 (Int.toNat i4) ((0 : Int), ((0 : Int), ((0 : Int), ((0 : Int), (0 : Int)))))).2))) then
        (share (List.set l5 (Int.toNat i4) (k3, (List.getD l5 (Int.toNat i4) ((0 : Int), ((0 : Int), ((0 : Int), ((0 : Int), (0 : Int)))))).2)) fun s14 =>
          (bif inb i4 (List.length (List.set s14 (Int.toNat i4) ((List.getD s14 (Int.toNat i4) ((0 : Int), ((0 : Int), ((0 : Int), ((0 : Int), (0 : Int)))))).1, (iadd .i64 k3 (1 : Int), (List.getD s14 (Int.toNat i4) ((0 : Int), ((0 : Int), ((0 : Int), ((0 : Int), (0 : Int)))))).2.2)))) then
            (share (List.set s14 (Int.toNat i4) ((List.getD s14 (Int.toNat i4) ((0 : Int), ((0 : Int), ((0 : Int), ((0 : Int), (0 : Int)))))).1, (iadd .i64 k3 (1 : Int), (List.getD s14 (Int.toNat i4) ((0 : Int), ((0 : Int), ((0 : Int), ((0 : Int), (0 : Int)))))).2.2))) fun s15 =>
              (bif inb i4 (List.length (List.set s15 (Int.toNat i4) ((List.getD s15 (Int.toNat i4) ((0 : Int), ((0 : Int), ((0 : Int), ((0 : Int), (0 : Int)))))).1, ((List.getD s15 (Int.toNat i4) ((0 : Int), ((0 : Int), ((0 : Int), ((0 : Int), (0 : Int)))))).2.1, (iadd .i64 (iadd .i64 k3 (1 : Int)) (1 : Int), (List.getD s15 (Int.toNat i4) ((0 : Int), ((0 : Int), ((0 : Int), ((0 : Int), (0 : Int)))))).2.2.2))))) then
                (share (List.set s15 (Int.toNat i4) ((List.getD s15 (Int.toNat i4) ((0 : Int), ((0 : Int), ((0 : Int), ((0 : Int), (0 : Int)))))).1, ((List.getD s15 (Int.toNat i4) ((0 : Int), ((0 : Int), ((0 : Int), ((0 : Int), (0 : Int)))))).2.1, (iadd .i64 (iadd .i64 k3 (1 : Int)) (1 : Int), (List.getD s15 (Int.toNat i4) ((0 : Int), ((0 : Int), ((0 : Int), ((0 : Int), (0 : Int)))))).2.2.2)))) fun s16 =>
                  (bif inb i4 (List.length (List.set s16 (Int.toNat i4) ((List.getD s16 (Int.toNat i4) ((0 : Int), ((0 : Int), ((0 : Int), ((0 : Int), (0 : Int)))))).1, ((List.getD s16 (Int.toNat i4) ((0 : Int), ((0 : Int), ((0 : Int), ((0 : Int), (0 : Int)))))).2.1, ((List.getD s16 (Int.toNat i4) ((0 : Int), ((0 : Int), ((0 : Int), ((0 : Int), (0 : Int)))))).2.2.1, (iadd .i64 (iadd .i64 (iadd .i64 k3 (1 : Int)) (1 : Int)) (1 : Int), (List.getD s16 (Int.toNat i4) ((0 : Int), ((0 : Int), ((0 : Int), ((0 : Int), (0 : Int)))))).2.2.2.2)))))) then
                    (share (List.set s16 (Int.toNat i4) ((List.getD s16 (Int.toNat i4) ((0 : Int), ((0 : Int), ((0 : Int), ((0 : Int), (0 : Int)))))).1, ((List.getD s16 (Int.toNat i4) ((0 : Int), ((0 : Int), ((0 : Int), ((0 : Int), (0 : Int)))))).2.1, ((List.getD s16 (Int.toNat i4) ((0 : Int), ((0 : Int), ((0 : Int), ((0 : Int), (0 : Int)))))).2.2.1, (iadd .i64 (iadd .i64 (iadd .i64 k3 (1 : Int)) (1 : Int)) (1 : Int), (List.getD s16 (Int.toNat i4) ((0 : Int), ((0 : Int), ((0 : Int), ((0 : Int), (0 : Int)))))).2.2.2.2))))) fun s17 =>
                      (T_laws_markSeqReadS_lp0 N K0 n (iadd .i64 (iadd .i64 (iadd .i64 (iadd .i64 (iadd .i64 k3 (1 : Int)) (1 : Int)) (1 : Int)) (1 : Int)) (1 : Int)) (iadd .i64 i4 (1 : Int)) (List.set s17 (Int.toNat i4) ((List.getD s17 (Int.toNat i4) ((0 : Int), ((0 : Int), ((0 : Int), ((0 : Int), (0 : Int)))))).1, ((List.getD s17 (Int.toNat i4) ((0 : Int), ((0 : Int), ((0 : Int), ((0 : Int), (0 : Int)))))).2.1, ((List.getD s17 (Int.toNat i4) ((0 : Int), ((0 : Int), ((0 : Int), ((0 : Int), (0 : Int)))))).2.2.1, ((List.getD s17 (Int.toNat i4) ((0 : Int), ((0 : Int), ((0 : Int), ((0 : Int), (0 : Int)))))).2.2.2.1, iadd .i64 (iadd .i64 (iadd .i64 (iadd .i64 k3 (1 : Int)) (1 : Int)) (1 : Int)) (1 : Int)))))))) else none)) else none)) else none)) else none) else none)
    else
    (K0 k3 i4 (decide (i4 < (ilen l5))) l5))

noncomputable def T_laws_markSeqReadS (N : Nat) (a1 : List (Int × Int × Int × Int × Int)) (k2 : Int) : Option (((List (Int × Int × Int × Int × Int)) × Unit) × (Int × Unit)) :=
    (T_laws_markSeqReadS_lp0 N
    (fun k18 i19 t20 l21 =>
      (some ((l21, ()), (k18, ()))))
     N k2 (0 : Int) a1)

noncomputable def T_laws_markSeqWorld (N : Nat) (a1 : Int × (Int × Int × Int) × Int × Int × List (Int × Int × (Int × Int × Int) × Int) × List (Int × Int × Int × Int × Int)) (k2 : Int) : Option (((Int × (Int × Int × Int) × Int × Int × List (Int × Int × (Int × Int × Int) × Int) × List (Int × Int × Int × Int × Int)) × Unit) × (Int × Unit)) :=
    ((T_laws_markSeqReaderS N a1.2.2.2.2.1 k2).bind fun o3 =>
    ((T_laws_markSeqReadS N a1.2.2.2.2.2 o3.2.1).bind fun o4 =>
      (some (((a1.1, (a1.2.1, (a1.2.2.1, (a1.2.2.2.1, (o3.1.1, o4.1.1))))), ()), (o4.2.1, ())))))

noncomputable def T_laws_heldSeqReaderS_lp0 {R : Type} (N : Nat) (a3 : List (Int × Int × (Int × Int × Int) × Int)) (K0 : Option R) (K1 : Int → Int → Bool → Option R) : Nat → Int → Int → Option R
  | 0, _, _ => none
  | n + 1, k4, i5 =>
    (bif decide (i5 < (ilen a3)) then
    (bif inb i5 (List.length a3) then
      (bif (List.getD a3 (Int.toNat i5) ((0 : Int), ((0 : Int), (((0 : Int), ((0 : Int), (0 : Int))), (0 : Int))))).1 != k4 then
        K0
        else
        (bif inb i5 (List.length a3) then
          (bif (List.getD a3 (Int.toNat i5) ((0 : Int), ((0 : Int), (((0 : Int), ((0 : Int), (0 : Int))), (0 : Int))))).2.1 != (iadd .i64 k4 (1 : Int)) then
            K0
            else
            (bif inb i5 (List.length a3) then
              (bif (List.getD a3 (Int.toNat i5) ((0 : Int), ((0 : Int), (((0 : Int), ((0 : Int), (0 : Int))), (0 : Int))))).2.2.1.1 != (iadd .i64 (iadd .i64 k4 (1 : Int)) (1 : Int)) then
                K0
                else
                (bif inb i5 (List.length a3) then
                  (bif (List.getD a3 (Int.toNat i5) ((0 : Int), ((0 : Int), (((0 : Int), ((0 : Int), (0 : Int))), (0 : Int))))).2.2.1.2.1 != (iadd .i64 (iadd .i64 (iadd .i64 k4 (1 : Int)) (1 : Int)) (1 : Int)) then
                    K0
                    else
                    (bif inb i5 (List.length a3) then
                      (bif (List.getD a3 (Int.toNat i5) ((0 : Int), ((0 : Int), (((0 : Int), ((0 : Int), (0 : Int))), (0 : Int))))).2.2.1.2.2 != (iadd .i64 (iadd .i64 (iadd .i64 (iadd .i64 k4 (1 : Int)) (1 : Int)) (1 : Int)) (1 : Int)) then
                        K0
                        else
                        (bif inb i5 (List.length a3) then
                          (bif (List.getD a3 (Int.toNat i5) ((0 : Int), ((0 : Int), (((0 : Int), ((0 : Int), (0 : Int))), (0 : Int))))).2.2.2 != (iadd .i64 (iadd .i64 (iadd .i64 (iadd .i64 (iadd .i64 k4 (1 : Int)) (1 : Int)) (1 : Int)) (1 : Int)) (1 : Int)) then
                            K0
                            else
                            (T_laws_heldSeqReaderS_lp0 N a3 K0 K1 n (iadd .i64 (iadd .i64 (iadd .i64 (iadd .i64 (iadd .i64 (iadd .i64 k4 (1 : Int)) (1 : Int)) (1 : Int)) (1 : Int)) (1 : Int)) (1 : Int)) (iadd .i64 i5 (1 : Int)))) else none)) else none)) else none)) else none)) else none)) else none)
    else
    (K1 k4 i5 (decide (i5 < (ilen a3)))))

noncomputable def T_laws_heldSeqReaderS (N : Nat) (a1 : List (Int × Int × (Int × Int × Int) × Int)) (k2 : Int) : Option (Unit × (Int × Unit)) :=
    (T_laws_heldSeqReaderS_lp0 N a1
    (some ((), ((-1 : Int), ())))
    (fun k9 i10 t11 =>
      (some ((), (k9, ()))))
     N k2 (0 : Int))

noncomputable def T_laws_heldSeqReadS_lp0 {R : Type} (N : Nat) (a3 : List (Int × Int × Int × Int × Int)) (K0 : Option R) (K1 : Int → Int → Bool → Option R) : Nat → Int → Int → Option R
  | 0, _, _ => none
  | n + 1, k4, i5 =>
    (bif decide (i5 < (ilen a3)) then
    (bif inb i5 (List.length a3) then
      (bif (List.getD a3 (Int.toNat i5) ((0 : Int), ((0 : Int), ((0 : Int), ((0 : Int), (0 : Int)))))).1 != k4 then
        K0
        else
        (bif inb i5 (List.length a3) then
          (bif (List.getD a3 (Int.toNat i5) ((0 : Int), ((0 : Int), ((0 : Int), ((0 : Int), (0 : Int)))))).2.1 != (iadd .i64 k4 (1 : Int)) then
            K0
            else
            (bif inb i5 (List.length a3) then
              (bif (List.getD a3 (Int.toNat i5) ((0 : Int), ((0 : Int), ((0 : Int), ((0 : Int), (0 : Int)))))).2.2.1 != (iadd .i64 (iadd .i64 k4 (1 : Int)) (1 : Int)) then
                K0
                else
                (bif inb i5 (List.length a3) then
                  (bif (List.getD a3 (Int.toNat i5) ((0 : Int), ((0 : Int), ((0 : Int), ((0 : Int), (0 : Int)))))).2.2.2.1 != (iadd .i64 (iadd .i64 (iadd .i64 k4 (1 : Int)) (1 : Int)) (1 : Int)) then
                    K0
                    else
                    (bif inb i5 (List.length a3) then
                      (bif (List.getD a3 (Int.toNat i5) ((0 : Int), ((0 : Int), ((0 : Int), ((0 : Int), (0 : Int)))))).2.2.2.2 != (iadd .i64 (iadd .i64 (iadd .i64 (iadd .i64 k4 (1 : Int)) (1 : Int)) (1 : Int)) (1 : Int)) then
                        K0
                        else
                        (T_laws_heldSeqReadS_lp0 N a3 K0 K1 n (iadd .i64 (iadd .i64 (iadd .i64 (iadd .i64 (iadd .i64 k4 (1 : Int)) (1 : Int)) (1 : Int)) (1 : Int)) (1 : Int)) (iadd .i64 i5 (1 : Int)))) else none)) else none)) else none)) else none)) else none)
    else
    (K1 k4 i5 (decide (i5 < (ilen a3)))))

noncomputable def T_laws_heldSeqReadS (N : Nat) (a1 : List (Int × Int × Int × Int × Int)) (k2 : Int) : Option (Unit × (Int × Unit)) :=
    (T_laws_heldSeqReadS_lp0 N a1
    (some ((), ((-1 : Int), ())))
    (fun k9 i10 t11 =>
      (some ((), (k9, ()))))
     N k2 (0 : Int))

noncomputable def T_laws_heldSeqWorld (N : Nat) (a1 : Int × (Int × Int × Int) × Int × Int × List (Int × Int × (Int × Int × Int) × Int) × List (Int × Int × Int × Int × Int)) (k2 : Int) : Option (Unit × (Int × Unit)) :=
    ((T_laws_heldSeqReaderS N a1.2.2.2.2.1 k2).bind fun o3 =>
    (bif decide (o3.2.1 < (0 : Int)) then
      (some ((), ((-1 : Int), ())))
      else
      ((T_laws_heldSeqReadS N a1.2.2.2.2.2 o3.2.1).bind fun o4 =>
        (bif decide (o4.2.1 < (0 : Int)) then
          (some ((), ((-1 : Int), ())))
          else
          (some ((), (o4.2.1, ())))))))

noncomputable def T_laws_FnExactSeqPlay (N : Nat) (aStart1 : Int × Int × Int) (aL2 : List (Int × Int × Int)) (aActs3 : List Int) : Option (Unit × (Bool × Unit)) :=
    (bif decide ((ilen aActs3) > (1048576 : Int)) then
    (some ((), (true, ())))
    else
    ((T_laws_szTripleS N aL2 (1048576 : Int)).bind fun o4 =>
      (bif decide (o4.2.1 < (0 : Int)) then
        (some ((), (true, ())))
        else
        ((T_laws_toTriple N aStart1).bind fun o5 =>
          ((T_laws_toTripleS N aL2).bind fun o6 =>
            ((T_laws_toIntS N aActs3).bind fun o7 =>
              ((T_spec_SeqPlay N o5.2.1 o6.2.1 o7.2.1).bind fun o8 =>
                ((T_laws_toTripleS N aL2).bind fun o9 =>
                  ((T_laws_toIntS N aActs3).bind fun o10 =>
                    ((T_laws_toTriple N aStart1).bind fun o11 =>
                      ((T_impl_SeqPlay N o11.2.1 o9.2.1 o10.2.1).bind fun o12 =>
                        ((T_laws_eqSeqWorld N o12.2.1 o8.2.1).bind fun o13 =>
                          (bif !o13.2.1 then
                            (some ((), (false, ())))
                            else
                            ((T_laws_toTripleS N aL2).bind fun o14 =>
                              ((T_laws_eqTripleS N o9.2.1 o14.2.1).bind fun o15 =>
                                (bif !o15.2.1 then
                                  (some ((), (false, ())))
                                  else
                                  ((T_laws_toIntS N aActs3).bind fun o16 =>
                                    ((T_laws_eqIntS N o10.2.1 o16.2.1).bind fun o17 =>
                                      (bif !o17.2.1 then
                                        (some ((), (false, ())))
                                        else
                                        ((T_laws_markTripleS N o9.2.1 (1 : Int)).bind fun o18 =>
                                          ((T_laws_markIntS N o10.2.1 o18.2.1).bind fun o19 =>
                                            (bif decide (o19.2.1 < (0 : Int)) then
                                              (some ((), (false, ())))
                                              else
                                              ((T_laws_eqSeqWorld N o12.2.1 o8.2.1).bind fun o20 =>
                                                (bif !o20.2.1 then
                                                  (some ((), (false, ())))
                                                  else
                                                  ((T_laws_markSeqWorld N o12.2.1 (1 : Int)).bind fun o21 =>
                                                    ((T_laws_heldSeqWorld N (o12.2.1.1, (o12.2.1.2.1, (o12.2.1.2.2.1, (o12.2.1.2.2.2.1, o21.1.1.2.2.2.2)))) (1 : Int)).bind fun o22 =>
                                                      (bif decide (o22.2.1 < (0 : Int)) then
                                                        (some ((), (false, ())))
                                                        else
                                                        (bif o22.2.1 != o21.2.1 then
                                                          (some ((), (false, ())))
                                                          else
                                                          ((T_laws_toTriple N aStart1).bind fun o23 =>
                                                            ((T_laws_toTripleS N aL2).bind fun o24 =>
                                                              ((T_laws_toIntS N aActs3).bind fun o25 =>
                                                                ((T_impl_SeqPlay N o23.2.1 o24.2.1 o25.2.1).bind fun o26 =>
                                                                  ((T_laws_eqSeqWorld N o26.2.1 o8.2.1).bind fun o27 =>
                                                                    (bif !o27.2.1 then
                                                                      (some ((), (false, ())))
                                                                      else
                                                                      ((T_laws_heldSeqWorld N (o12.2.1.1, (o12.2.1.2.1, (o12.2.1.2.2.1, (o12.2.1.2.2.2.1, o21.1.1.2.2.2.2)))) (1 : Int)).bind fun o28 =>
                                                                        (bif decide (o28.2.1 < (0 : Int)) then
                                                                          (some ((), (false, ())))
                                                                          else
                                                                          (bif o28.2.1 != o21.2.1 then
                                                                            (some ((), (false, ())))
                                                                            else
                                                                            (some ((), (true, ()))))))))))))))))))))))))))))))))))))))))

noncomputable def T_laws_szSeqReaderS (N : Nat) (a1 : List (Int × Int × (Int × Int × Int) × Int)) (left2 : Int) : Option (Unit × (Int × Unit)) :=
    (bif decide ((isub .i64 left2 (ilen a1)) < (0 : Int)) then
    (some ((), ((-1 : Int), ())))
    else
    (some ((), (isub .i64 left2 (ilen a1), ()))))

noncomputable def T_laws_szSeqReadS (N : Nat) (a1 : List (Int × Int × Int × Int × Int)) (left2 : Int) : Option (Unit × (Int × Unit)) :=
    (bif decide ((isub .i64 left2 (ilen a1)) < (0 : Int)) then
    (some ((), ((-1 : Int), ())))
    else
    (some ((), (isub .i64 left2 (ilen a1), ()))))

noncomputable def T_laws_szSeqWorld (N : Nat) (a1 : Int × (Int × Int × Int) × Int × Int × List (Int × Int × (Int × Int × Int) × Int) × List (Int × Int × Int × Int × Int)) (left2 : Int) : Option (Unit × (Int × Unit)) :=
    ((T_laws_szSeqReaderS N a1.2.2.2.2.1 left2).bind fun o3 =>
    (bif decide (o3.2.1 < (0 : Int)) then
      (some ((), ((-1 : Int), ())))
      else
      ((T_laws_szSeqReadS N a1.2.2.2.2.2 o3.2.1).bind fun o4 =>
        (bif decide (o4.2.1 < (0 : Int)) then
          (some ((), ((-1 : Int), ())))
          else
          (some ((), (o4.2.1, ())))))))

noncomputable def T_laws_toSeqReader (N : Nat) (a1 : Int × Int × (Int × Int × Int) × Int) : Option (Unit × ((Int × Int × (Int × Int × Int) × Int) × Unit)) :=
    ((T_laws_toTriple N a1.2.2.1).bind fun o2 =>
    (some ((), ((a1.1, (a1.2.1, (o2.2.1, a1.2.2.2))), ()))))

noncomputable def T_laws_toSeqReaderS_lp0 {R : Type} (N : Nat) (a2 : List (Int × Int × (Int × Int × Int) × Int)) (K0 : Int → Bool → (List (Int × Int × (Int × Int × Int) × Int)) → Option R) : Nat → Int → (List (Int × Int × (Int × Int × Int) × Int)) → Option R
  | 0, _, _ => none
  | n + 1, i3, l4 =>
    (bif decide (i3 < (ilen a2)) then
    (bif inb i3 (List.length a2) then
      ((T_laws_toSeqReader N (List.getD a2 (Int.toNat i3) ((0 : Int), ((0 : Int), (((0 : Int), ((0 : Int), (0 : Int))), (0 : Int)))))).bind fun o9 =>
        (bif inb i3 (List.length l4) then
          (T_laws_toSeqReaderS_lp0 N a2 K0 n (iadd .i64 i3 (1 : Int)) (List.set l4 (Int.toNat i3) o9.2.1)) else none)) else none)
    else
    (K0 i3 (decide (i3 < (ilen a2))) l4))

noncomputable def T_laws_toSeqReaderS (N : Nat) (a1 : List (Int × Int × (Int × Int × Int) × Int)) : Option (Unit × ((List (Int × Int × (Int × Int × Int) × Int)) × Unit)) :=
    (bif ((decide ((0 : Int) ≤ (ilen a1))) && (decide ((ilen a1) ≤ (ilen a1)))) && (room (Int.toNat (ilen a1))) then
    (T_laws_toSeqReaderS_lp0 N a1
      (fun i10 t11 l12 =>
        (some ((), (l12, ()))))
       N (0 : Int) (List.replicate (Int.toNat (ilen a1)) ((0 : Int), ((0 : Int), (((0 : Int), ((0 : Int), (0 : Int))), (0 : Int)))))) else none)

noncomputable def T_laws_toSeqRead (N : Nat) (a1 : Int × Int × Int × Int × Int) : Option (Unit × ((Int × Int × Int × Int × Int) × Unit)) :=
    ((T_laws_toTriple N a1.2.2).bind fun o2 =>
    (some ((), ((a1.1, (a1.2.1, o2.2.1)), ()))))

noncomputable def T_laws_toSeqReadS_lp0 {R : Type} (N : Nat) (a2 : List (Int × Int × Int × Int × Int)) (K0 : Int → Bool → (List (Int × Int × Int × Int × Int)) → Option R) : Nat → Int → (List (Int × Int × Int × Int × Int)) → Option R
  | 0, _, _ => none
  | n + 1, i3, l4 =>
    (bif decide (i3 < (ilen a2)) then
    (bif inb i3 (List.length a2) then
      ((T_laws_toSeqRead N (List.getD a2 (Int.toNat i3) ((0 : Int), ((0 : Int), ((0 : Int), ((0 : Int), (0 : Int))))))).bind fun o9 =>
        (bif inb i3 (List.length l4) then
          (T_laws_toSeqReadS_lp0 N a2 K0 n (iadd .i64 i3 (1 : Int)) (List.set l4 (Int.toNat i3) o9.2.1)) else none)) else none)
    else
    (K0 i3 (decide (i3 < (ilen a2))) l4))

noncomputable def T_laws_toSeqReadS (N : Nat) (a1 : List (Int × Int × Int × Int × Int)) : Option (Unit × ((List (Int × Int × Int × Int × Int)) × Unit)) :=
    (bif ((decide ((0 : Int) ≤ (ilen a1))) && (decide ((ilen a1) ≤ (ilen a1)))) && (room (Int.toNat (ilen a1))) then
    (T_laws_toSeqReadS_lp0 N a1
      (fun i10 t11 l12 =>
        (some ((), (l12, ()))))
       N (0 : Int) (List.replicate (Int.toNat (ilen a1)) ((0 : Int), ((0 : Int), ((0 : Int), ((0 : Int), (0 : Int))))))) else none)

noncomputable def T_laws_toSeqWorld (N : Nat) (a1 : Int × (Int × Int × Int) × Int × Int × List (Int × Int × (Int × Int × Int) × Int) × List (Int × Int × Int × Int × Int)) : Option (Unit × ((Int × (Int × Int × Int) × Int × Int × List (Int × Int × (Int × Int × Int) × Int) × List (Int × Int × Int × Int × Int)) × Unit)) :=
    ((T_laws_toTriple N a1.2.1).bind fun o2 =>
    ((T_laws_toSeqReaderS N a1.2.2.2.2.1).bind fun o3 =>
      ((T_laws_toSeqReadS N a1.2.2.2.2.2).bind fun o4 =>
        (some ((), ((a1.1, (o2.2.1, (a1.2.2.1, (a1.2.2.2.1, (o3.2.1, o4.2.1))))), ()))))))

noncomputable def T_spec_SeqValue (N : Nat) (start1 : Int × Int × Int) (l2 : List (Int × Int × Int)) (seq3 : Int) : Option (Unit × ((Int × Int × Int) × (Bool × Unit))) :=
    ((T_spec_l25Ok N start1).bind fun o4 =>
    (bif !o4.2.1 then
      (some ((), (((0 : Int), ((0 : Int), (0 : Int))), (false, ()))))
      else
      ((T_spec_TriplesOk N l2).bind fun o5 =>
        (bif !o5.2.1 then
          (some ((), (((0 : Int), ((0 : Int), (0 : Int))), (false, ()))))
          else
          ((T_spec_l1In N seq3 (0 : Int) (imul .i64 (2 : Int) (ilen l2))).bind fun o6 =>
            (bif !o6.2.1 then
              (some ((), (((0 : Int), ((0 : Int), (0 : Int))), (false, ()))))
              else
              (bif inz (2 : Int) then
                (bif (irem seq3 (2 : Int)) == (1 : Int) then
                  (some ((), (((0 : Int), ((0 : Int), (0 : Int))), (false, ()))))
                  else
                  (bif seq3 == (0 : Int) then
                    (some ((), (start1, (true, ()))))
                    else
                    (bif inz (2 : Int) then
                      (bif inb (isub .i64 (iquo .i64 seq3 (2 : Int)) (1 : Int)) (List.length l2) then
                        (some ((), (List.getD l2 (Int.toNat (isub .i64 (iquo .i64 seq3 (2 : Int)) (1 : Int))) ((0 : Int), ((0 : Int), (0 : Int))), (true, ())))) else none) else none))) else none)))))))

noncomputable def T_spec_SeqTrue_lp1 {R : Type} (N : Nat) (l9 : List (Int × Int × Int)) (i10 : Int) (b12 : Int × Int × Int) (b13 : Int × (Int × Int × Int) × Int × Int × List (Int × Int × (Int × Int × Int) × Int) × List (Int × Int × Int × Int × Int)) (K0 : Option R) (K1 : Int → Bool → Option R) : Nat → Int → Option R
  | 0, _ => none
  | n + 1, k11 =>
    (bif decide (k11 < i10) then
    (bif inb k11 (List.length b13.2.2.2.2.2) then
      (bif inb i10 (List.length b13.2.2.2.2.2) then
        (bif decide ((List.getD b13.2.2.2.2.2 (Int.toNat k11) ((0 : Int), ((0 : Int), ((0 : Int), ((0 : Int), (0 : Int)))))).2.1 > (List.getD b13.2.2.2.2.2 (Int.toNat i10) ((0 : Int), ((0 : Int), ((0 : Int), ((0 : Int), (0 : Int)))))).2.1) then
          K0
          else
          (T_spec_SeqTrue_lp1 N l9 i10 b12 b13 K0 K1 n (iadd .i64 k11 (1 : Int)))) else none) else none)
    else
    (K1 k11 (decide (k11 < i10))))

noncomputable def T_spec_SeqTrue_lp0 {R : Type} (N : Nat) (l4 : List (Int × Int × Int)) (b6 : Int × Int × Int) (b7 : Int × (Int × Int × Int) × Int × Int × List (Int × Int × (Int × Int × Int) × Int) × List (Int × Int × Int × Int × Int)) (K0 : Option R) (K1 : Int → Bool → Option R) : Nat → Int → Option R
  | 0, _ => none
  | n + 1, i5 =>
    (bif decide (i5 < (ilen b7.2.2.2.2.2)) then
    (both
      (bif inb i5 (List.length b7.2.2.2.2.2) then
        ((T_spec_SeqValue N b6 l4 (List.getD b7.2.2.2.2.2 (Int.toNat i5) ((0 : Int), ((0 : Int), ((0 : Int), ((0 : Int), (0 : Int)))))).2.1).bind fun o23 =>
          (bif !o23.2.2.1 then
            K0
            else
            (bif inb i5 (List.length b7.2.2.2.2.2) then
              (bif !((ieq o23.2.1.1 (List.getD b7.2.2.2.2.2 (Int.toNat i5) ((0 : Int), ((0 : Int), ((0 : Int), ((0 : Int), (0 : Int)))))).2.2.1) && ((ieq o23.2.1.2.1 (List.getD b7.2.2.2.2.2 (Int.toNat i5) ((0 : Int), ((0 : Int), ((0 : Int), ((0 : Int), (0 : Int)))))).2.2.2.1) && ((ieq o23.2.1.2.2 (List.getD b7.2.2.2.2.2 (Int.toNat i5) ((0 : Int), ((0 : Int), ((0 : Int), ((0 : Int), (0 : Int)))))).2.2.2.2) && true))) then
                K0
                else
                (T_spec_SeqTrue_lp1 N l4 i5 b6 b7
                  K0
                  (fun k24 t25 =>
                    (T_spec_SeqTrue_lp0 N l4 b6 b7 K0 K1 n (iadd .i64 i5 (1 : Int))))
                   N (0 : Int))) else none))) else none)
      (bif inb i5 (List.length b7.2.2.2.2.2) then
        ((T_spec_SeqValue N b6 l4 (List.getD b7.2.2.2.2.2 (Int.toNat i5) ((0 : Int), ((0 : Int), ((0 : Int), ((0 : Int), (0 : Int)))))).2.1).bind fun o26 =>
          (bif !o26.2.2.1 then
            K0
            else
            (bif inb i5 (List.length b7.2.2.2.2.2) then
              (bif !((ieq o26.2.1.1 (List.getD b7.2.2.2.2.2 (Int.toNat i5) ((0 : Int), ((0 : Int), ((0 : Int), ((0 : Int), (0 : Int)))))).2.2.1) && ((ieq o26.2.1.2.1 (List.getD b7.2.2.2.2.2 (Int.toNat i5) ((0 : Int), ((0 : Int), ((0 : Int), ((0 : Int), (0 : Int)))))).2.2.2.1) && ((ieq o26.2.1.2.2 (List.getD b7.2.2.2.2.2 (Int.toNat i5) ((0 : Int), ((0 : Int), ((0 : Int), ((0 : Int), (0 : Int)))))).2.2.2.2) && true))) then
                K0
                else
                (T_spec_SeqTrue_lp1 N l4 i5 b6 b7
                  K0
                  (fun k27 t28 =>
                    (T_spec_SeqTrue_lp0 N l4 b6 b7 K0 K1 n (iadd .i64 i5 (1 : Int))))
                   N (0 : Int))) else none))) else none))
    else
    (K1 i5 (decide (i5 < (ilen b7.2.2.2.2.2)))))

noncomputable def T_spec_SeqTrue (N : Nat) (start1 : Int × Int × Int) (l2 : List (Int × Int × Int)) (w3 : Int × (Int × Int × Int) × Int × Int × List (Int × Int × (Int × Int × Int) × Int) × List (Int × Int × Int × Int × Int)) : Option (Unit × (Bool × Unit)) :=
    (T_spec_SeqTrue_lp0 N l2 start1 w3
    (some ((), (false, ())))
    (fun i29 t30 =>
      (some ((), (true, ()))))
     N (0 : Int))

noncomputable def T_impl_SeqValue (N : Nat) (start1 : Int × Int × Int) (l2 : List (Int × Int × Int)) (seq3 : Int) : Option (Unit × ((Int × Int × Int) × (Bool × Unit))) :=
    ((T_impl_isTriple N start1).bind fun o4 =>
    (bif !o4.2.1 then
      (some ((), (((0 : Int), ((0 : Int), (0 : Int))), (false, ()))))
      else
      ((T_impl_TriplesOk N l2).bind fun o5 =>
        (bif !o5.2.1 then
          (some ((), (((0 : Int), ((0 : Int), (0 : Int))), (false, ()))))
          else
          ((T_impl_within N seq3 (0 : Int) (imul .i64 (2 : Int) (ilen l2))).bind fun o6 =>
            (bif !o6.2.1 then
              (some ((), (((0 : Int), ((0 : Int), (0 : Int))), (false, ()))))
              else
              (bif inz (2 : Int) then
                (bif (irem seq3 (2 : Int)) == (1 : Int) then
                  (some ((), (((0 : Int), ((0 : Int), (0 : Int))), (false, ()))))
                  else
                  (bif seq3 == (0 : Int) then
                    (some ((), (start1, (true, ()))))
                    else
                    (bif inz (2 : Int) then
                      (bif inb (isub .i64 (iquo .i64 seq3 (2 : Int)) (1 : Int)) (List.length l2) then
                        (some ((), (List.getD l2 (Int.toNat (isub .i64 (iquo .i64 seq3 (2 : Int)) (1 : Int))) ((0 : Int), ((0 : Int), (0 : Int))), (true, ())))) else none) else none))) else none)))))))

noncomputable def T_impl_SeqTrue_lp0 {R : Type} (N : Nat) (l4 : List (Int × Int × Int)) (t5 : List (Int × Int × Int × Int × Int)) (b8 : Int × Int × Int) (b9 : Int × (Int × Int × Int) × Int × Int × List (Int × Int × (Int × Int × Int) × Int) × List (Int × Int × Int × Int × Int)) (K0 : Option R) (K1 : Int → Bool → Option R) : Nat → Int → Option R
  | 0, _ => none
  | n + 1, t7 =>
    (bif decide (t7 < (ilen b9.2.2.2.2.2)) then
    (bif inb t7 (List.length t5) then
      ((T_impl_SeqValue N b8 l4 (List.getD t5 (Int.toNat t7) ((0 : Int), ((0 : Int), ((0 : Int), ((0 : Int), (0 : Int)))))).2.1).bind fun o14 =>
        (bif !o14.2.2.1 then
          K0
          else
          (bif !((ieq o14.2.1.1 (List.getD t5 (Int.toNat t7) ((0 : Int), ((0 : Int), ((0 : Int), ((0 : Int), (0 : Int)))))).2.2.1) && ((ieq o14.2.1.2.1 (List.getD t5 (Int.toNat t7) ((0 : Int), ((0 : Int), ((0 : Int), ((0 : Int), (0 : Int)))))).2.2.2.1) && ((ieq o14.2.1.2.2 (List.getD t5 (Int.toNat t7) ((0 : Int), ((0 : Int), ((0 : Int), ((0 : Int), (0 : Int)))))).2.2.2.2) && true))) then
            K0
            else
            (bif decide (t7 > (0 : Int)) then
              (bif inb (isub .i64 t7 (1 : Int)) (List.length b9.2.2.2.2.2) then
                (bif decide ((List.getD t5 (Int.toNat t7) ((0 : Int), ((0 : Int), ((0 : Int), ((0 : Int), (0 : Int)))))).2.1 < (List.getD b9.2.2.2.2.2 (Int.toNat (isub .i64 t7 (1 : Int))) ((0 : Int), ((0 : Int), ((0 : Int), ((0 : Int), (0 : Int)))))).2.1) then
                  K0
                  else
                  (T_impl_SeqTrue_lp0 N l4 t5 b8 b9 K0 K1 n (iadd .i64 t7 (1 : Int)))) else none)
              else
              (T_impl_SeqTrue_lp0 N l4 t5 b8 b9 K0 K1 n (iadd .i64 t7 (1 : Int))))))) else none)
    else
    (K1 t7 (decide (t7 < (ilen b9.2.2.2.2.2)))))

noncomputable def T_impl_SeqTrue (N : Nat) (start1 : Int × Int × Int) (l2 : List (Int × Int × Int)) (w3 : Int × (Int × Int × Int) × Int × Int × List (Int × Int × (Int × Int × Int) × Int) × List (Int × Int × Int × Int × Int)) : Option (Unit × (Bool × Unit)) :=
    (T_impl_SeqTrue_lp0 N l2 w3.2.2.2.2.2 start1 w3
    (some ((), (false, ())))
    (fun t15 t16 =>
      (some ((), (true, ()))))
     N (0 : Int))

noncomputable def T_laws_FnExactSeqTrue (N : Nat) (aStart1 : Int × Int × Int) (aL2 : List (Int × Int × Int)) (aW3 : Int × (Int × Int × Int) × Int × Int × List (Int × Int × (Int × Int × Int) × Int) × List (Int × Int × Int × Int × Int)) : Option (Unit × (Bool × Unit)) :=
    ((T_laws_szTripleS N aL2 (1048576 : Int)).bind fun o4 =>
    (bif decide (o4.2.1 < (0 : Int)) then
      (some ((), (true, ())))
      else
      ((T_laws_szSeqWorld N aW3 o4.2.1).bind fun o5 =>
        (bif decide (o5.2.1 < (0 : Int)) then
          (some ((), (true, ())))
          else
          ((T_laws_toTriple N aStart1).bind fun o6 =>
            ((T_laws_toTripleS N aL2).bind fun o7 =>
              ((T_laws_toSeqWorld N aW3).bind fun o8 =>
                ((T_spec_SeqTrue N o6.2.1 o7.2.1 o8.2.1).bind fun o9 =>
                  ((T_laws_toTripleS N aL2).bind fun o10 =>
                    ((T_laws_toSeqWorld N aW3).bind fun o11 =>
                      ((T_laws_toTriple N aStart1).bind fun o12 =>
                        ((T_impl_SeqTrue N o12.2.1 o10.2.1 o11.2.1).bind fun o13 =>
                          (bif !(beq o13.2.1 o9.2.1) then
                            (some ((), (false, ())))
                            else
                            ((T_laws_toTripleS N aL2).bind fun o14 =>
                              ((T_laws_eqTripleS N o10.2.1 o14.2.1).bind fun o15 =>
                                (bif !o15.2.1 then
                                  (some ((), (false, ())))
                                  else
                                  ((T_laws_toSeqWorld N aW3).bind fun o16 =>
                                    ((T_laws_eqSeqWorld N o11.2.1 o16.2.1).bind fun o17 =>
                                      (bif !o17.2.1 then
                                        (some ((), (false, ())))
                                        else
                                        (some ((), (true, ()))))))))))))))))))))))

noncomputable def T_laws_FnExactSeqValue (N : Nat) (aStart1 : Int × Int × Int) (aL2 : List (Int × Int × Int)) (aSeq3 : Int) : Option (Unit × (Bool × Unit)) :=
    ((T_laws_szTripleS N aL2 (1048576 : Int)).bind fun o4 =>
    (bif decide (o4.2.1 < (0 : Int)) then
      (some ((), (true, ())))
      else
      ((T_laws_toTriple N aStart1).bind fun o5 =>
        ((T_laws_toTripleS N aL2).bind fun o6 =>
          ((T_spec_SeqValue N o5.2.1 o6.2.1 aSeq3).bind fun o7 =>
            ((T_laws_toTripleS N aL2).bind fun o8 =>
              ((T_laws_toTriple N aStart1).bind fun o9 =>
                ((T_impl_SeqValue N o9.2.1 o8.2.1 aSeq3).bind fun o10 =>
                  ((T_laws_eqTriple N o10.2.1 o7.2.1).bind fun o11 =>
                    (bif !o11.2.1 then
                      (some ((), (false, ())))
                      else
                      (bif !(beq o10.2.2.1 o7.2.2.1) then
                        (some ((), (false, ())))
                        else
                        ((T_laws_toTripleS N aL2).bind fun o12 =>
                          ((T_laws_eqTripleS N o8.2.1 o12.2.1).bind fun o13 =>
                            (bif !o13.2.1 then
                              (some ((), (false, ())))
                              else
                              (some ((), (true, ())))))))))))))))))

noncomputable def T_laws_FnExactTriplesOk (N : Nat) (aL1 : List (Int × Int × Int)) : Option (Unit × (Bool × Unit)) :=
    ((T_laws_szTripleS N aL1 (1048576 : Int)).bind fun o2 =>
    (bif decide (o2.2.1 < (0 : Int)) then
      (some ((), (true, ())))
      else
      ((T_laws_toTripleS N aL1).bind fun o3 =>
        ((T_spec_TriplesOk N o3.2.1).bind fun o4 =>
          ((T_laws_toTripleS N aL1).bind fun o5 =>
            ((T_impl_TriplesOk N o5.2.1).bind fun o6 =>
              (bif !(beq o6.2.1 o4.2.1) then
                (some ((), (false, ())))
                else
                ((T_laws_toTripleS N aL1).bind fun o7 =>
                  ((T_laws_eqTripleS N o5.2.1 o7.2.1).bind fun o8 =>
                    (bif !o8.2.1 then
                      (some ((), (false, ())))
                      else
                      (some ((), (true, ())))))))))))))

end Go.Sx
