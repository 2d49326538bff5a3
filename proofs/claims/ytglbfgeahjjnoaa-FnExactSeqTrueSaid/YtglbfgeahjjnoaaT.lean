/- What each Go function computes, as a Lean function. -/
import Derived.Test.YtglbfgeahjjnoaaM3
namespace Go.Sx
set_option linter.unusedVariables false

noncomputable def T_laws_szTripleS (N : Nat) (a1 : List (Int × Int × Int)) (left2 : Int) : Option (Unit × (Int × Unit)) :=
    (bif decide ((isub .i64 left2 (ilen a1)) < (0 : Int)) then
    (some ((), ((-1 : Int), ())))
    else
    (some ((), (isub .i64 left2 (ilen a1), ()))))

noncomputable def T_laws_szSeqReaderS (N : Nat) (a1 : List (Int × Int × (Int × Int × Int) × Int)) (left2 : Int) : Option (Unit × (Int × Unit)) :=
    (bif decide ((isub .i64 left2 (ilen a1)) < (0 : Int)) then
    (some ((), ((-1 : Int), ())))
    else
    (some ((), (isub .i64 left2 (ilen a1), ()))))

noncomputable def T_laws_szSeqReadS (N : Nat) (a1 : List (Int × Int × Int × Int × Int)) (left2 : Int) : Option (Unit × (Int × Unit)) :=
    (bif decide ((isub .i64 left2 (ilen a1)) < (0 : Int)) then
    (some ((), ((-1 : Int), ())))
    else
    (some ((), (isub .i64 left2 (ilen a1), ()))))

noncomputable def T_laws_szSeqWorld (N : Nat) (a1 : Int × (Int × Int × Int) × Int × Int × List (Int × Int × (Int × Int × Int) × Int) × List (Int × Int × Int × Int × Int)) (left2 : Int) : Option (Unit × (Int × Unit)) :=
    ((T_laws_szSeqReaderS N a1.2.2.2.2.1 left2).bind fun o3 =>
    (bif decide (o3.2.1 < (0 : Int)) then
      (some ((), ((-1 : Int), ())))
      else
      ((T_laws_szSeqReadS N a1.2.2.2.2.2 o3.2.1).bind fun o4 =>
        (bif decide (o4.2.1 < (0 : Int)) then
          (some ((), ((-1 : Int), ())))
          else
          (some ((), (o4.2.1, ())))))))

noncomputable def T_laws_toTriple (N : Nat) (a1 : Int × Int × Int) : Option (Unit × ((Int × Int × Int) × Unit)) :=
    (some ((), (a1, ())))

noncomputable def T_laws_toTripleS_lp0 {R : Type} (N : Nat) (a2 : List (Int × Int × Int)) (K0 : Int → Bool → (List (Int × Int × Int)) → Option R) : Nat → Int → (List (Int × Int × Int)) → Option R
  | 0, _, _ => none
  | n + 1, i3, l4 =>
    (bif decide (i3 < (ilen a2)) then
    (bif inb i3 (List.length a2) then
      ((T_laws_toTriple N (List.getD a2 (Int.toNat i3) ((0 : Int), ((0 : Int), (0 : Int))))).bind fun o9 =>
        (bif inb i3 (List.length l4) then
          (T_laws_toTripleS_lp0 N a2 K0 n (iadd .i64 i3 (1 : Int)) (List.set l4 (Int.toNat i3) o9.2.1)) else none)) else none)
    else
    (K0 i3 (decide (i3 < (ilen a2))) l4))

noncomputable def T_laws_toTripleS (N : Nat) (a1 : List (Int × Int × Int)) : Option (Unit × ((List (Int × Int × Int)) × Unit)) :=
    (bif ((decide ((0 : Int) ≤ (ilen a1))) && (decide ((ilen a1) ≤ (ilen a1)))) && (room (Int.toNat (ilen a1))) then
    (T_laws_toTripleS_lp0 N a1
      (fun i10 t11 l12 =>
        (some ((), (l12, ()))))
       N (0 : Int) (List.replicate (Int.toNat (ilen a1)) ((0 : Int), ((0 : Int), (0 : Int))))) else none)

noncomputable def T_laws_toSeqReader (N : Nat) (a1 : Int × Int × (Int × Int × Int) × Int) : Option (Unit × ((Int × Int × (Int × Int × Int) × Int) × Unit)) :=
    ((T_laws_toTriple N a1.2.2.1).bind fun o2 =>
    (some ((), ((a1.1, (a1.2.1, (o2.2.1, a1.2.2.2))), ()))))

noncomputable def T_laws_toSeqReaderS_lp0 {R : Type} (N : Nat) (a2 : List (Int × Int × (Int × Int × Int) × Int)) (K0 : Int → Bool → (List (Int × Int × (Int × Int × Int) × Int)) → Option R) : Nat → Int → (List (Int × Int × (Int × Int × Int) × Int)) → Option R
  | 0, _, _ => none
  | n + 1, i3, l4 =>
    (bif decide (i3 < (ilen a2)) then
    (bif inb i3 (List.length a2) then
      ((T_laws_toSeqReader N (List.getD a2 (Int.toNat i3) ((0 : Int), ((0 : Int), (((0 : Int), ((0 : Int), (0 : Int))), (0 : Int)))))).bind fun o9 =>
        (bif inb i3 (List.length l4) then
          (T_laws_toSeqReaderS_lp0 N a2 K0 n (iadd .i64 i3 (1 : Int)) (List.set l4 (Int.toNat i3) o9.2.1)) else none)) else none)
    else
    (K0 i3 (decide (i3 < (ilen a2))) l4))

noncomputable def T_laws_toSeqReaderS (N : Nat) (a1 : List (Int × Int × (Int × Int × Int) × Int)) : Option (Unit × ((List (Int × Int × (Int × Int × Int) × Int)) × Unit)) :=
    (bif ((decide ((0 : Int) ≤ (ilen a1))) && (decide ((ilen a1) ≤ (ilen a1)))) && (room (Int.toNat (ilen a1))) then
    (T_laws_toSeqReaderS_lp0 N a1
      (fun i10 t11 l12 =>
        (some ((), (l12, ()))))
       N (0 : Int) (List.replicate (Int.toNat (ilen a1)) ((0 : Int), ((0 : Int), (((0 : Int), ((0 : Int), (0 : Int))), (0 : Int)))))) else none)

noncomputable def T_laws_toSeqRead (N : Nat) (a1 : Int × Int × Int × Int × Int) : Option (Unit × ((Int × Int × Int × Int × Int) × Unit)) :=
    ((T_laws_toTriple N a1.2.2).bind fun o2 =>
    (some ((), ((a1.1, (a1.2.1, o2.2.1)), ()))))

noncomputable def T_laws_toSeqReadS_lp0 {R : Type} (N : Nat) (a2 : List (Int × Int × Int × Int × Int)) (K0 : Int → Bool → (List (Int × Int × Int × Int × Int)) → Option R) : Nat → Int → (List (Int × Int × Int × Int × Int)) → Option R
  | 0, _, _ => none
  | n + 1, i3, l4 =>
    (bif decide (i3 < (ilen a2)) then
    (bif inb i3 (List.length a2) then
      ((T_laws_toSeqRead N (List.getD a2 (Int.toNat i3) ((0 : Int), ((0 : Int), ((0 : Int), ((0 : Int), (0 : Int))))))).bind fun o9 =>
        (bif inb i3 (List.length l4) then
          (T_laws_toSeqReadS_lp0 N a2 K0 n (iadd .i64 i3 (1 : Int)) (List.set l4 (Int.toNat i3) o9.2.1)) else none)) else none)
    else
    (K0 i3 (decide (i3 < (ilen a2))) l4))

noncomputable def T_laws_toSeqReadS (N : Nat) (a1 : List (Int × Int × Int × Int × Int)) : Option (Unit × ((List (Int × Int × Int × Int × Int)) × Unit)) :=
    (bif ((decide ((0 : Int) ≤ (ilen a1))) && (decide ((ilen a1) ≤ (ilen a1)))) && (room (Int.toNat (ilen a1))) then
    (T_laws_toSeqReadS_lp0 N a1
      (fun i10 t11 l12 =>
        (some ((), (l12, ()))))
       N (0 : Int) (List.replicate (Int.toNat (ilen a1)) ((0 : Int), ((0 : Int), ((0 : Int), ((0 : Int), (0 : Int))))))) else none)

noncomputable def T_laws_toSeqWorld (N : Nat) (a1 : Int × (Int × Int × Int) × Int × Int × List (Int × Int × (Int × Int × Int) × Int) × List (Int × Int × Int × Int × Int)) : Option (Unit × ((Int × (Int × Int × Int) × Int × Int × List (Int × Int × (Int × Int × Int) × Int) × List (Int × Int × Int × Int × Int)) × Unit)) :=
    ((T_laws_toTriple N a1.2.1).bind fun o2 =>
    ((T_laws_toSeqReaderS N a1.2.2.2.2.1).bind fun o3 =>
      ((T_laws_toSeqReadS N a1.2.2.2.2.2).bind fun o4 =>
        (some ((), ((a1.1, (o2.2.1, (a1.2.2.1, (a1.2.2.2.1, (o3.2.1, o4.2.1))))), ()))))))

noncomputable def T_spec_l1In (N : Nat) (x1 : Int) (low2 : Int) (high3 : Int) : Option (Unit × (Bool × Unit)) :=
    (bif decide (x1 ≥ low2) then
    (some ((), (decide (x1 ≤ high3), ())))
    else
    (some ((), (false, ()))))

noncomputable def T_spec_l3Val (N : Nat) (v1 : Int) : Option (Unit × (Bool × Unit)) :=
    ((T_spec_l1In N v1 (0 : Int) (65535 : Int)).bind fun o2 =>
    (some ((), (o2.2.1, ()))))

noncomputable def T_spec_l25Ok (N : Nat) (t1 : Int × Int × Int) : Option (Unit × (Bool × Unit)) :=
    ((T_spec_l3Val N t1.1).bind fun o2 =>
    (bif o2.2.1 then
      ((T_spec_l3Val N t1.2.1).bind fun o3 =>
        (bif o3.2.1 then
          ((T_spec_l3Val N t1.2.2).bind fun o4 =>
            (some ((), (o4.2.1, ()))))
          else
          (some ((), (false, ())))))
      else
      (some ((), (false, ())))))

noncomputable def T_spec_TriplesOk_lp0 {R : Type} (N : Nat) (l2 : List (Int × Int × Int)) (K0 : Option R) (K1 : Int → Bool → Option R) : Nat → Int → Option R
  | 0, _ => none
  | n + 1, i3 =>
    (bif decide (i3 < (ilen l2)) then
    (bif inb i3 (List.length l2) then
      ((T_spec_l25Ok N (List.getD l2 (Int.toNat i3) ((0 : Int), ((0 : Int), (0 : Int))))).bind fun o7 =>
        (bif !o7.2.1 then
          K0
          else
          (T_spec_TriplesOk_lp0 N l2 K0 K1 n (iadd .i64 i3 (1 : Int))))) else none)
    else
    (K1 i3 (decide (i3 < (ilen l2)))))

noncomputable def T_spec_TriplesOk (N : Nat) (l1 : List (Int × Int × Int)) : Option (Unit × (Bool × Unit)) :=
    (bif decide ((ilen l1) > (20 : Int)) then
    (some ((), (false, ())))
    else
    (T_spec_TriplesOk_lp0 N l1
      (some ((), (false, ())))
      (fun i8 t9 =>
        (some ((), (true, ()))))
       N (0 : Int)))

noncomputable def T_spec_SeqValue (N : Nat) (start1 : Int × Int × Int) (l2 : List (Int × Int × Int)) (seq3 : Int) : Option (Unit × ((Int × Int × Int) × (Bool × Unit))) :=
    ((T_spec_l25Ok N start1).bind fun o4 =>
    (bif !o4.2.1 then
      (some ((), (((0 : Int), ((0 : Int), (0 : Int))), (false, ()))))
      else
      ((T_spec_TriplesOk N l2).bind fun o5 =>
        (bif !o5.2.1 then
          (some ((), (((0 : Int), ((0 : Int), (0 : Int))), (false, ()))))
          else
          ((T_spec_l1In N seq3 (0 : Int) (imul .i64 (2 : Int) (ilen l2))).bind fun o6 =>
            (bif !o6.2.1 then
              (some ((), (((0 : Int), ((0 : Int), (0 : Int))), (false, ()))))
              else
              (bif inz (2 : Int) then
                (bif (irem seq3 (2 : Int)) == (1 : Int) then
                  (some ((), (((0 : Int), ((0 : Int), (0 : Int))), (false, ()))))
                  else
                  (bif seq3 == (0 : Int) then
                    (some ((), (start1, (true, ()))))
                    else
                    (bif inz (2 : Int) then
                      (bif inb (isub .i64 (iquo .i64 seq3 (2 : Int)) (1 : Int)) (List.length l2) then
                        (some ((), (List.getD l2 (Int.toNat (isub .i64 (iquo .i64 seq3 (2 : Int)) (1 : Int))) ((0 : Int), ((0 : Int), (0 : Int))), (true, ())))) else none) else none))) else none)))))))

noncomputable def T_spec_SeqTrue_lp1 {R : Type} (N : Nat) (l9 : List (Int × Int × Int)) (i10 : Int) (b12 : Int × Int × Int) (b13 : Int × (Int × Int × Int) × Int × Int × List (Int × Int × (Int × Int × Int) × Int) × List (Int × Int × Int × Int × Int)) (K0 : Option R) (K1 : Int → Bool → Option R) : Nat → Int → Option R
  | 0, _ => none
  | n + 1, k11 =>
    (bif decide (k11 < i10) then
    (bif inb k11 (List.length b13.2.2.2.2.2) then
      (bif inb i10 (List.length b13.2.2.2.2.2) then
        (bif decide ((List.getD b13.2.2.2.2.2 (Int.toNat k11) ((0 : Int), ((0 : Int), ((0 : Int), ((0 : Int), (0 : Int)))))).2.1 > (List.getD b13.2.2.2.2.2 (Int.toNat i10) ((0 : Int), ((0 : Int), ((0 : Int), ((0 : Int), (0 : Int)))))).2.1) then
          K0
          else
          (T_spec_SeqTrue_lp1 N l9 i10 b12 b13 K0 K1 n (iadd .i64 k11 (1 : Int)))) else none) else none)
    else
    (K1 k11 (decide (k11 < i10))))

noncomputable def T_spec_SeqTrue_lp0 {R : Type} (N : Nat) (l4 : List (Int × Int × Int)) (b6 : Int × Int × Int) (b7 : Int × (Int × Int × Int) × Int × Int × List (Int × Int × (Int × Int × Int) × Int) × List (Int × Int × Int × Int × Int)) (K0 : Option R) (K1 : Int → Bool → Option R) : Nat → Int → Option R
  | 0, _ => none
  | n + 1, i5 =>
    (bif decide (i5 < (ilen b7.2.2.2.2.2)) then
    (both
      (bif inb i5 (List.length b7.2.2.2.2.2) then
        ((T_spec_SeqValue N b6 l4 (List.getD b7.2.2.2.2.2 (Int.toNat i5) ((0 : Int), ((0 : Int), ((0 : Int), ((0 : Int), (0 : Int)))))).2.1).bind fun o23 =>
          (bif !o23.2.2.1 then
            K0
            else
            (bif inb i5 (List.length b7.2.2.2.2.2) then
              (bif !((ieq o23.2.1.1 (List.getD b7.2.2.2.2.2 (Int.toNat i5) ((0 : Int), ((0 : Int), ((0 : Int), ((0 : Int), (0 : Int)))))).2.2.1) && ((ieq o23.2.1.2.1 (List.getD b7.2.2.2.2.2 (Int.toNat i5) ((0 : Int), ((0 : Int), ((0 : Int), ((0 : Int), (0 : Int)))))).2.2.2.1) && ((ieq o23.2.1.2.2 (List.getD b7.2.2.2.2.2 (Int.toNat i5) ((0 : Int), ((0 : Int), ((0 : Int), ((0 : Int), (0 : Int)))))).2.2.2.2) && true))) then
                K0
                else
                (T_spec_SeqTrue_lp1 N l4 i5 b6 b7
                  K0
                  (fun k24 t25 =>
                    (T_spec_SeqTrue_lp0 N l4 b6 b7 K0 K1 n (iadd .i64 i5 (1 : Int))))
                   N (0 : Int))) else none))) else none)
      (bif inb i5 (List.length b7.2.2.2.2.2) then
        ((T_spec_SeqValue N b6 l4 (List.getD b7.2.2.2.2.2 (Int.toNat i5) ((0 : Int), ((0 : Int), ((0 : Int), ((0 : Int), (0 : Int)))))).2.1).bind fun o26 =>
          (bif !o26.2.2.1 then
            K0
            else
            (bif inb i5 (List.length b7.2.2.2.2.2) then
              (bif !((ieq o26.2.1.1 (List.getD b7.2.2.2.2.2 (Int.toNat i5) ((0 : Int), ((0 : Int), ((0 : Int), ((0 : Int), (0 : Int)))))).2.2.1) && ((ieq o26.2.1.2.1 (List.getD b7.2.2.2.2.2 (Int.toNat i5) ((0 : Int), ((0 : Int), ((0 : Int), ((0 : Int), (0 : Int)))))).2.2.2.1) && ((ieq o26.2.1.2.2 (List.getD b7.2.2.2.2.2 (Int.toNat i5) ((0 : Int), ((0 : Int), ((0 : Int), ((0 : Int), (0 : Int)))))).2.2.2.2) && true))) then
                K0
                else
                (T_spec_SeqTrue_lp1 N l4 i5 b6 b7
                  K0
                  (fun k27 t28 =>
                    (T_spec_SeqTrue_lp0 N l4 b6 b7 K0 K1 n (iadd .i64 i5 (1 : Int))))
                   N (0 : Int))) else none))) else none))
    else
    (K1 i5 (decide (i5 < (ilen b7.2.2.2.2.2)))))

noncomputable def T_spec_SeqTrue (N : Nat) (start1 : Int × Int × Int) (l2 : List (Int × Int × Int)) (w3 : Int × (Int × Int × Int) × Int × Int × List (Int × Int × (Int × Int × Int) × Int) × List (Int × Int × Int × Int × Int)) : Option (Unit × (Bool × Unit)) :=
    (T_spec_SeqTrue_lp0 N l2 start1 w3
    (some ((), (false, ())))
    (fun i29 t30 =>
      (some ((), (true, ()))))
     N (0 : Int))

noncomputable def T_impl_within (N : Nat) (x1 : Int) (lo2 : Int) (hi3 : Int) : Option (Unit × (Bool × Unit)) :=
    (bif decide (x1 ≥ lo2) then
    (some ((), (decide (x1 ≤ hi3), ())))
    else
    (some ((), (false, ()))))

noncomputable def T_impl_isValue (N : Nat) (v1 : Int) : Option (Unit × (Bool × Unit)) :=
    ((T_impl_within N v1 (0 : Int) (65535 : Int)).bind fun o2 =>
    (some ((), (o2.2.1, ()))))

noncomputable def T_impl_isTriple (N : Nat) (t1 : Int × Int × Int) : Option (Unit × (Bool × Unit)) :=
    ((T_impl_isValue N t1.1).bind fun o2 =>
    (bif o2.2.1 then
      ((T_impl_isValue N t1.2.1).bind fun o3 =>
        (bif o3.2.1 then
          ((T_impl_isValue N t1.2.2).bind fun o4 =>
            (some ((), (o4.2.1, ()))))
          else
          (some ((), (false, ())))))
      else
      (some ((), (false, ())))))

noncomputable def T_impl_TriplesOk_lp0 {R : Type} (N : Nat) (l2 : List (Int × Int × Int)) (K0 : Option R) (K1 : Int → Bool → Option R) : Nat → Int → Option R
  | 0, _ => none
  | n + 1, t5 =>
    (bif decide (t5 < (ilen l2)) then
    (bif inb t5 (List.length l2) then
      ((T_impl_isTriple N (List.getD l2 (Int.toNat t5) ((0 : Int), ((0 : Int), (0 : Int))))).bind fun o10 =>
        (bif !o10.2.1 then
          K0
          else
          (T_impl_TriplesOk_lp0 N l2 K0 K1 n (iadd .i64 t5 (1 : Int))))) else none)
    else
    (K1 t5 (decide (t5 < (ilen l2)))))

noncomputable def T_impl_TriplesOk (N : Nat) (l1 : List (Int × Int × Int)) : Option (Unit × (Bool × Unit)) :=
    (T_impl_TriplesOk_lp0 N l1
    (some ((), (false, ())))
    (fun t11 t12 =>
      (some ((), (decide ((ilen l1) ≤ (20 : Int)), ()))))
     N (0 : Int))

noncomputable def T_impl_SeqValue (N : Nat) (start1 : Int × Int × Int) (l2 : List (Int × Int × Int)) (seq3 : Int) : Option (Unit × ((Int × Int × Int) × (Bool × Unit))) :=
    ((T_impl_isTriple N start1).bind fun o4 =>
    (bif !o4.2.1 then
      (some ((), (((0 : Int), ((0 : Int), (0 : Int))), (false, ()))))
      else
      ((T_impl_TriplesOk N l2).bind fun o5 =>
        (bif !o5.2.1 then
          (some ((), (((0 : Int), ((0 : Int), (0 : Int))), (false, ()))))
          else
          ((T_impl_within N seq3 (0 : Int) (imul .i64 (2 : Int) (ilen l2))).bind fun o6 =>
            (bif !o6.2.1 then
              (some ((), (((0 : Int), ((0 : Int), (0 : Int))), (false, ()))))
              else
              (bif inz (2 : Int) then
                (bif (irem seq3 (2 : Int)) == (1 : Int) then
                  (some ((), (((0 : Int), ((0 : Int), (0 : Int))), (false, ()))))
                  else
                  (bif seq3 == (0 : Int) then
                    (some ((), (start1, (true, ()))))
                    else
                    (bif inz (2 : Int) then
                      (bif inb (isub .i64 (iquo .i64 seq3 (2 : Int)) (1 : Int)) (List.length l2) then
                        (some ((), (List.getD l2 (Int.toNat (isub .i64 (iquo .i64 seq3 (2 : Int)) (1 : Int))) ((0 : Int), ((0 : Int), (0 : Int))), (true, ())))) else none) else none))) else none)))))))

noncomputable def T_impl_SeqTrue_lp0 {R : Type} (N : Nat) (l4 : List (Int × Int × Int)) (t5 : List (Int × Int × Int × Int × Int)) (b8 : Int × Int × Int) (b9 : Int × (Int × Int × Int) × Int × Int × List (Int × Int × (Int × Int × Int) × Int) × List (Int × Int × Int × Int × Int)) (K0 : Option R) (K1 : Int → Bool → Option R) : Nat → Int → Option R
  | 0, _ => none
  | n + 1, t7 =>
    (bif decide (t7 < (ilen b9.2.2.2.2.2)) then
    (bif inb t7 (List.length t5) then
      ((T_impl_SeqValue N b8 l4 (List.getD t5 (Int.toNat t7) ((0 : Int), ((0 : Int), ((0 : Int), ((0 : Int), (0 : Int)))))).2.1).bind fun o14 =>
        (bif !o14.2.2.1 then
          K0
          else
          (bif !((ieq o14.2.1.1 (List.getD t5 (Int.toNat t7) ((0 : Int), ((0 : Int), ((0 : Int), ((0 : Int), (0 : Int)))))).2.2.1) && ((ieq o14.2.1.2.1 (List.getD t5 (Int.toNat t7) ((0 : Int), ((0 : Int), ((0 : Int), ((0 : Int), (0 : Int)))))).2.2.2.1) && ((ieq o14.2.1.2.2 (List.getD t5 (Int.toNat t7) ((0 : Int), ((0 : Int), ((0 : Int), ((0 : Int), (0 : Int)))))).2.2.2.2) && true))) then
            K0
            else
            (bif decide (t7 > (0 : Int)) then
              (bif inb (isub .i64 t7 (1 : Int)) (List.length b9.2.2.2.2.2) then
                (bif decide ((List.getD t5 (Int.toNat t7) ((0 : Int), ((0 : Int), ((0 : Int), ((0 : Int), (0 : Int)))))).2.1 < (List.getD b9.2.2.2.2.2 (Int.toNat (isub .i64 t7 (1 : Int))) ((0 : Int), ((0 : Int), ((0 : Int), ((0 : Int), (0 : Int)))))).2.1) then
                  K0
                  else
                  (T_impl_SeqTrue_lp0 N l4 t5 b8 b9 K0 K1 n (iadd .i64 t7 (1 : Int)))) else none)
              else
              (T_impl_SeqTrue_lp0 N l4 t5 b8 b9 K0 K1 n (iadd .i64 t7 (1 : Int))))))) else none)
    else
    (K1 t7 (decide (t7 < (ilen b9.2.2.2.2.2)))))

noncomputable def T_impl_SeqTrue (N : Nat) (start1 : Int × Int × Int) (l2 : List (Int × Int × Int)) (w3 : Int × (Int × Int × Int) × Int × Int × List (Int × Int × (Int × Int × Int) × Int) × List (Int × Int × Int × Int × Int)) : Option (Unit × (Bool × Unit)) :=
    (T_impl_SeqTrue_lp0 N l2 w3.2.2.2.2.2 start1 w3
    (some ((), (false, ())))
    (fun t15 t16 =>
      (some ((), (true, ()))))
     N (0 : Int))

noncomputable def T_laws_eqTriple (N : Nat) (a1 : Int × Int × Int) (b2 : Int × Int × Int) : Option (Unit × (Bool × Unit)) :=
    (bif a1.1 != b2.1 then
    (some ((), (false, ())))
    else
    (bif a1.2.1 != b2.2.1 then
      (some ((), (false, ())))
      else
      (bif a1.2.2 != b2.2.2 then
        (some ((), (false, ())))
        else
        (some ((), (true, ()))))))

noncomputable def T_laws_eqTripleS_lp0 {R : Type} (N : Nat) (a3 : List (Int × Int × Int)) (b4 : List (Int × Int × Int)) (K0 : Option R) (K1 : Int → Bool → Option R) : Nat → Int → Option R
  | 0, _ => none
  | n + 1, i5 =>
    (bif decide (i5 < (ilen a3)) then
    (bif inb i5 (List.length a3) then
      (bif inb i5 (List.length b4) then
        ((T_laws_eqTriple N (List.getD a3 (Int.toNat i5) ((0 : Int), ((0 : Int), (0 : Int)))) (List.getD b4 (Int.toNat i5) ((0 : Int), ((0 : Int), (0 : Int))))).bind fun o9 =>
          (bif !o9.2.1 then
            K0
            else
            (T_laws_eqTripleS_lp0 N a3 b4 K0 K1 n (iadd .i64 i5 (1 : Int))))) else none) else none)
    else
    (K1 i5 (decide (i5 < (ilen a3)))))

noncomputable def T_laws_eqTripleS (N : Nat) (a1 : List (Int × Int × Int)) (b2 : List (Int × Int × Int)) : Option (Unit × (Bool × Unit)) :=
    (bif (ilen a1) != (ilen b2) then
    (some ((), (false, ())))
    else
    (T_laws_eqTripleS_lp0 N a1 b2
      (some ((), (false, ())))
      (fun i10 t11 =>
        (some ((), (true, ()))))
       N (0 : Int)))

noncomputable def T_laws_eqSeqReader (N : Nat) (a1 : Int × Int × (Int × Int × Int) × Int) (b2 : Int × Int × (Int × Int × Int) × Int) : Option (Unit × (Bool × Unit)) :=
    (bif a1.1 != b2.1 then
    (some ((), (false, ())))
    else
    (bif a1.2.1 != b2.2.1 then
      (some ((), (false, ())))
      else
      ((T_laws_eqTriple N a1.2.2.1 b2.2.2.1).bind fun o3 =>
        (bif !o3.2.1 then
          (some ((), (false, ())))
          else
          (bif a1.2.2.2 != b2.2.2.2 then
            (some ((), (false, ())))
            else
            (some ((), (true, ()))))))))

noncomputable def T_laws_eqSeqReaderS_lp0 {R : Type} (N : Nat) (a3 : List (Int × Int × (Int × Int × Int) × Int)) (b4 : List (Int × Int × (Int × Int × Int) × Int)) (K0 : Option R) (K1 : Int → Bool → Option R) : Nat → Int → Option R
  | 0, _ => none
  | n + 1, i5 =>
    (bif decide (i5 < (ilen a3)) then
    (bif inb i5 (List.length a3) then
      (bif inb i5 (List.length b4) then
        ((T_laws_eqSeqReader N (List.getD a3 (Int.toNat i5) ((0 : Int), ((0 : Int), (((0 : Int), ((0 : Int), (0 : Int))), (0 : Int))))) (List.getD b4 (Int.toNat i5) ((0 : Int), ((0 : Int), (((0 : Int), ((0 : Int), (0 : Int))), (0 : Int)))))).bind fun o9 =>
          (bif !o9.2.1 then
            K0
            else
            (T_laws_eqSeqReaderS_lp0 N a3 b4 K0 K1 n (iadd .i64 i5 (1 : Int))))) else none) else none)
    else
    (K1 i5 (decide (i5 < (ilen a3)))))

noncomputable def T_laws_eqSeqReaderS (N : Nat) (a1 : List (Int × Int × (Int × Int × Int) × Int)) (b2 : List (Int × Int × (Int × Int × Int) × Int)) : Option (Unit × (Bool × Unit)) :=
    (bif (ilen a1) != (ilen b2) then
    (some ((), (false, ())))
    else
    (T_laws_eqSeqReaderS_lp0 N a1 b2
      (some ((), (false, ())))
      (fun i10 t11 =>
        (some ((), (true, ()))))
       N (0 : Int)))

noncomputable def T_laws_eqSeqRead (N : Nat) (a1 : Int × Int × Int × Int × Int) (b2 : Int × Int × Int × Int × Int) : Option (Unit × (Bool × Unit)) :=
    (bif a1.1 != b2.1 then
    (some ((), (false, ())))
    else
    (bif a1.2.1 != b2.2.1 then
      (some ((), (false, ())))
      else
      ((T_laws_eqTriple N a1.2.2 b2.2.2).bind fun o3 =>
        (bif !o3.2.1 then
          (some ((), (false, ())))
          else
          (some ((), (true, ())))))))

noncomputable def T_laws_eqSeqReadS_lp0 {R : Type} (N : Nat) (a3 : List (Int × Int × Int × Int × Int)) (b4 : List (Int × Int × Int × Int × Int)) (K0 : Option R) (K1 : Int → Bool → Option R) : Nat → Int → Option R
  | 0, _ => none
  | n + 1, i5 =>
    (bif decide (i5 < (ilen a3)) then
    (bif inb i5 (List.length a3) then
      (bif inb i5 (List.length b4) then
        ((T_laws_eqSeqRead N (List.getD a3 (Int.toNat i5) ((0 : Int), ((0 : Int), ((0 : Int), ((0 : Int), (0 : Int)))))) (List.getD b4 (Int.toNat i5) ((0 : Int), ((0 : Int), ((0 : Int), ((0 : Int), (0 : Int))))))).bind fun o9 =>
          (bif !o9.2.1 then
            K0
            else
            (T_laws_eqSeqReadS_lp0 N a3 b4 K0 K1 n (iadd .i64 i5 (1 : Int))))) else none) else none)
    else
    (K1 i5 (decide (i5 < (ilen a3)))))

noncomputable def T_laws_eqSeqReadS (N : Nat) (a1 : List (Int × Int × Int × Int × Int)) (b2 : List (Int × Int × Int × Int × Int)) : Option (Unit × (Bool × Unit)) :=
    (bif (ilen a1) != (ilen b2) then
    (some ((), (false, ())))
    else
    (T_laws_eqSeqReadS_lp0 N a1 b2
      (some ((), (false, ())))
      (fun i10 t11 =>
        (some ((), (true, ()))))
       N (0 : Int)))

noncomputable def T_laws_eqSeqWorld (N : Nat) (a1 : Int × (Int × Int × Int) × Int × Int × List (Int × Int × (Int × Int × Int) × Int) × List (Int × Int × Int × Int × Int)) (b2 : Int × (Int × Int × Int) × Int × Int × List (Int × Int × (Int × Int × Int) × Int) × List (Int × Int × Int × Int × Int)) : Option (Unit × (Bool × Unit)) :=
    (bif a1.1 != b2.1 then
    (some ((), (false, ())))
    else
    ((T_laws_eqTriple N a1.2.1 b2.2.1).bind fun o3 =>
      (bif !o3.2.1 then
        (some ((), (false, ())))
        else
        (bif a1.2.2.1 != b2.2.2.1 then
          (some ((), (false, ())))
          else
          (bif a1.2.2.2.1 != b2.2.2.2.1 then
            (some ((), (false, ())))
            else
            ((T_laws_eqSeqReaderS N a1.2.2.2.2.1 b2.2.2.2.2.1).bind fun o4 =>
              (bif !o4.2.1 then
                (some ((), (false, ())))
                else
                ((T_laws_eqSeqReadS N a1.2.2.2.2.2 b2.2.2.2.2.2).bind fun o5 =>
                  (bif !o5.2.1 then
                    (some ((), (false, ())))
                    else
                    (some ((), (true, ()))))))))))))

noncomputable def T_laws_FnExactSeqTrue (N : Nat) (aStart1 : Int × Int × Int) (aL2 : List (Int × Int × Int)) (aW3 : Int × (Int × Int × Int) × Int × Int × List (Int × Int × (Int × Int × Int) × Int) × List (Int × Int × Int × Int × Int)) : Option (Unit × (Bool × Unit)) :=
    ((T_laws_szTripleS N aL2 (1048576 : Int)).bind fun o4 =>
    (bif decide (o4.2.1 < (0 : Int)) then
      (some ((), (true, ())))
      else
      ((T_laws_szSeqWorld N aW3 o4.2.1).bind fun o5 =>
        (bif decide (o5.2.1 < (0 : Int)) then
          (some ((), (true, ())))
          else
          ((T_laws_toTriple N aStart1).bind fun o6 =>
            ((T_laws_toTripleS N aL2).bind fun o7 =>
              ((T_laws_toSeqWorld N aW3).bind fun o8 =>
                ((T_spec_SeqTrue N o6.2.1 o7.2.1 o8.2.1).bind fun o9 =>
                  ((T_laws_toTripleS N aL2).bind fun o10 =>
                    ((T_laws_toSeqWorld N aW3).bind fun o11 =>
                      ((T_laws_toTriple N aStart1).bind fun o12 =>
                        ((T_impl_SeqTrue N o12.2.1 o10.2.1 o11.2.1).bind fun o13 =>
                          (bif !(beq o13.2.1 o9.2.1) then
                            (some ((), (false, ())))
                            else
                            ((T_laws_toTripleS N aL2).bind fun o14 =>
                              ((T_laws_eqTripleS N o10.2.1 o14.2.1).bind fun o15 =>
                                (bif !o15.2.1 then
                                  (some ((), (false, ())))
                                  else
                                  ((T_laws_toSeqWorld N aW3).bind fun o16 =>
                                    ((T_laws_eqSeqWorld N o11.2.1 o16.2.1).bind fun o17 =>
                                      (bif !o17.2.1 then
                                        (some ((), (false, ())))
                                        else
                                        (some ((), (true, ()))))))))))))))))))))))

noncomputable def T_laws_FnExactSeqValue (N : Nat) (aStart1 : Int × Int × Int) (aL2 : List (Int × Int × Int)) (aSeq3 : Int) : Option (Unit × (Bool × Unit)) :=
    ((T_laws_szTripleS N aL2 (1048576 : Int)).bind fun o4 =>
    (bif decide (o4.2.1 < (0 : Int)) then
      (some ((), (true, ())))
      else
      ((T_laws_toTriple N aStart1).bind fun o5 =>
        ((T_laws_toTripleS N aL2).bind fun o6 =>
          ((T_spec_SeqValue N o5.2.1 o6.2.1 aSeq3).bind fun o7 =>
            ((T_laws_toTripleS N aL2).bind fun o8 =>
              ((T_laws_toTriple N aStart1).bind fun o9 =>
                ((T_impl_SeqValue N o9.2.1 o8.2.1 aSeq3).bind fun o10 =>
                  ((T_laws_eqTriple N o10.2.1 o7.2.1).bind fun o11 =>
                    (bif !o11.2.1 then
                      (some ((), (false, ())))
                      else
                      (bif !(beq o10.2.2.1 o7.2.2.1) then
                        (some ((), (false, ())))
                        else
                        ((T_laws_toTripleS N aL2).bind fun o12 =>
                          ((T_laws_eqTripleS N o8.2.1 o12.2.1).bind fun o13 =>
                            (bif !o13.2.1 then
                              (some ((), (false, ())))
                              else
                              (some ((), (true, ())))))))))))))))))

noncomputable def T_laws_FnExactTriplesOk (N : Nat) (aL1 : List (Int × Int × Int)) : Option (Unit × (Bool × Unit)) :=
    ((T_laws_szTripleS N aL1 (1048576 : Int)).bind fun o2 =>
    (bif decide (o2.2.1 < (0 : Int)) then
      (some ((), (true, ())))
      else
      ((T_laws_toTripleS N aL1).bind fun o3 =>
        ((T_spec_TriplesOk N o3.2.1).bind fun o4 =>
          ((T_laws_toTripleS N aL1).bind fun o5 =>
            ((T_impl_TriplesOk N o5.2.1).bind fun o6 =>
              (bif !(beq o6.2.1 o4.2.1) then
                (some ((), (false, ())))
                else
                ((T_laws_toTripleS N aL1).bind fun o7 =>
                  ((T_laws_eqTripleS N o5.2.1 o7.2.1).bind fun o8 =>
                    (bif !o8.2.1 then
                      (some ((), (false, ())))
                      else
                      (some ((), (true, ())))))))))))))

end Go.Sx
