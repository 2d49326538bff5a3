/- What each Go function computes, as a Lean function. -/
import Derived.Test.YtceckfecihemnaaGreatM3
namespace Go.Sx
set_option linter.unusedVariables false
noncomputable def Zd (N : Nat) (x1 : Int) (low2 : Int) (high3 : Int) : Option (Unit × (Bool × Unit)) :=
    (bif decide (x1 ≥ low2) then
 (some ((), (decide (x1 ≤ high3), ())))
 else
 (some ((), (false, ()))))
noncomputable def Zao (N : Nat) (x1 : Int) (lo2 : Int) (hi3 : Int) : Option (Unit × (Bool × Unit)) :=
    (bif decide (x1 ≥ lo2) then
 (some ((), (decide (x1 ≤ hi3), ())))
 else
 (some ((), (false, ()))))
noncomputable def Zbd {R : Type} (N : Nat) (a2 : List Int) (K0 : Int → Bool → (List Int) → Option R) : Nat → Int → (List Int) → Option R
  | 0, _, _ => none
  | n + 1, i3, l4 =>
    (bif decide (i3 < (ilen a2)) then
 (bif inb i3 (List.length a2) then
 (bif inb i3 (List.length l4) then
 (Zbd N a2 K0 n (iadd .i64 i3 1) (List.set l4 (Int.toNat i3) (List.getD a2 (Int.toNat i3) 0))) else none) else none)
 else
 (K0 i3 (decide (i3 < (ilen a2))) l4))
noncomputable def Zag (N : Nat) (a1 : List Int) : Option (Unit × ((List Int) × Unit)) :=
    (bif ((decide ((0 : Int) ≤ (ilen a1))) && (decide ((ilen a1) ≤ (ilen a1)))) && (room (Int.toNat (ilen a1))) then
 (Zbd N a1
 (fun i8 t9 l10 =>
   (some ((), (l10, ()))))
  N 0 (List.replicate (Int.toNat (ilen a1)) 0)) else none)
noncomputable def Zbe {R : Type} (N : Nat) (a3 : List Int) (b4 : List Int) (K0 : Option R) (K1 : Int → Bool → Option R) : Nat → Int → Option R
  | 0, _ => none
  | n + 1, i5 =>
    (bif decide (i5 < (ilen a3)) then
 (bif inb i5 (List.length a3) then
 (bif inb i5 (List.length b4) then
 (bif (List.getD a3 (Int.toNat i5) 0) != (List.getD b4 (Int.toNat i5) 0) then
 K0
 else
 (Zbe N a3 b4 K0 K1 n (iadd .i64 i5 1))) else none) else none)
 else
 (K1 i5 (decide (i5 < (ilen a3)))))
noncomputable def Zax (N : Nat) (a1 : List Int) (b2 : List Int) : Option (Unit × (Bool × Unit)) :=
    (bif (ilen a1) != (ilen b2) then
 (some ((), (false, ())))
 else
 (Zbe N a1 b2
 (some ((), (false, ())))
 (fun i8 t9 =>
   (some ((), (true, ()))))
  N 0))
noncomputable def Zdf (N : Nat) (v1 : Int) : Option (Unit × (Bool × Unit)) :=
    ((Zd N v1 0 65535).bind fun o2 =>
 (some ((), (o2.2.1, ()))))
noncomputable def Zda (N : Nat) (v1 : Int) : Option (Unit × (Bool × Unit)) :=
    ((Zao N v1 0 65535).bind fun o2 =>
 (some ((), (o2.2.1, ()))))
noncomputable def Zgl (N : Nat) (a1 : List (Int × Int)) (left2 : Int) : Option (Unit × (Int × Unit)) :=
    (bif decide ((isub .i64 left2 (ilen a1)) < 0) then
 (some ((), ((-1 : Int), ())))
 else
 (some ((), (isub .i64 left2 (ilen a1), ()))))
noncomputable def Zg4 (N : Nat) (a1 : Int × Int) : Option (Unit × ((Int × Int) × Unit)) :=
    (some ((), (a1, ())))
noncomputable def Zbf {R : Type} (N : Nat) (a2 : List (Int × Int)) (K0 : Int → Bool → (List (Int × Int)) → Option R) : Nat → Int → (List (Int × Int)) → Option R
  | 0, _, _ => none
  | n + 1, i3, l4 =>
    (bif decide (i3 < (ilen a2)) then
 (bif inb i3 (List.length a2) then
 ((Zg4 N (List.getD a2 (Int.toNat i3) (0, 0))).bind fun o9 =>
 (bif inb i3 (List.length l4) then
 (Zbf N a2 K0 n (iadd .i64 i3 1) (List.set l4 (Int.toNat i3) o9.2.1)) else none)) else none)
 else
 (K0 i3 (decide (i3 < (ilen a2))) l4))
noncomputable def Zbb (N : Nat) (a1 : List (Int × Int)) : Option (Unit × ((List (Int × Int)) × Unit)) :=
    (bif ((decide ((0 : Int) ≤ (ilen a1))) && (decide ((ilen a1) ≤ (ilen a1)))) && (room (Int.toNat (ilen a1))) then
 (Zbf N a1
 (fun i10 t11 l12 =>
   (some ((), (l12, ()))))
  N 0 (List.replicate (Int.toNat (ilen a1)) (0, 0))) else none)
noncomputable def Zbg {R : Type} (N : Nat) (l2 : List Int) (K0 : Option R) (K1 : Int → Bool → Option R) : Nat → Int → Option R
  | 0, _ => none
  | n + 1, i3 =>
    (bif decide (i3 < (ilen l2)) then
 (bif inb i3 (List.length l2) then
 ((Zdf N (List.getD l2 (Int.toNat i3) 0)).bind fun o7 =>
 (bif !o7.2.1 then
 K0
 else
 (Zbg N l2 K0 K1 n (iadd .i64 i3 1)))) else none)
 else
 (K1 i3 (decide (i3 < (ilen l2)))))
noncomputable def Zah (N : Nat) (l1 : List Int) : Option (Unit × (Bool × Unit)) :=
    (bif (ilen l1) != 8 then
 (some ((), (false, ())))
 else
 (Zbg N l1
 (some ((), (false, ())))
 (fun i8 t9 =>
   (some ((), (true, ()))))
  N 0))
noncomputable def Zap (N : Nat) (i1 : Int) : Option (Unit × (Bool × Unit)) :=
    ((Zd N i1 0 7).bind fun o2 =>
 (some ((), (o2.2.1, ()))))
noncomputable def Zbh {R : Type} (N : Nat) (l2 : List (Int × Int)) (K0 : Option R) (K1 : Int → Bool → Option R) : Nat → Int → Option R
  | 0, _ => none
  | n + 1, i3 =>
    (bif decide (i3 < (ilen l2)) then
 (bif inb i3 (List.length l2) then
 ((Zap N (List.getD l2 (Int.toNat i3) (0, 0)).1).bind fun o8 =>
 (bif !o8.2.1 then
 K0
 else
 (bif inb i3 (List.length l2) then
 ((Zdf N (List.getD l2 (Int.toNat i3) (0, 0)).2).bind fun o9 =>
 (bif !o9.2.1 then
 K0
 else
 (Zbh N l2 K0 K1 n (iadd .i64 i3 1)))) else none))) else none)
 else
 (K1 i3 (decide (i3 < (ilen l2)))))
noncomputable def Zay (N : Nat) (l1 : List (Int × Int)) : Option (Unit × (Bool × Unit)) :=
    (bif decide ((ilen l1) > 300) then
 (some ((), (false, ())))
 else
 (Zbh N l1
 (some ((), (false, ())))
 (fun i10 t11 =>
   (some ((), (true, ()))))
  N 0))
noncomputable def Zq (N : Nat) (l1 : List Int) : Option (Unit × ((List Int) × Unit)) :=
    (bif room ((List.length ([] : List Int)) + (List.length l1)) then
 (some ((), (List.append ([] : List Int) l1, ()))) else none)
noncomputable def Zkd (N : Nat) (l1 : List (Int × Int)) (n2 : Int) : Option (Unit × ((List (Int × Int)) × Unit)) :=
    ((Zay N l1).bind fun o3 =>
 (bif !o3.2.1 then
 (some ((), (([] : List (Int × Int)), ())))
 else
 (bif decide (n2 ≤ 0) then
 (some ((), (([] : List (Int × Int)), ())))
 else
 (bif decide (n2 > (ilen l1)) then
 (bif (decide ((0 : Int) ≤ (ilen l1))) && (decide ((ilen l1) ≤ ((List.length l1) : Int))) then
 (bif room ((List.length ([] : List (Int × Int))) + (List.length (List.take (Int.toNat (ilen l1)) l1))) then
 (some ((), (List.append ([] : List (Int × Int)) (List.take (Int.toNat (ilen l1)) l1), ()))) else none) else none)
 else
 (bif (decide ((0 : Int) ≤ n2)) && (decide (n2 ≤ ((List.length l1) : Int))) then
 (bif room ((List.length ([] : List (Int × Int))) + (List.length (List.take (Int.toNat n2) l1))) then
 (some ((), (List.append ([] : List (Int × Int)) (List.take (Int.toNat n2) l1), ()))) else none) else none)))))
noncomputable def Zdw {R : Type} (N : Nat) (log7 : List (Int × Int)) (n8 : Int) (K0 : Int → Bool → (List Int) → Option R) : Nat → Int → (List Int) → Option R
  | 0, _, _ => none
  | n + 1, i9, l10 =>
    (bif decide (i9 ≥ n8) then
 (bif inb i9 (List.length log7) then
 (bif inb i9 (List.length log7) then
 (bif inb (List.getD log7 (Int.toNat i9) (0, 0)).1 (List.length l10) then
 (Zdw N log7 n8 K0 n (isub .i64 i9 1) (List.set l10 (Int.toNat (List.getD log7 (Int.toNat i9) (0, 0)).1) (List.getD log7 (Int.toNat i9) (0, 0)).2)) else none) else none) else none)
 else
 (K0 i9 (decide (i9 ≥ n8)) l10))
noncomputable def Zdz (N : Nat) (cells1 : List Int) (log2 : List (Int × Int)) (n3 : Int) : Option (Unit × ((List Int) × ((List (Int × Int)) × Unit))) :=
    ((Zah N cells1).bind fun o4 =>
 (bif !o4.2.1 then
 (some ((), (([] : List Int), (([] : List (Int × Int)), ()))))
 else
 ((Zay N log2).bind fun o5 =>
 (bif !o5.2.1 then
 (some ((), (([] : List Int), (([] : List (Int × Int)), ()))))
 else
 (bif decide (n3 < 0) then
 (some ((), (([] : List Int), (([] : List (Int × Int)), ()))))
 else
 ((Zq N cells1).bind fun o6 =>
 (Zdw N log2 n3
 (fun i14 t15 l16 =>
   ((Zkd N log2 n3).bind fun o17 =>
 (some ((), (l16, (o17.2.1, ()))))))
  N (isub .i64 (ilen log2) 1) o6.2.1)))))))
noncomputable def Z4 {R : Type} (N : Nat) (l3 : List Int) (n4 : Int) (K0 : Option R) (K1 : Int → Bool → Option R) : Nat → Int → Option R
  | 0, _ => none
  | n + 1, t7 =>
    (bif decide (t7 < (ilen l3)) then
 (bif inb t7 (List.length l3) then
 ((Zda N (List.getD l3 (Int.toNat t7) 0)).bind fun o12 =>
 (bif !o12.2.1 then
 K0
 else
 (Z4 N l3 n4 K0 K1 n (iadd .i64 t7 1)))) else none)
 else
 (K1 t7 (decide (t7 < (ilen l3)))))
noncomputable def Zr (N : Nat) (l1 : List Int) (n2 : Int) : Option (Unit × (Bool × Unit)) :=
    (Z4 N l1 n2
 (some ((), (false, ())))
 (fun t13 t14 =>
   (some ((), ((ilen l1) == n2, ()))))
  N 0)
noncomputable def Zaq (N : Nat) (i1 : Int) : Option (Unit × (Bool × Unit)) :=
    ((Zao N i1 0 7).bind fun o2 =>
 (some ((), (o2.2.1, ()))))
noncomputable def Zbi {R : Type} (N : Nat) (l2 : List (Int × Int)) (K0 : Option R) (K1 : Int → Bool → Option R) : Nat → Int → Option R
  | 0, _ => none
  | n + 1, t5 =>
    (bif decide (t5 < (ilen l2)) then
 (bif inb t5 (List.length l2) then
 ((Zaq N (List.getD l2 (Int.toNat t5) (0, 0)).1).bind fun o12 =>
 (bif !o12.2.1 then
 K0
 else
 ((Zda N (List.getD l2 (Int.toNat t5) (0, 0)).2).bind fun o13 =>
 (bif !o13.2.1 then
 K0
 else
 (Zbi N l2 K0 K1 n (iadd .i64 t5 1)))))) else none)
 else
 (K1 t5 (decide (t5 < (ilen l2)))))
noncomputable def Zaz (N : Nat) (l1 : List (Int × Int)) : Option (Unit × (Bool × Unit)) :=
    (Zbi N l1
 (some ((), (false, ())))
 (fun t14 t15 =>
   (some ((), (decide ((ilen l1) ≤ 300), ()))))
  N 0)
noncomputable def Zg (N : Nat) (l1 : List Int) : Option (Unit × ((List Int) × Unit)) :=
    (bif room (List.length l1) then
 (some ((), (l1, ()))) else none)
noncomputable def Zg5 (N : Nat) (l1 : List (Int × Int)) : Option (Unit × ((List (Int × Int)) × Unit)) :=
    (bif room (List.length l1) then
 (some ((), (l1, ()))) else none)
noncomputable def Zae {R : Type} (N : Nat) (log7 : List (Int × Int)) (n8 : Int) (K0 : Int → Bool → (List Int) → Option R) : Nat → Int → (List Int) → Option R
  | 0, _, _ => none
  | n + 1, i9, l10 =>
    (bif decide (i9 ≥ n8) then
 (bif inb i9 (List.length log7) then
 (bif inb i9 (List.length log7) then
 (bif inb (List.getD log7 (Int.toNat i9) (0, 0)).1 (List.length l10) then
 (Zae N log7 n8 K0 n (isub .i64 i9 1) (List.set l10 (Int.toNat (List.getD log7 (Int.toNat i9) (0, 0)).1) (List.getD log7 (Int.toNat i9) (0, 0)).2)) else none) else none) else none)
 else
 (K0 i9 (decide (i9 ≥ n8)) l10))
noncomputable def Za3 (N : Nat) (cells1 : List Int) (log2 : List (Int × Int)) (n3 : Int) : Option (Unit × ((List Int) × ((List (Int × Int)) × Unit))) :=
    ((Zr N cells1 8).bind fun o4 =>
 (bif !o4.2.1 then
 (some ((), (([] : List Int), (([] : List (Int × Int)), ()))))
 else
 ((Zaz N log2).bind fun o5 =>
 (bif !o5.2.1 then
 (some ((), (([] : List Int), (([] : List (Int × Int)), ()))))
 else
 (bif decide (n3 < 0) then
 (some ((), (([] : List Int), (([] : List (Int × Int)), ()))))
 else
 ((Zg N cells1).bind fun o6 =>
 (Zae N log2 n3
 (fun i14 t15 l16 =>
   (bif (decide ((0 : Int) ≤ (minI n3 (ilen log2)))) && (decide ((minI n3 (ilen log2)) ≤ ((List.length log2) : Int))) then
 ((Zg5 N (List.take (Int.toNat (minI n3 (ilen log2))) log2)).bind fun o17 =>
 (some ((), (l16, (o17.2.1, ()))))) else none))
  N (isub .i64 (ilen log2) 1) o6.2.1)))))))
noncomputable def Zg6 (N : Nat) (a1 : Int × Int) (b2 : Int × Int) : Option (Unit × (Bool × Unit)) :=
    (bif a1.1 != b2.1 then
 (some ((), (false, ())))
 else
 (bif a1.2 != b2.2 then
 (some ((), (false, ())))
 else
 (some ((), (true, ())))))
noncomputable def Zbj {R : Type} (N : Nat) (a3 : List (Int × Int)) (b4 : List (Int × Int)) (K0 : Option R) (K1 : Int → Bool → Option R) : Nat → Int → Option R
  | 0, _ => none
  | n + 1, i5 =>
    (bif decide (i5 < (ilen a3)) then
 (bif inb i5 (List.length a3) then
 (bif inb i5 (List.length b4) then
 ((Zg6 N (List.getD a3 (Int.toNat i5) (0, 0)) (List.getD b4 (Int.toNat i5) (0, 0))).bind fun o9 =>
 (bif !o9.2.1 then
 K0
 else
 (Zbj N a3 b4 K0 K1 n (iadd .i64 i5 1)))) else none) else none)
 else
 (K1 i5 (decide (i5 < (ilen a3)))))
noncomputable def Zbz (N : Nat) (a1 : List (Int × Int)) (b2 : List (Int × Int)) : Option (Unit × (Bool × Unit)) :=
    (bif (ilen a1) != (ilen b2) then
 (some ((), (false, ())))
 else
 (Zbj N a1 b2
 (some ((), (false, ())))
 (fun i10 t11 =>
   (some ((), (true, ()))))
  N 0))
noncomputable def Zc6 {R : Type} (N : Nat) (K0 : Int → Int → Bool → (List Int) → Option R) : Nat → Int → Int → (List Int) → Option R
  | 0, _, _, _ => none
  | n + 1, k3, i4, l5 =>
    (bif decide (i4 < (ilen l5)) then
 (bif inb i4 (List.length l5) then
 (Zc6 N K0 n (iadd .i64 k3 1) (iadd .i64 i4 1) (List.set l5 (Int.toNat i4) k3)) else none)
 else
 (K0 k3 i4 (decide (i4 < (ilen l5))) l5))
noncomputable def Zi5 (N : Nat) (a1 : List Int) (k2 : Int) : Option (((List Int) × Unit) × (Int × Unit)) :=
    (Zc6 N
 (fun k10 i11 t12 l13 =>
   (some ((l13, ()), (k10, ()))))
  N k2 0 a1)
noncomputable def Zc7 {R : Type} (N : Nat) (K0 : Int → Int → Bool → (List (Int × Int)) → Option R) : Nat → Int → Int → (List (Int × Int)) → Option R
  | 0, _, _, _ => none
  | n + 1, k3, i4, l5 =>
    (bif decide (i4 < (ilen l5)) then
 (bif inb i4 (List.length l5) then
 (bif inb i4 (List.length (List.set l5 (Int.toNat i4) (k3, (List.getD l5 (Int.toNat i4) (0, 0)).2))) then
 (share (List.set l5 (Int.toNat i4) (k3, (List.getD l5 (Int.toNat i4) (0, 0)).2)) fun s11 =>
 (Zc7 N K0 n (iadd .i64 (iadd .i64 k3 1) 1) (iadd .i64 i4 1) (List.set s11 (Int.toNat i4) ((List.getD s11 (Int.toNat i4) (0, 0)).1, iadd .i64 k3 1)))) else none) else none)
 else
 (K0 k3 i4 (decide (i4 < (ilen l5))) l5))
noncomputable def Zi6 (N : Nat) (a1 : List (Int × Int)) (k2 : Int) : Option (((List (Int × Int)) × Unit) × (Int × Unit)) :=
    (Zc7 N
 (fun k12 i13 t14 l15 =>
   (some ((l15, ()), (k12, ()))))
  N k2 0 a1)
noncomputable def Zc8 {R : Type} (N : Nat) (a3 : List Int) (K0 : Option R) (K1 : Int → Int → Bool → Option R) : Nat → Int → Int → Option R
  | 0, _, _ => none
  | n + 1, k4, i5 =>
    (bif decide (i5 < (ilen a3)) then
 (bif inb i5 (List.length a3) then
 (bif (List.getD a3 (Int.toNat i5) 0) != k4 then
 K0
 else
 (Zc8 N a3 K0 K1 n (iadd .i64 k4 1) (iadd .i64 i5 1))) else none)
 else
 (K1 k4 i5 (decide (i5 < (ilen a3)))))
noncomputable def Zi7 (N : Nat) (a1 : List Int) (k2 : Int) : Option (Unit × (Int × Unit)) :=
    (Zc8 N a1
 (some ((), ((-1 : Int), ())))
 (fun k9 i10 t11 =>
   (some ((), (k9, ()))))
  N k2 0)
noncomputable def Zc9 {R : Type} (N : Nat) (a3 : List (Int × Int)) (K0 : Option R) (K1 : Int → Int → Bool → Option R) : Nat → Int → Int → Option R
  | 0, _, _ => none
  | n + 1, k4, i5 =>
    (bif decide (i5 < (ilen a3)) then
 (bif inb i5 (List.length a3) then
 (bif (List.getD a3 (Int.toNat i5) (0, 0)).1 != k4 then
 K0
 else
 (bif inb i5 (List.length a3) then
 (bif (List.getD a3 (Int.toNat i5) (0, 0)).2 != (iadd .i64 k4 1) then
 K0
 else
 (Zc9 N a3 K0 K1 n (iadd .i64 (iadd .i64 k4 1) 1) (iadd .i64 i5 1))) else none)) else none)
 else
 (K1 k4 i5 (decide (i5 < (ilen a3)))))
noncomputable def Zi8 (N : Nat) (a1 : List (Int × Int)) (k2 : Int) : Option (Unit × (Int × Unit)) :=
    (Zc9 N a1
 (some ((), ((-1 : Int), ())))
 (fun k9 i10 t11 =>
   (some ((), (k9, ()))))
  N k2 0)
noncomputable def Za4 {R : Type} (N : Nat) (s3 : List Int) (v4 : Int) (K0 : Int → Option R) (K1 : Int → Bool → Option R) : Nat → Int → Option R
  | 0, _ => none
  | n + 1, t6 =>
    (bif decide (t6 < (ilen s3)) then
 (bif inb t6 (List.length s3) then
 (bif v4 == (List.getD s3 (Int.toNat t6) 0) then
 (K0 t6)
 else
 (Za4 N s3 v4 K0 K1 n (iadd .i64 t6 1))) else none)
 else
 (K1 t6 (decide (t6 < (ilen s3)))))
noncomputable def Zaj (N : Nat) (s1 : List Int) (v2 : Int) : Option (Unit × (Int × Unit)) :=
    (Za4 N s1 v2
 (fun t10 =>
   (some ((), (t10, ()))))
 (fun t11 t12 =>
   (some ((), ((-1 : Int), ()))))
  N 0)
noncomputable def Zea (N : Nat) (s1 : List Int) (v2 : Int) : Option (Unit × (Bool × Unit)) :=
    ((Zaj N s1 v2).bind fun o3 =>
 (some ((), (decide (o3.2.1 ≥ 0), ()))))
noncomputable def Zg7 (N : Nat) (a1 : List (Int × Int × Int × Int)) (left2 : Int) : Option (Unit × (Int × Unit)) :=
    (bif decide ((isub .i64 left2 (ilen a1)) < 0) then
 (some ((), ((-1 : Int), ())))
 else
 (some ((), (isub .i64 left2 (ilen a1), ()))))
noncomputable def Zg8 (N : Nat) (a1 : List (Int × Int × Int × Int)) (left2 : Int) : Option (Unit × (Int × Unit)) :=
    ((Zg7 N a1 left2).bind fun o3 =>
 (bif decide (o3.2.1 < 0) then
 (some ((), ((-1 : Int), ())))
 else
 (some ((), (o3.2.1, ())))))
noncomputable def Zbk {R : Type} (N : Nat) (a3 : List (List (Int × Int × Int × Int))) (K0 : Option R) (K1 : Int → Int → Bool → Option R) : Nat → Int → Int → Option R
  | 0, _, _ => none
  | n + 1, left4, i5 =>
    (bif decide (i5 < (ilen a3)) then
 (bif inb i5 (List.length a3) then
 ((Zg8 N (List.getD a3 (Int.toNat i5) ([] : List (Int × Int × Int × Int))) left4).bind fun o10 =>
 (bif decide (o10.2.1 < 0) then
 K0
 else
 (Zbk N a3 K0 K1 n o10.2.1 (iadd .i64 i5 1)))) else none)
 else
 (K1 left4 i5 (decide (i5 < (ilen a3)))))
noncomputable def Zcy (N : Nat) (a1 : List (List (Int × Int × Int × Int))) (left2 : Int) : Option (Unit × (Int × Unit)) :=
    (bif decide ((isub .i64 left2 (ilen a1)) < 0) then
 (some ((), ((-1 : Int), ())))
 else
 (Zbk N a1
 (some ((), ((-1 : Int), ())))
 (fun left11 i12 t13 =>
   (some ((), (left11, ()))))
  N (isub .i64 left2 (ilen a1)) 0))
noncomputable def Zih (N : Nat) (a1 : Int × Int × Int × Int) : Option (Unit × ((Int × Int × Int × Int) × Unit)) :=
    (some ((), (a1, ())))
noncomputable def Zb2 {R : Type} (N : Nat) (a2 : List (Int × Int × Int × Int)) (K0 : Int → Bool → (List (Int × Int × Int × Int)) → Option R) : Nat → Int → (List (Int × Int × Int × Int)) → Option R
  | 0, _, _ => none
  | n + 1, i3, l4 =>
    (bif decide (i3 < (ilen a2)) then
 (bif inb i3 (List.length a2) then
 ((Zih N (List.getD a2 (Int.toNat i3) (0, 0, 0, 0))).bind fun o9 =>
 (bif inb i3 (List.length l4) then
 (Zb2 N a2 K0 n (iadd .i64 i3 1) (List.set l4 (Int.toNat i3) o9.2.1)) else none)) else none)
 else
 (K0 i3 (decide (i3 < (ilen a2))) l4))
noncomputable def Zdg (N : Nat) (a1 : List (Int × Int × Int × Int)) : Option (Unit × ((List (Int × Int × Int × Int)) × Unit)) :=
    (bif ((decide ((0 : Int) ≤ (ilen a1))) && (decide ((ilen a1) ≤ (ilen a1)))) && (room (Int.toNat (ilen a1))) then
 (Zb2 N a1
 (fun i10 t11 l12 =>
   (some ((), (l12, ()))))
  N 0 (List.replicate (Int.toNat (ilen a1)) (0, 0, 0, 0))) else none)
noncomputable def Zg9 (N : Nat) (a1 : List (Int × Int × Int × Int)) : Option (Unit × ((List (Int × Int × Int × Int)) × Unit)) :=
    ((Zdg N a1).bind fun o2 =>
 (some ((), (o2.2.1, ()))))
noncomputable def Zbl {R : Type} (N : Nat) (a2 : List (List (Int × Int × Int × Int))) (K0 : Int → Bool → (List (List (Int × Int × Int × Int))) → Option R) : Nat → Int → (List (List (Int × Int × Int × Int))) → Option R
  | 0, _, _ => none
  | n + 1, i3, l4 =>
    (bif decide (i3 < (ilen a2)) then
 (bif inb i3 (List.length a2) then
 ((Zg9 N (List.getD a2 (Int.toNat i3) ([] : List (Int × Int × Int × Int)))).bind fun o9 =>
 (bif inb i3 (List.length l4) then
 (Zbl N a2 K0 n (iadd .i64 i3 1) (List.set l4 (Int.toNat i3) o9.2.1)) else none)) else none)
 else
 (K0 i3 (decide (i3 < (ilen a2))) l4))
noncomputable def Zbc (N : Nat) (a1 : List (List (Int × Int × Int × Int))) : Option (Unit × ((List (List (Int × Int × Int × Int))) × Unit)) :=
    (bif ((decide ((0 : Int) ≤ (ilen a1))) && (decide ((ilen a1) ≤ (ilen a1)))) && (room (Int.toNat (ilen a1))) then
 (Zbl N a1
 (fun i10 t11 l12 =>
   (some ((), (l12, ()))))
  N 0 (List.replicate (Int.toNat (ilen a1)) ([] : List (Int × Int × Int × Int)))) else none)
noncomputable def Zbm {R : Type} (N : Nat) (l2 : List Int) (K0 : Option R) (K1 : Int → Bool → Option R) : Nat → Int → Option R
  | 0, _ => none
  | n + 1, i3 =>
    (bif decide (i3 < (ilen l2)) then
 (bif inb i3 (List.length l2) then
 ((Zdf N (List.getD l2 (Int.toNat i3) 0)).bind fun o7 =>
 (bif !o7.2.1 then
 K0
 else
 (Zbm N l2 K0 K1 n (iadd .i64 i3 1)))) else none)
 else
 (K1 i3 (decide (i3 < (ilen l2)))))
noncomputable def Zar (N : Nat) (l1 : List Int) : Option (Unit × (Bool × Unit)) :=
    (bif (ilen l1) != 4 then
 (some ((), (false, ())))
 else
 (Zbm N l1
 (some ((), (false, ())))
 (fun i8 t9 =>
   (some ((), (true, ()))))
  N 0))
noncomputable def Za (N : Nat) (i1 : Int) : Option (Unit × (Bool × Unit)) :=
    ((Zd N i1 0 3).bind fun o2 =>
 (some ((), (o2.2.1, ()))))
noncomputable def Zk (N : Nat) (o1 : Int × Int × Int × Int) : Option (Unit × (Bool × Unit)) :=
    (bif o1.1 == 1 then
 ((Za N o1.2.1).bind fun o2 =>
 (bif o2.2.1 then
 ((Zdf N o1.2.2.1).bind fun o3 =>
 (bif o3.2.1 then
 (some ((), (o1.2.2.2 == 0, ())))
 else
 (some ((), (false, ())))))
 else
 (some ((), (false, ())))))
 else
 (bif o1.1 == 2 then
 (bif o1.1 == 2 then
 ((Za N o1.2.1).bind fun o4 =>
 (bif o4.2.1 then
 ((Za N o1.2.2.1).bind fun o5 =>
 (bif o5.2.1 then
 ((Za N o1.2.2.2).bind fun o6 =>
 (some ((), (o6.2.1, ()))))
 else
 (some ((), (false, ())))))
 else
 (some ((), (false, ())))))
 else
 (bif o1.1 == 5 then
 ((Za N o1.2.1).bind fun o7 =>
 (bif o7.2.1 then
 ((Zap N o1.2.2.1).bind fun o8 =>
 (bif o8.2.1 then
 (some ((), (o1.2.2.2 == 0, ())))
 else
 (some ((), (false, ())))))
 else
 (some ((), (false, ())))))
 else
 (bif o1.1 == 6 then
 ((Zap N o1.2.1).bind fun o9 =>
 (bif o9.2.1 then
 ((Za N o1.2.2.1).bind fun o10 =>
 (bif o10.2.1 then
 (some ((), (o1.2.2.2 == 0, ())))
 else
 (some ((), (false, ())))))
 else
 (some ((), (false, ())))))
 else
 (bif o1.1 == 7 then
 ((Za N o1.2.1).bind fun o11 =>
 (bif o11.2.1 then
 ((Zd N o1.2.2.1 1 20).bind fun o12 =>
 (bif o12.2.1 then
 (some ((), (o1.2.2.2 == 0, ())))
 else
 (some ((), (false, ())))))
 else
 (some ((), (false, ())))))
 else
 (bif o1.1 == 8 then
 (bif o1.1 == 8 then
 ((Za N o1.2.1).bind fun o13 =>
 (bif o13.2.1 then
 (bif o1.2.2.1 == 0 then
 (some ((), (o1.2.2.2 == 0, ())))
 else
 (some ((), (false, ()))))
 else
 (some ((), (false, ())))))
 else
 (bif o1.1 == 9 then
 (bif o1.1 == 9 then
 (bif o1.2.1 == 0 then
 (bif o1.2.2.1 == 0 then
 (some ((), (o1.2.2.2 == 0, ())))
 else
 (some ((), (false, ()))))
 else
 (some ((), (false, ()))))
 else
 (bif o1.1 == 12 then
 ((Zd N o1.2.1 0 7).bind fun o14 =>
 (bif o14.2.1 then
 ((Za N o1.2.2.1).bind fun o15 =>
 (bif o15.2.1 then
 ((Za N o1.2.2.2).bind fun o16 =>
 (some ((), (o16.2.1, ()))))
 else
 (some ((), (false, ())))))
 else
 (some ((), (false, ())))))
 else
 (bif o1.1 == 13 then
 ((Za N o1.2.1).bind fun o17 =>
 (bif o17.2.1 then
 ((Zd N o1.2.2.1 0 7).bind fun o18 =>
 (bif o18.2.1 then
 (some ((), (o1.2.2.2 == 0, ())))
 else
 (some ((), (false, ())))))
 else
 (some ((), (false, ())))))
 else
 (bif o1.1 == 14 then
 ((Zd N o1.2.1 0 7).bind fun o19 =>
 (bif o19.2.1 then
 ((Za N o1.2.2.1).bind fun o20 =>
 (bif o20.2.1 then
 (some ((), (o1.2.2.2 == 0, ())))
 else
 (some ((), (false, ())))))
 else
 (some ((), (false, ())))))
 else
 (some ((), (false, ())))))))
 else
 (bif o1.1 == 10 then
 (bif o1.1 == 10 then
 (bif o1.2.1 == 0 then
 (bif o1.2.2.1 == 0 then
 (some ((), (o1.2.2.2 == 0, ())))
 else
 (some ((), (false, ()))))
 else
 (some ((), (false, ()))))
 else
 (bif o1.1 == 12 then
 ((Zd N o1.2.1 0 7).bind fun o21 =>
 (bif o21.2.1 then
 ((Za N o1.2.2.1).bind fun o22 =>
 (bif o22.2.1 then
 ((Za N o1.2.2.2).bind fun o23 =>
 (some ((), (o23.2.1, ()))))
 else
 (some ((), (false, ())))))
 else
 (some ((), (false, ())))))
 else
 (bif o1.1 == 13 then
 ((Za N o1.2.1).bind fun o24 =>
 (bif o24.2.1 then
 ((Zd N o1.2.2.1 0 7).bind fun o25 =>
 (bif o25.2.1 then
 (some ((), (o1.2.2.2 == 0, ())))
 else
 (some ((), (false, ())))))
 else
 (some ((), (false, ())))))
 else
 (bif o1.1 == 14 then
 ((Zd N o1.2.1 0 7).bind fun o26 =>
 (bif o26.2.1 then
 ((Za N o1.2.2.1).bind fun o27 =>
 (bif o27.2.1 then
 (some ((), (o1.2.2.2 == 0, ())))
 else
 (some ((), (false, ())))))
 else
 (some ((), (false, ())))))
 else
 (some ((), (false, ())))))))
 else
 (bif o1.1 == 11 then
 (bif o1.2.1 == 0 then
 (bif o1.2.2.1 == 0 then
 (some ((), (o1.2.2.2 == 0, ())))
 else
 (some ((), (false, ()))))
 else
 (some ((), (false, ()))))
 else
 (bif o1.1 == 12 then
 ((Zd N o1.2.1 0 7).bind fun o28 =>
 (bif o28.2.1 then
 ((Za N o1.2.2.1).bind fun o29 =>
 (bif o29.2.1 then
 ((Za N o1.2.2.2).bind fun o30 =>
 (some ((), (o30.2.1, ()))))
 else
 (some ((), (false, ())))))
 else
 (some ((), (false, ())))))
 else
 (bif o1.1 == 13 then
 ((Za N o1.2.1).bind fun o31 =>
 (bif o31.2.1 then
 ((Zd N o1.2.2.1 0 7).bind fun o32 =>
 (bif o32.2.1 then
 (some ((), (o1.2.2.2 == 0, ())))
 else
 (some ((), (false, ())))))
 else
 (some ((), (false, ())))))
 else
 (bif o1.1 == 14 then
 ((Zd N o1.2.1 0 7).bind fun o33 =>
 (bif o33.2.1 then
 ((Za N o1.2.2.1).bind fun o34 =>
 (bif o34.2.1 then
 (some ((), (o1.2.2.2 == 0, ())))
 else
 (some ((), (false, ())))))
 else
 (some ((), (false, ())))))
 else
 (some ((), (false, ()))))))))))
 else
 (bif o1.1 == 15 then
 (bif o1.1 == 15 then
 ((Za N o1.2.1).bind fun o35 =>
 (bif o35.2.1 then
 (bif o1.2.2.1 == 0 then
 (some ((), (o1.2.2.2 == 0, ())))
 else
 (some ((), (false, ()))))
 else
 (some ((), (false, ())))))
 else
 (bif o1.1 == 9 then
 (bif o1.1 == 9 then
 (bif o1.2.1 == 0 then
 (bif o1.2.2.1 == 0 then
 (some ((), (o1.2.2.2 == 0, ())))
 else
 (some ((), (false, ()))))
 else
 (some ((), (false, ()))))
 else
 (bif o1.1 == 12 then
 ((Zd N o1.2.1 0 7).bind fun o36 =>
 (bif o36.2.1 then
 ((Za N o1.2.2.1).bind fun o37 =>
 (bif o37.2.1 then
 ((Za N o1.2.2.2).bind fun o38 =>
 (some ((), (o38.2.1, ()))))
 else
 (some ((), (false, ())))))
 else
 (some ((), (false, ())))))
 else
 (bif o1.1 == 13 then
 ((Za N o1.2.1).bind fun o39 =>
 (bif o39.2.1 then
 ((Zd N o1.2.2.1 0 7).bind fun o40 =>
 (bif o40.2.1 then
 (some ((), (o1.2.2.2 == 0, ())))
 else
 (some ((), (false, ())))))
 else
 (some ((), (false, ())))))
 else
 (bif o1.1 == 14 then
 ((Zd N o1.2.1 0 7).bind fun o41 =>
 (bif o41.2.1 then
 ((Za N o1.2.2.1).bind fun o42 =>
 (bif o42.2.1 then
 (some ((), (o1.2.2.2 == 0, ())))
 else
 (some ((), (false, ())))))
 else
 (some ((), (false, ())))))
 else
 (some ((), (false, ())))))))
 else
 (bif o1.1 == 10 then
 (bif o1.1 == 10 then
 (bif o1.2.1 == 0 then
 (bif o1.2.2.1 == 0 then
 (some ((), (o1.2.2.2 == 0, ())))
 else
 (some ((), (false, ()))))
 else
 (some ((), (false, ()))))
 else
 (bif o1.1 == 12 then
 ((Zd N o1.2.1 0 7).bind fun o43 =>
 (bif o43.2.1 then
 ((Za N o1.2.2.1).bind fun o44 =>
 (bif o44.2.1 then
 ((Za N o1.2.2.2).bind fun o45 =>
 (some ((), (o45.2.1, ()))))
 else
 (some ((), (false, ())))))
 else
 (some ((), (false, ())))))
 else
 (bif o1.1 == 13 then
 ((Za N o1.2.1).bind fun o46 =>
 (bif o46.2.1 then
 ((Zd N o1.2.2.1 0 7).bind fun o47 =>
 (bif o47.2.1 then
 (some ((), (o1.2.2.2 == 0, ())))
 else
 (some ((), (false, ())))))
 else
 (some ((), (false, ())))))
 else
 (bif o1.1 == 14 then
 ((Zd N o1.2.1 0 7).bind fun o48 =>
 (bif o48.2.1 then
 ((Za N o1.2.2.1).bind fun o49 =>
 (bif o49.2.1 then
 (some ((), (o1.2.2.2 == 0, ())))
 else
 (some ((), (false, ())))))
 else
 (some ((), (false, ())))))
 else
 (some ((), (false, ())))))))
 else
 (bif o1.1 == 11 then
 (bif o1.2.1 == 0 then
 (bif o1.2.2.1 == 0 then
 (some ((), (o1.2.2.2 == 0, ())))
 else
 (some ((), (false, ()))))
 else
 (some ((), (false, ()))))
 else
 (bif o1.1 == 12 then
 ((Zd N o1.2.1 0 7).bind fun o50 =>
 (bif o50.2.1 then
 ((Za N o1.2.2.1).bind fun o51 =>
 (bif o51.2.1 then
 ((Za N o1.2.2.2).bind fun o52 =>
 (some ((), (o52.2.1, ()))))
 else
 (some ((), (false, ())))))
 else
 (some ((), (false, ())))))
 else
 (bif o1.1 == 13 then
 ((Za N o1.2.1).bind fun o53 =>
 (bif o53.2.1 then
 ((Zd N o1.2.2.1 0 7).bind fun o54 =>
 (bif o54.2.1 then
 (some ((), (o1.2.2.2 == 0, ())))
 else
 (some ((), (false, ())))))
 else
 (some ((), (false, ())))))
 else
 (bif o1.1 == 14 then
 ((Zd N o1.2.1 0 7).bind fun o55 =>
 (bif o55.2.1 then
 ((Za N o1.2.2.1).bind fun o56 =>
 (bif o56.2.1 then
 (some ((), (o1.2.2.2 == 0, ())))
 else
 (some ((), (false, ())))))
 else
 (some ((), (false, ())))))
 else
 (some ((), (false, ()))))))))))
 else
 (bif o1.1 == 16 then
 ((Za N o1.2.1).bind fun o57 =>
 (bif o57.2.1 then
 (bif o1.2.2.1 == 0 then
 (some ((), (o1.2.2.2 == 0, ())))
 else
 (some ((), (false, ()))))
 else
 (some ((), (false, ())))))
 else
 (bif o1.1 == 9 then
 (bif o1.1 == 9 then
 (bif o1.2.1 == 0 then
 (bif o1.2.2.1 == 0 then
 (some ((), (o1.2.2.2 == 0, ())))
 else
 (some ((), (false, ()))))
 else
 (some ((), (false, ()))))
 else
 (bif o1.1 == 12 then
 ((Zd N o1.2.1 0 7).bind fun o58 =>
 (bif o58.2.1 then
 ((Za N o1.2.2.1).bind fun o59 =>
 (bif o59.2.1 then
 ((Za N o1.2.2.2).bind fun o60 =>
 (some ((), (o60.2.1, ()))))
 else
 (some ((), (false, ())))))
 else
 (some ((), (false, ())))))
 else
 (bif o1.1 == 13 then
 ((Za N o1.2.1).bind fun o61 =>
 (bif o61.2.1 then
 ((Zd N o1.2.2.1 0 7).bind fun o62 =>
 (bif o62.2.1 then
 (some ((), (o1.2.2.2 == 0, ())))
 else
 (some ((), (false, ())))))
 else
 (some ((), (false, ())))))
 else
 (bif o1.1 == 14 then
 ((Zd N o1.2.1 0 7).bind fun o63 =>
 (bif o63.2.1 then
 ((Za N o1.2.2.1).bind fun o64 =>
 (bif o64.2.1 then
 (some ((), (o1.2.2.2 == 0, ())))
 else
 (some ((), (false, ())))))
 else
 (some ((), (false, ())))))
 else
 (some ((), (false, ())))))))
 else
 (bif o1.1 == 10 then
 (bif o1.1 == 10 then
 (bif o1.2.1 == 0 then
 (bif o1.2.2.1 == 0 then
 (some ((), (o1.2.2.2 == 0, ())))
 else
 (some ((), (false, ()))))
 else
 (some ((), (false, ()))))
 else
 (bif o1.1 == 12 then
 ((Zd N o1.2.1 0 7).bind fun o65 =>
 (bif o65.2.1 then
 ((Za N o1.2.2.1).bind fun o66 =>
 (bif o66.2.1 then
 ((Za N o1.2.2.2).bind fun o67 =>
 (some ((), (o67.2.1, ()))))
 else
 (some ((), (false, ())))))
 else
 (some ((), (false, ())))))
 else
 (bif o1.1 == 13 then
 ((Za N o1.2.1).bind fun o68 =>
 (bif o68.2.1 then
 ((Zd N o1.2.2.1 0 7).bind fun o69 =>
 (bif o69.2.1 then
 (some ((), (o1.2.2.2 == 0, ())))
 else
 (some ((), (false, ())))))
 else
 (some ((), (false, ())))))
 else
 (bif o1.1 == 14 then
 ((Zd N o1.2.1 0 7).bind fun o70 =>
 (bif o70.2.1 then
 ((Za N o1.2.2.1).bind fun o71 =>
 (bif o71.2.1 then
 (some ((), (o1.2.2.2 == 0, ())))
 else
 (some ((), (false, ())))))
 else
 (some ((), (false, ())))))
 else
 (some ((), (false, ())))))))
 else
 (bif o1.1 == 11 then
 (bif o1.2.1 == 0 then
 (bif o1.2.2.1 == 0 then
 (some ((), (o1.2.2.2 == 0, ())))
 else
 (some ((), (false, ()))))
 else
 (some ((), (false, ()))))
 else
 (bif o1.1 == 12 then
 ((Zd N o1.2.1 0 7).bind fun o72 =>
 (bif o72.2.1 then
 ((Za N o1.2.2.1).bind fun o73 =>
 (bif o73.2.1 then
 ((Za N o1.2.2.2).bind fun o74 =>
 (some ((), (o74.2.1, ()))))
 else
 (some ((), (false, ())))))
 else
 (some ((), (false, ())))))
 else
 (bif o1.1 == 13 then
 ((Za N o1.2.1).bind fun o75 =>
 (bif o75.2.1 then
 ((Zd N o1.2.2.1 0 7).bind fun o76 =>
 (bif o76.2.1 then
 (some ((), (o1.2.2.2 == 0, ())))
 else
 (some ((), (false, ())))))
 else
 (some ((), (false, ())))))
 else
 (bif o1.1 == 14 then
 ((Zd N o1.2.1 0 7).bind fun o77 =>
 (bif o77.2.1 then
 ((Za N o1.2.2.1).bind fun o78 =>
 (bif o78.2.1 then
 (some ((), (o1.2.2.2 == 0, ())))
 else
 (some ((), (false, ())))))
 else
 (some ((), (false, ())))))
 else
 (some ((), (false, ()))))))))))))))))
 else
 (bif o1.1 == 3 then
 (bif o1.1 == 3 then
 ((Za N o1.2.1).bind fun o79 =>
 (bif o79.2.1 then
 ((Za N o1.2.2.1).bind fun o80 =>
 (bif o80.2.1 then
 ((Za N o1.2.2.2).bind fun o81 =>
 (some ((), (o81.2.1, ()))))
 else
 (some ((), (false, ())))))
 else
 (some ((), (false, ())))))
 else
 (bif o1.1 == 5 then
 ((Za N o1.2.1).bind fun o82 =>
 (bif o82.2.1 then
 ((Zap N o1.2.2.1).bind fun o83 =>
 (bif o83.2.1 then
 (some ((), (o1.2.2.2 == 0, ())))
 else
 (some ((), (false, ())))))
 else
 (some ((), (false, ())))))
 else
 (bif o1.1 == 6 then
 ((Zap N o1.2.1).bind fun o84 =>
 (bif o84.2.1 then
 ((Za N o1.2.2.1).bind fun o85 =>
 (bif o85.2.1 then
 (some ((), (o1.2.2.2 == 0, ())))
 else
 (some ((), (false, ())))))
 else
 (some ((), (false, ())))))
 else
 (bif o1.1 == 7 then
 ((Za N o1.2.1).bind fun o86 =>
 (bif o86.2.1 then
 ((Zd N o1.2.2.1 1 20).bind fun o87 =>
 (bif o87.2.1 then
 (some ((), (o1.2.2.2 == 0, ())))
 else
 (some ((), (false, ())))))
 else
 (some ((), (false, ())))))
 else
 (bif o1.1 == 8 then
 (bif o1.1 == 8 then
 ((Za N o1.2.1).bind fun o88 =>
 (bif o88.2.1 then
 (bif o1.2.2.1 == 0 then
 (some ((), (o1.2.2.2 == 0, ())))
 else
 (some ((), (false, ()))))
 else
 (some ((), (false, ())))))
 else
 (bif o1.1 == 9 then
 (bif o1.1 == 9 then
 (bif o1.2.1 == 0 then
 (bif o1.2.2.1 == 0 then
 (some ((), (o1.2.2.2 == 0, ())))
 else
 (some ((), (false, ()))))
 else
 (some ((), (false, ()))))
 else
 (bif o1.1 == 12 then
 ((Zd N o1.2.1 0 7).bind fun o89 =>
 (bif o89.2.1 then
 ((Za N o1.2.2.1).bind fun o90 =>
 (bif o90.2.1 then
 ((Za N o1.2.2.2).bind fun o91 =>
 (some ((), (o91.2.1, ()))))
 else
 (some ((), (false, ())))))
 else
 (some ((), (false, ())))))
 else
 (bif o1.1 == 13 then
 ((Za N o1.2.1).bind fun o92 =>
 (bif o92.2.1 then
 ((Zd N o1.2.2.1 0 7).bind fun o93 =>
 (bif o93.2.1 then
 (some ((), (o1.2.2.2 == 0, ())))
 else
 (some ((), (false, ())))))
 else
 (some ((), (false, ())))))
 else
 (bif o1.1 == 14 then
 ((Zd N o1.2.1 0 7).bind fun o94 =>
 (bif o94.2.1 then
 ((Za N o1.2.2.1).bind fun o95 =>
 (bif o95.2.1 then
 (some ((), (o1.2.2.2 == 0, ())))
 else
 (some ((), (false, ())))))
 else
 (some ((), (false, ())))))
 else
 (some ((), (false, ())))))))
 else
 (bif o1.1 == 10 then
 (bif o1.1 == 10 then
 (bif o1.2.1 == 0 then
 (bif o1.2.2.1 == 0 then
 (some ((), (o1.2.2.2 == 0, ())))
 else
 (some ((), (false, ()))))
 else
 (some ((), (false, ()))))
 else
 (bif o1.1 == 12 then
 ((Zd N o1.2.1 0 7).bind fun o96 =>
 (bif o96.2.1 then
 ((Za N o1.2.2.1).bind fun o97 =>
 (bif o97.2.1 then
 ((Za N o1.2.2.2).bind fun o98 =>
 (some ((), (o98.2.1, ()))))
 else
 (some ((), (false, ())))))
 else
 (some ((), (false, ())))))
 else
 (bif o1.1 == 13 then
 ((Za N o1.2.1).bind fun o99 =>
 (bif o99.2.1 then
 ((Zd N o1.2.2.1 0 7).bind fun o100 =>
 (bif o100.2.1 then
 (some ((), (o1.2.2.2 == 0, ())))
 else
 (some ((), (false, ())))))
 else
 (some ((), (false, ())))))
 else
 (bif o1.1 == 14 then
 ((Zd N o1.2.1 0 7).bind fun o101 =>
 (bif o101.2.1 then
 ((Za N o1.2.2.1).bind fun o102 =>
 (bif o102.2.1 then
 (some ((), (o1.2.2.2 == 0, ())))
 else
 (some ((), (false, ())))))
 else
 (some ((), (false, ())))))
 else
 (some ((), (false, ())))))))
 else
 (bif o1.1 == 11 then
 (bif o1.2.1 == 0 then
 (bif o1.2.2.1 == 0 then
 (some ((), (o1.2.2.2 == 0, ())))
 else
 (some ((), (false, ()))))
 else
 (some ((), (false, ()))))
 else
 (bif o1.1 == 12 then
 ((Zd N o1.2.1 0 7).bind fun o103 =>
 (bif o103.2.1 then
 ((Za N o1.2.2.1).bind fun o104 =>
 (bif o104.2.1 then
 ((Za N o1.2.2.2).bind fun o105 =>
 (some ((), (o105.2.1, ()))))
 else
 (some ((), (false, ())))))
 else
 (some ((), (false, ())))))
 else
 (bif o1.1 == 13 then
 ((Za N o1.2.1).bind fun o106 =>
 (bif o106.2.1 then
 ((Zd N o1.2.2.1 0 7).bind fun o107 =>
 (bif o107.2.1 then
 (some ((), (o1.2.2.2 == 0, ())))
 else
 (some ((), (false, ())))))
 else
 (some ((), (false, ())))))
 else
 (bif o1.1 == 14 then
 ((Zd N o1.2.1 0 7).bind fun o108 =>
 (bif o108.2.1 then
 ((Za N o1.2.2.1).bind fun o109 =>
 (bif o109.2.1 then
 (some ((), (o1.2.2.2 == 0, ())))
 else
 (some ((), (false, ())))))
 else
 (some ((), (false, ())))))
 else
 (some ((), (false, ()))))))))))
 else
 (bif o1.1 == 15 then
 (bif o1.1 == 15 then
 ((Za N o1.2.1).bind fun o110 =>
 (bif o110.2.1 then
 (bif o1.2.2.1 == 0 then
 (some ((), (o1.2.2.2 == 0, ())))
 else
 (some ((), (false, ()))))
 else
 (some ((), (false, ())))))
 else
 (bif o1.1 == 9 then
 (bif o1.1 == 9 then
 (bif o1.2.1 == 0 then
 (bif o1.2.2.1 == 0 then
 (some ((), (o1.2.2.2 == 0, ())))
 else
 (some ((), (false, ()))))
 else
 (some ((), (false, ()))))
 else
 (bif o1.1 == 12 then
 ((Zd N o1.2.1 0 7).bind fun o111 =>
 (bif o111.2.1 then
 ((Za N o1.2.2.1).bind fun o112 =>
 (bif o112.2.1 then
 ((Za N o1.2.2.2).bind fun o113 =>
 (some ((), (o113.2.1, ()))))
 else
 (some ((), (false, ())))))
 else
 (some ((), (false, ())))))
 else
 (bif o1.1 == 13 then
 ((Za N o1.2.1).bind fun o114 =>
 (bif o114.2.1 then
 ((Zd N o1.2.2.1 0 7).bind fun o115 =>
 (bif o115.2.1 then
 (some ((), (o1.2.2.2 == 0, ())))
 else
 (some ((), (false, ())))))
 else
 (some ((), (false, ())))))
 else
 (bif o1.1 == 14 then
 ((Zd N o1.2.1 0 7).bind fun o116 =>
 (bif o116.2.1 then
 ((Za N o1.2.2.1).bind fun o117 =>
 (bif o117.2.1 then
 (some ((), (o1.2.2.2 == 0, ())))
 else
 (some ((), (false, ())))))
 else
 (some ((), (false, ())))))
 else
 (some ((), (false, ())))))))
 else
 (bif o1.1 == 10 then
 (bif o1.1 == 10 then
 (bif o1.2.1 == 0 then
 (bif o1.2.2.1 == 0 then
 (some ((), (o1.2.2.2 == 0, ())))
 else
 (some ((), (false, ()))))
 else
 (some ((), (false, ()))))
 else
 (bif o1.1 == 12 then
 ((Zd N o1.2.1 0 7).bind fun o118 =>
 (bif o118.2.1 then
 ((Za N o1.2.2.1).bind fun o119 =>
 (bif o119.2.1 then
 ((Za N o1.2.2.2).bind fun o120 =>
 (some ((), (o120.2.1, ()))))
 else
 (some ((), (false, ())))))
 else
 (some ((), (false, ())))))
 else
 (bif o1.1 == 13 then
 ((Za N o1.2.1).bind fun o121 =>
 (bif o121.2.1 then
 ((Zd N o1.2.2.1 0 7).bind fun o122 =>
 (bif o122.2.1 then
 (some ((), (o1.2.2.2 == 0, ())))
 else
 (some ((), (false, ())))))
 else
 (some ((), (false, ())))))
 else
 (bif o1.1 == 14 then
 ((Zd N o1.2.1 0 7).bind fun o123 =>
 (bif o123.2.1 then
 ((Za N o1.2.2.1).bind fun o124 =>
 (bif o124.2.1 then
 (some ((), (o1.2.2.2 == 0, ())))
 else
 (some ((), (false, ())))))
 else
 (some ((), (false, ())))))
 else
 (some ((), (false, ())))))))
 else
 (bif o1.1 == 11 then
 (bif o1.2.1 == 0 then
 (bif o1.2.2.1 == 0 then
 (some ((), (o1.2.2.2 == 0, ())))
 else
 (some ((), (false, ()))))
 else
 (some ((), (false, ()))))
 else
 (bif o1.1 == 12 then
 ((Zd N o1.2.1 0 7).bind fun o125 =>
 (bif o125.2.1 then
 ((Za N o1.2.2.1).bind fun o126 =>
 (bif o126.2.1 then
 ((Za N o1.2.2.2).bind fun o127 =>
 (some ((), (o127.2.1, ()))))
 else
 (some ((), (false, ())))))
 else
 (some ((), (false, ())))))
 else
 (bif o1.1 == 13 then
 ((Za N o1.2.1).bind fun o128 =>
 (bif o128.2.1 then
 ((Zd N o1.2.2.1 0 7).bind fun o129 =>
 (bif o129.2.1 then
 (some ((), (o1.2.2.2 == 0, ())))
 else
 (some ((), (false, ())))))
 else
 (some ((), (false, ())))))
 else
 (bif o1.1 == 14 then
 ((Zd N o1.2.1 0 7).bind fun o130 =>
 (bif o130.2.1 then
 ((Za N o1.2.2.1).bind fun o131 =>
 (bif o131.2.1 then
 (some ((), (o1.2.2.2 == 0, ())))
 else
 (some ((), (false, ())))))
 else
 (some ((), (false, ())))))
 else
 (some ((), (false, ()))))))))))
 else
 (bif o1.1 == 16 then
 ((Za N o1.2.1).bind fun o132 =>
 (bif o132.2.1 then
 (bif o1.2.2.1 == 0 then
 (some ((), (o1.2.2.2 == 0, ())))
 else
 (some ((), (false, ()))))
 else
 (some ((), (false, ())))))
 else
 (bif o1.1 == 9 then
 (bif o1.1 == 9 then
 (bif o1.2.1 == 0 then
 (bif o1.2.2.1 == 0 then
 (some ((), (o1.2.2.2 == 0, ())))
 else
 (some ((), (false, ()))))
 else
 (some ((), (false, ()))))
 else
 (bif o1.1 == 12 then
 ((Zd N o1.2.1 0 7).bind fun o133 =>
 (bif o133.2.1 then
 ((Za N o1.2.2.1).bind fun o134 =>
 (bif o134.2.1 then
 ((Za N o1.2.2.2).bind fun o135 =>
 (some ((), (o135.2.1, ()))))
 else
 (some ((), (false, ())))))
 else
 (some ((), (false, ())))))
 else
 (bif o1.1 == 13 then
 ((Za N o1.2.1).bind fun o136 =>
 (bif o136.2.1 then
 ((Zd N o1.2.2.1 0 7).bind fun o137 =>
 (bif o137.2.1 then
 (some ((), (o1.2.2.2 == 0, ())))
 else
 (some ((), (false, ())))))
 else
 (some ((), (false, ())))))
 else
 (bif o1.1 == 14 then
 ((Zd N o1.2.1 0 7).bind fun o138 =>
 (bif o138.2.1 then
 ((Za N o1.2.2.1).bind fun o139 =>
 (bif o139.2.1 then
 (some ((), (o1.2.2.2 == 0, ())))
 else
 (some ((), (false, ())))))
 else
 (some ((), (false, ())))))
 else
 (some ((), (false, ())))))))
 else
 (bif o1.1 == 10 then
 (bif o1.1 == 10 then
 (bif o1.2.1 == 0 then
 (bif o1.2.2.1 == 0 then
 (some ((), (o1.2.2.2 == 0, ())))
 else
 (some ((), (false, ()))))
 else
 (some ((), (false, ()))))
 else
 (bif o1.1 == 12 then
 ((Zd N o1.2.1 0 7).bind fun o140 =>
 (bif o140.2.1 then
 ((Za N o1.2.2.1).bind fun o141 =>
 (bif o141.2.1 then
 ((Za N o1.2.2.2).bind fun o142 =>
 (some ((), (o142.2.1, ()))))
 else
 (some ((), (false, ())))))
 else
 (some ((), (false, ())))))
 else
 (bif o1.1 == 13 then
 ((Za N o1.2.1).bind fun o143 =>
 (bif o143.2.1 then
 ((Zd N o1.2.2.1 0 7).bind fun o144 =>
 (bif o144.2.1 then
 (some ((), (o1.2.2.2 == 0, ())))
 else
 (some ((), (false, ())))))
 else
 (some ((), (false, ())))))
 else
 (bif o1.1 == 14 then
 ((Zd N o1.2.1 0 7).bind fun o145 =>
 (bif o145.2.1 then
 ((Za N o1.2.2.1).bind fun o146 =>
 (bif o146.2.1 then
 (some ((), (o1.2.2.2 == 0, ())))
 else
 (some ((), (false, ())))))
 else
 (some ((), (false, ())))))
 else
 (some ((), (false, ())))))))
 else
 (bif o1.1 == 11 then
 (bif o1.2.1 == 0 then
 (bif o1.2.2.1 == 0 then
 (some ((), (o1.2.2.2 == 0, ())))
 else
 (some ((), (false, ()))))
 else
 (some ((), (false, ()))))
 else
 (bif o1.1 == 12 then
 ((Zd N o1.2.1 0 7).bind fun o147 =>
 (bif o147.2.1 then
 ((Za N o1.2.2.1).bind fun o148 =>
 (bif o148.2.1 then
 ((Za N o1.2.2.2).bind fun o149 =>
 (some ((), (o149.2.1, ()))))
 else
 (some ((), (false, ())))))
 else
 (some ((), (false, ())))))
 else
 (bif o1.1 == 13 then
 ((Za N o1.2.1).bind fun o150 =>
 (bif o150.2.1 then
 ((Zd N o1.2.2.1 0 7).bind fun o151 =>
 (bif o151.2.1 then
 (some ((), (o1.2.2.2 == 0, ())))
 else
 (some ((), (false, ())))))
 else
 (some ((), (false, ())))))
 else
 (bif o1.1 == 14 then
 ((Zd N o1.2.1 0 7).bind fun o152 =>
 (bif o152.2.1 then
 ((Za N o1.2.2.1).bind fun o153 =>
 (bif o153.2.1 then
 (some ((), (o1.2.2.2 == 0, ())))
 else
 (some ((), (false, ())))))
 else
 (some ((), (false, ())))))
 else
 (some ((), (false, ()))))))))))))))))
 else
 (bif o1.1 == 4 then
 ((Za N o1.2.1).bind fun o154 =>
 (bif o154.2.1 then
 ((Za N o1.2.2.1).bind fun o155 =>
 (bif o155.2.1 then
 ((Za N o1.2.2.2).bind fun o156 =>
 (some ((), (o156.2.1, ()))))
 else
 (some ((), (false, ())))))
 else
 (some ((), (false, ())))))
 else
 (bif o1.1 == 5 then
 ((Za N o1.2.1).bind fun o157 =>
 (bif o157.2.1 then
 ((Zap N o1.2.2.1).bind fun o158 =>
 (bif o158.2.1 then
 (some ((), (o1.2.2.2 == 0, ())))
 else
 (some ((), (false, ())))))
 else
 (some ((), (false, ())))))
 else
 (bif o1.1 == 6 then
 ((Zap N o1.2.1).bind fun o159 =>
 (bif o159.2.1 then
 ((Za N o1.2.2.1).bind fun o160 =>
 (bif o160.2.1 then
 (some ((), (o1.2.2.2 == 0, ())))
 else
 (some ((), (false, ())))))
 else
 (some ((), (false, ())))))
 else
 (bif o1.1 == 7 then
 ((Za N o1.2.1).bind fun o161 =>
 (bif o161.2.1 then
 ((Zd N o1.2.2.1 1 20).bind fun o162 =>
 (bif o162.2.1 then
 (some ((), (o1.2.2.2 == 0, ())))
 else
 (some ((), (false, ())))))
 else
 (some ((), (false, ())))))
 else
 (bif o1.1 == 8 then
 (bif o1.1 == 8 then
 ((Za N o1.2.1).bind fun o163 =>
 (bif o163.2.1 then
 (bif o1.2.2.1 == 0 then
 (some ((), (o1.2.2.2 == 0, ())))
 else
 (some ((), (false, ()))))
 else
 (some ((), (false, ())))))
 else
 (bif o1.1 == 9 then
 (bif o1.1 == 9 then
 (bif o1.2.1 == 0 then
 (bif o1.2.2.1 == 0 then
 (some ((), (o1.2.2.2 == 0, ())))
 else
 (some ((), (false, ()))))
 else
 (some ((), (false, ()))))
 else
 (bif o1.1 == 12 then
 ((Zd N o1.2.1 0 7).bind fun o164 =>
 (bif o164.2.1 then
 ((Za N o1.2.2.1).bind fun o165 =>
 (bif o165.2.1 then
 ((Za N o1.2.2.2).bind fun o166 =>
 (some ((), (o166.2.1, ()))))
 else
 (some ((), (false, ())))))
 else
 (some ((), (false, ())))))
 else
 (bif o1.1 == 13 then
 ((Za N o1.2.1).bind fun o167 =>
 (bif o167.2.1 then
 ((Zd N o1.2.2.1 0 7).bind fun o168 =>
 (bif o168.2.1 then
 (some ((), (o1.2.2.2 == 0, ())))
 else
 (some ((), (false, ())))))
 else
 (some ((), (false, ())))))
 else
 (bif o1.1 == 14 then
 ((Zd N o1.2.1 0 7).bind fun o169 =>
 (bif o169.2.1 then
 ((Za N o1.2.2.1).bind fun o170 =>
 (bif o170.2.1 then
 (some ((), (o1.2.2.2 == 0, ())))
 else
 (some ((), (false, ())))))
 else
 (some ((), (false, ())))))
 else
 (some ((), (false, ())))))))
 else
 (bif o1.1 == 10 then
 (bif o1.1 == 10 then
 (bif o1.2.1 == 0 then
 (bif o1.2.2.1 == 0 then
 (some ((), (o1.2.2.2 == 0, ())))
 else
 (some ((), (false, ()))))
 else
 (some ((), (false, ()))))
 else
 (bif o1.1 == 12 then
 ((Zd N o1.2.1 0 7).bind fun o171 =>
 (bif o171.2.1 then
 ((Za N o1.2.2.1).bind fun o172 =>
 (bif o172.2.1 then
 ((Za N o1.2.2.2).bind fun o173 =>
 (some ((), (o173.2.1, ()))))
 else
 (some ((), (false, ())))))
 else
 (some ((), (false, ())))))
 else
 (bif o1.1 == 13 then
 ((Za N o1.2.1).bind fun o174 =>
 (bif o174.2.1 then
 ((Zd N o1.2.2.1 0 7).bind fun o175 =>
 (bif o175.2.1 then
 (some ((), (o1.2.2.2 == 0, ())))
 else
 (some ((), (false, ())))))
 else
 (some ((), (false, ())))))
 else
 (bif o1.1 == 14 then
 ((Zd N o1.2.1 0 7).bind fun o176 =>
 (bif o176.2.1 then
 ((Za N o1.2.2.1).bind fun o177 =>
 (bif o177.2.1 then
 (some ((), (o1.2.2.2 == 0, ())))
 else
 (some ((), (false, ())))))
 else
 (some ((), (false, ())))))
 else
 (some ((), (false, ())))))))
 else
 (bif o1.1 == 11 then
 (bif o1.2.1 == 0 then
 (bif o1.2.2.1 == 0 then
 (some ((), (o1.2.2.2 == 0, ())))
 else
 (some ((), (false, ()))))
 else
 (some ((), (false, ()))))
 else
 (bif o1.1 == 12 then
 ((Zd N o1.2.1 0 7).bind fun o178 =>
 (bif o178.2.1 then
 ((Za N o1.2.2.1).bind fun o179 =>
 (bif o179.2.1 then
 ((Za N o1.2.2.2).bind fun o180 =>
 (some ((), (o180.2.1, ()))))
 else
 (some ((), (false, ())))))
 else
 (some ((), (false, ())))))
 else
 (bif o1.1 == 13 then
 ((Za N o1.2.1).bind fun o181 =>
 (bif o181.2.1 then
 ((Zd N o1.2.2.1 0 7).bind fun o182 =>
 (bif o182.2.1 then
 (some ((), (o1.2.2.2 == 0, ())))
 else
 (some ((), (false, ())))))
 else
 (some ((), (false, ())))))
 else
 (bif o1.1 == 14 then
 ((Zd N o1.2.1 0 7).bind fun o183 =>
 (bif o183.2.1 then
 ((Za N o1.2.2.1).bind fun o184 =>
 (bif o184.2.1 then
 (some ((), (o1.2.2.2 == 0, ())))
 else
 (some ((), (false, ())))))
 else
 (some ((), (false, ())))))
 else
 (some ((), (false, ()))))))))))
 else
 (bif o1.1 == 15 then
 (bif o1.1 == 15 then
 ((Za N o1.2.1).bind fun o185 =>
 (bif o185.2.1 then
 (bif o1.2.2.1 == 0 then
 (some ((), (o1.2.2.2 == 0, ())))
 else
 (some ((), (false, ()))))
 else
 (some ((), (false, ())))))
 else
 (bif o1.1 == 9 then
 (bif o1.1 == 9 then
 (bif o1.2.1 == 0 then
 (bif o1.2.2.1 == 0 then
 (some ((), (o1.2.2.2 == 0, ())))
 else
 (some ((), (false, ()))))
 else
 (some ((), (false, ()))))
 else
 (bif o1.1 == 12 then
 ((Zd N o1.2.1 0 7).bind fun o186 =>
 (bif o186.2.1 then
 ((Za N o1.2.2.1).bind fun o187 =>
 (bif o187.2.1 then
 ((Za N o1.2.2.2).bind fun o188 =>
 (some ((), (o188.2.1, ()))))
 else
 (some ((), (false, ())))))
 else
 (some ((), (false, ())))))
 else
 (bif o1.1 == 13 then
 ((Za N o1.2.1).bind fun o189 =>
 (bif o189.2.1 then
 ((Zd N o1.2.2.1 0 7).bind fun o190 =>
 (bif o190.2.1 then
 (some ((), (o1.2.2.2 == 0, ())))
 else
 (some ((), (false, ())))))
 else
 (some ((), (false, ())))))
 else
 (bif o1.1 == 14 then
 ((Zd N o1.2.1 0 7).bind fun o191 =>
 (bif o191.2.1 then
 ((Za N o1.2.2.1).bind fun o192 =>
 (bif o192.2.1 then
 (some ((), (o1.2.2.2 == 0, ())))
 else
 (some ((), (false, ())))))
 else
 (some ((), (false, ())))))
 else
 (some ((), (false, ())))))))
 else
 (bif o1.1 == 10 then
 (bif o1.1 == 10 then
 (bif o1.2.1 == 0 then
 (bif o1.2.2.1 == 0 then
 (some ((), (o1.2.2.2 == 0, ())))
 else
 (some ((), (false, ()))))
 else
 (some ((), (false, ()))))
 else
 (bif o1.1 == 12 then
 ((Zd N o1.2.1 0 7).bind fun o193 =>
 (bif o193.2.1 then
 ((Za N o1.2.2.1).bind fun o194 =>
 (bif o194.2.1 then
 ((Za N o1.2.2.2).bind fun o195 =>
 (some ((), (o195.2.1, ()))))
 else
 (some ((), (false, ())))))
 else
 (some ((), (false, ())))))
 else
 (bif o1.1 == 13 then
 ((Za N o1.2.1).bind fun o196 =>
 (bif o196.2.1 then
 ((Zd N o1.2.2.1 0 7).bind fun o197 =>
 (bif o197.2.1 then
 (some ((), (o1.2.2.2 == 0, ())))
 else
 (some ((), (false, ())))))
 else
 (some ((), (false, ())))))
 else
 (bif o1.1 == 14 then
 ((Zd N o1.2.1 0 7).bind fun o198 =>
 (bif o198.2.1 then
 ((Za N o1.2.2.1).bind fun o199 =>
 (bif o199.2.1 then
 (some ((), (o1.2.2.2 == 0, ())))
 else
 (some ((), (false, ())))))
 else
 (some ((), (false, ())))))
 else
 (some ((), (false, ())))))))
 else
 (bif o1.1 == 11 then
 (bif o1.2.1 == 0 then
 (bif o1.2.2.1 == 0 then
 (some ((), (o1.2.2.2 == 0, ())))
 else
 (some ((), (false, ()))))
 else
 (some ((), (false, ()))))
 else
 (bif o1.1 == 12 then
 ((Zd N o1.2.1 0 7).bind fun o200 =>
 (bif o200.2.1 then
 ((Za N o1.2.2.1).bind fun o201 =>
 (bif o201.2.1 then
 ((Za N o1.2.2.2).bind fun o202 =>
 (some ((), (o202.2.1, ()))))
 else
 (some ((), (false, ())))))
 else
 (some ((), (false, ())))))
 else
 (bif o1.1 == 13 then
 ((Za N o1.2.1).bind fun o203 =>
 (bif o203.2.1 then
 ((Zd N o1.2.2.1 0 7).bind fun o204 =>
 (bif o204.2.1 then
 (some ((), (o1.2.2.2 == 0, ())))
 else
 (some ((), (false, ())))))
 else
 (some ((), (false, ())))))
 else
 (bif o1.1 == 14 then
 ((Zd N o1.2.1 0 7).bind fun o205 =>
 (bif o205.2.1 then
 ((Za N o1.2.2.1).bind fun o206 =>
 (bif o206.2.1 then
 (some ((), (o1.2.2.2 == 0, ())))
 else
 (some ((), (false, ())))))
 else
 (some ((), (false, ())))))
 else
 (some ((), (false, ()))))))))))
 else
 (bif o1.1 == 16 then
 ((Za N o1.2.1).bind fun o207 =>
 (bif o207.2.1 then
 (bif o1.2.2.1 == 0 then
 (some ((), (o1.2.2.2 == 0, ())))
 else
 (some ((), (false, ()))))
 else
 (some ((), (false, ())))))
 else
 (bif o1.1 == 9 then
 (bif o1.1 == 9 then
 (bif o1.2.1 == 0 then
 (bif o1.2.2.1 == 0 then
 (some ((), (o1.2.2.2 == 0, ())))
 else
 (some ((), (false, ()))))
 else
 (some ((), (false, ()))))
 else
 (bif o1.1 == 12 then
 ((Zd N o1.2.1 0 7).bind fun o208 =>
 (bif o208.2.1 then
 ((Za N o1.2.2.1).bind fun o209 =>
 (bif o209.2.1 then
 ((Za N o1.2.2.2).bind fun o210 =>
 (some ((), (o210.2.1, ()))))
 else
 (some ((), (false, ())))))
 else
 (some ((), (false, ())))))
 else
 (bif o1.1 == 13 then
 ((Za N o1.2.1).bind fun o211 =>
 (bif o211.2.1 then
 ((Zd N o1.2.2.1 0 7).bind fun o212 =>
 (bif o212.2.1 then
 (some ((), (o1.2.2.2 == 0, ())))
 else
 (some ((), (false, ())))))
 else
 (some ((), (false, ())))))
 else
 (bif o1.1 == 14 then
 ((Zd N o1.2.1 0 7).bind fun o213 =>
 (bif o213.2.1 then
 ((Za N o1.2.2.1).bind fun o214 =>
 (bif o214.2.1 then
 (some ((), (o1.2.2.2 == 0, ())))
 else
 (some ((), (false, ())))))
 else
 (some ((), (false, ())))))
 else
 (some ((), (false, ())))))))
 else
 (bif o1.1 == 10 then
 (bif o1.1 == 10 then
 (bif o1.2.1 == 0 then
 (bif o1.2.2.1 == 0 then
 (some ((), (o1.2.2.2 == 0, ())))
 else
 (some ((), (false, ()))))
 else
 (some ((), (false, ()))))
 else
 (bif o1.1 == 12 then
 ((Zd N o1.2.1 0 7).bind fun o215 =>
 (bif o215.2.1 then
 ((Za N o1.2.2.1).bind fun o216 =>
 (bif o216.2.1 then
 ((Za N o1.2.2.2).bind fun o217 =>
 (some ((), (o217.2.1, ()))))
 else
 (some ((), (false, ())))))
 else
 (some ((), (false, ())))))
 else
 (bif o1.1 == 13 then
 ((Za N o1.2.1).bind fun o218 =>
 (bif o218.2.1 then
 ((Zd N o1.2.2.1 0 7).bind fun o219 =>
 (bif o219.2.1 then
 (some ((), (o1.2.2.2 == 0, ())))
 else
 (some ((), (false, ())))))
 else
 (some ((), (false, ())))))
 else
 (bif o1.1 == 14 then
 ((Zd N o1.2.1 0 7).bind fun o220 =>
 (bif o220.2.1 then
 ((Za N o1.2.2.1).bind fun o221 =>
 (bif o221.2.1 then
 (some ((), (o1.2.2.2 == 0, ())))
 else
 (some ((), (false, ())))))
 else
 (some ((), (false, ())))))
 else
 (some ((), (false, ())))))))
 else
 (bif o1.1 == 11 then
 (bif o1.2.1 == 0 then
 (bif o1.2.2.1 == 0 then
 (some ((), (o1.2.2.2 == 0, ())))
 else
 (some ((), (false, ()))))
 else
 (some ((), (false, ()))))
 else
 (bif o1.1 == 12 then
 ((Zd N o1.2.1 0 7).bind fun o222 =>
 (bif o222.2.1 then
 ((Za N o1.2.2.1).bind fun o223 =>
 (bif o223.2.1 then
 ((Za N o1.2.2.2).bind fun o224 =>
 (some ((), (o224.2.1, ()))))
 else
 (some ((), (false, ())))))
 else
 (some ((), (false, ())))))
 else
 (bif o1.1 == 13 then
 ((Za N o1.2.1).bind fun o225 =>
 (bif o225.2.1 then
 ((Zd N o1.2.2.1 0 7).bind fun o226 =>
 (bif o226.2.1 then
 (some ((), (o1.2.2.2 == 0, ())))
 else
 (some ((), (false, ())))))
 else
 (some ((), (false, ())))))
 else
 (bif o1.1 == 14 then
 ((Zd N o1.2.1 0 7).bind fun o227 =>
 (bif o227.2.1 then
 ((Za N o1.2.2.1).bind fun o228 =>
 (bif o228.2.1 then
 (some ((), (o1.2.2.2 == 0, ())))
 else
 (some ((), (false, ())))))
 else
 (some ((), (false, ())))))
 else
 (some ((), (false, ())))))))))))))))))))
noncomputable def Z7 {R : Type} (N : Nat) (code3 : List (Int × Int × Int × Int)) (to4 : Int) (K0 : Option R) (K1 : Int → Int → Bool → Option R) : Nat → Int → Int → Option R
  | 0, _, _ => none
  | n + 1, d5, k6 =>
    (bif decide (k6 < to4) then
 (bif inb k6 (List.length code3) then
 (bif (List.getD code3 (Int.toNat k6) (0, 0, 0, 0)).1 == 8 then
 (bif inb k6 (List.length code3) then
 (bif (List.getD code3 (Int.toNat k6) (0, 0, 0, 0)).1 == 9 then
 (bif decide ((isub .i64 (iadd .i64 d5 1) 1) < 0) then
 K0
 else
 (Z7 N code3 to4 K0 K1 n (isub .i64 (iadd .i64 d5 1) 1) (iadd .i64 k6 1)))
 else
 (bif decide ((iadd .i64 d5 1) < 0) then
 K0
 else
 (Z7 N code3 to4 K0 K1 n (iadd .i64 d5 1) (iadd .i64 k6 1)))) else none)
 else
 (bif inb k6 (List.length code3) then
 (bif (List.getD code3 (Int.toNat k6) (0, 0, 0, 0)).1 == 9 then
 (bif decide ((isub .i64 d5 1) < 0) then
 K0
 else
 (Z7 N code3 to4 K0 K1 n (isub .i64 d5 1) (iadd .i64 k6 1)))
 else
 (bif decide (d5 < 0) then
 K0
 else
 (Z7 N code3 to4 K0 K1 n d5 (iadd .i64 k6 1)))) else none)) else none)
 else
 (K1 d5 k6 (decide (k6 < to4))))
noncomputable def Zcz (N : Nat) (code1 : List (Int × Int × Int × Int)) (i2 : Int) : Option (Unit × (Bool × Unit)) :=
    (bif inb i2 (List.length code1) then
 (bif decide ((iadd .i64 (iadd .i64 i2 1) (List.getD code1 (Int.toNat i2) (0, 0, 0, 0)).2.2.1) > (ilen code1)) then
 (some ((), (false, ())))
 else
 (Z7 N code1 (iadd .i64 (iadd .i64 i2 1) (List.getD code1 (Int.toNat i2) (0, 0, 0, 0)).2.2.1)
 (some ((), (false, ())))
 (fun d10 k11 t12 =>
   (some ((), (d10 == 0, ()))))
  N 0 (iadd .i64 i2 1))) else none)
noncomputable def Z8 {R : Type} (N : Nat) (code2 : List (Int × Int × Int × Int)) (K0 : Option R) (K1 : Int → Int → Int → Bool → Option R) : Nat → Int → Int → Int → Option R
  | 0, _, _, _ => none
  | n + 1, d3, forks4, i5 =>
    (bif decide (i5 < (ilen code2)) then
 (bif inb i5 (List.length code2) then
 ((Zk N (List.getD code2 (Int.toNat i5) (0, 0, 0, 0))).bind fun o12 =>
 (bif !o12.2.1 then
 K0
 else
 (bif inb i5 (List.length code2) then
 (bif (List.getD code2 (Int.toNat i5) (0, 0, 0, 0)).1 == 8 then
 (bif decide ((iadd .i64 d3 1) < 0) then
 K0
 else
 (Z8 N code2 K0 K1 n (iadd .i64 d3 1) forks4 (iadd .i64 i5 1)))
 else
 (bif (List.getD code2 (Int.toNat i5) (0, 0, 0, 0)).1 == 9 then
 (bif decide ((isub .i64 d3 1) < 0) then
 K0
 else
 (Z8 N code2 K0 K1 n (isub .i64 d3 1) forks4 (iadd .i64 i5 1)))
 else
 (bif (List.getD code2 (Int.toNat i5) (0, 0, 0, 0)).1 == 7 then
 ((Zcz N code2 i5).bind fun o13 =>
 (bif !o13.2.1 then
 K0
 else
 (bif decide (d3 < 0) then
 K0
 else
 (Z8 N code2 K0 K1 n d3 forks4 (iadd .i64 i5 1)))))
 else
 (bif (List.getD code2 (Int.toNat i5) (0, 0, 0, 0)).1 == 11 then
 (bif decide (d3 > 0) then
 K0
 else
 (bif decide ((iadd .i64 forks4 1) > 1) then
 K0
 else
 (bif decide (d3 < 0) then
 K0
 else
 (Z8 N code2 K0 K1 n d3 (iadd .i64 forks4 1) (iadd .i64 i5 1)))))
 else
 (bif decide (d3 < 0) then
 K0
 else
 (Z8 N code2 K0 K1 n d3 forks4 (iadd .i64 i5 1))))))) else none))) else none)
 else
 (K1 d3 forks4 i5 (decide (i5 < (ilen code2)))))
noncomputable def Zc0 (N : Nat) (code1 : List (Int × Int × Int × Int)) : Option (Unit × (Bool × Unit)) :=
    (bif decide ((ilen code1) > 24) then
 (some ((), (false, ())))
 else
 (Z8 N code1
 (some ((), (false, ())))
 (fun d14 forks15 i16 t17 =>
   (some ((), (d14 == 0, ()))))
  N 0 0 0))
noncomputable def Za6 {R : Type} (N : Nat) (code2 : List (Int × Int × Int × Int)) (K0 : Option R) (K1 : Int → Bool → Option R) : Nat → Int → Option R
  | 0, _ => none
  | n + 1, i3 =>
    (bif decide (i3 < (ilen code2)) then
 (bif inb i3 (List.length code2) then
 (bif (List.getD code2 (Int.toNat i3) (0, 0, 0, 0)).1 == 11 then
 K0
 else
 (Za6 N code2 K0 K1 n (iadd .i64 i3 1))) else none)
 else
 (K1 i3 (decide (i3 < (ilen code2)))))
noncomputable def Zb9 (N : Nat) (code1 : List (Int × Int × Int × Int)) : Option (Unit × (Bool × Unit)) :=
    (Za6 N code1
 (some ((), (true, ())))
 (fun i6 t7 =>
   (some ((), (false, ()))))
  N 0)
noncomputable def Za1 (N : Nat) (o1 : Int × Int × Int × Int) : Option (Unit × (Int × Unit)) :=
    ((Zk N o1).bind fun o2 =>
 (bif !o2.2.1 then
 (some ((), (0, ())))
 else
 (bif o1.1 == 5 then
 (bif o1.1 == 5 then
 (some ((), (1, ())))
 else
 (bif o1.1 == 12 then
 (bif o1.1 == 12 then
 (some ((), (2, ())))
 else
 (some ((), (0, ()))))
 else
 (bif o1.1 == 13 then
 (bif o1.1 == 13 then
 (some ((), (2, ())))
 else
 (some ((), (0, ()))))
 else
 (bif o1.1 == 14 then
 (bif o1.1 == 14 then
 (some ((), (2, ())))
 else
 (some ((), (0, ()))))
 else
 (bif o1.1 == 15 then
 (bif o1.1 == 15 then
 (some ((), (2, ())))
 else
 (some ((), (0, ()))))
 else
 (bif o1.1 == 16 then
 (some ((), (2, ())))
 else
 (some ((), (0, ())))))))))
 else
 (bif o1.1 == 6 then
 (some ((), (1, ())))
 else
 (bif o1.1 == 12 then
 (bif o1.1 == 12 then
 (some ((), (2, ())))
 else
 (some ((), (0, ()))))
 else
 (bif o1.1 == 13 then
 (bif o1.1 == 13 then
 (some ((), (2, ())))
 else
 (some ((), (0, ()))))
 else
 (bif o1.1 == 14 then
 (bif o1.1 == 14 then
 (some ((), (2, ())))
 else
 (some ((), (0, ()))))
 else
 (bif o1.1 == 15 then
 (bif o1.1 == 15 then
 (some ((), (2, ())))
 else
 (some ((), (0, ()))))
 else
 (bif o1.1 == 16 then
 (some ((), (2, ())))
 else
 (some ((), (0, ()))))))))))))
noncomputable def Zb3 {R : Type} (N : Nat) (code4 : List (Int × Int × Int × Int)) (K0 : Option R) (K1 : Int → Bool → Option R) : Nat → Int → Option R
  | 0, _ => none
  | n + 1, i5 =>
    (bif decide (i5 < (ilen code4)) then
 (bif inb i5 (List.length code4) then
 ((Za1 N (List.getD code4 (Int.toNat i5) (0, 0, 0, 0))).bind fun o9 =>
 (bif o9.2.1 == 2 then
 K0
 else
 (Zb3 N code4 K0 K1 n (iadd .i64 i5 1)))) else none)
 else
 (K1 i5 (decide (i5 < (ilen code4)))))
noncomputable def Za7 (N : Nat) (code1 : List (Int × Int × Int × Int)) : Option (Unit × (Bool × Unit)) :=
    ((Zc0 N code1).bind fun o2 =>
 (bif !o2.2.1 then
 (some ((), (false, ())))
 else
 ((Zb9 N code1).bind fun o3 =>
 (bif o3.2.1 then
 (some ((), (false, ())))
 else
 (Zb3 N code1
 (some ((), (false, ())))
 (fun i10 t11 =>
   (some ((), (true, ()))))
  N 0)))))
noncomputable def Zbn {R : Type} (N : Nat) (l6 : List (List (Int × Int × Int × Int))) (K0 : Option R) (K1 : Int → Bool → Option R) : Nat → Int → Option R
  | 0, _ => none
  | n + 1, i7 =>
    (bif decide (i7 < (ilen l6)) then
 (bif inb i7 (List.length l6) then
 ((Za7 N (List.getD l6 (Int.toNat i7) ([] : List (Int × Int × Int × Int)))).bind fun o11 =>
 (bif !o11.2.1 then
 K0
 else
 (Zbn N l6 K0 K1 n (iadd .i64 i7 1)))) else none)
 else
 (K1 i7 (decide (i7 < (ilen l6)))))
noncomputable def Zb0 (N : Nat) (l1 : List (List (Int × Int × Int × Int))) (regs2 : List Int) (cells3 : List Int) : Option (Unit × (Bool × Unit)) :=
    (bif decide ((ilen l1) > 4) then
 (some ((), (false, ())))
 else
 ((Zar N regs2).bind fun o4 =>
 (bif !o4.2.1 then
 (some ((), (false, ())))
 else
 ((Zah N cells3).bind fun o5 =>
 (bif !o5.2.1 then
 (some ((), (false, ())))
 else
 (Zbn N l1
 (some ((), (false, ())))
 (fun i12 t13 =>
   (some ((), (true, ()))))
  N 0))))))
noncomputable def Zb (N : Nat) (r1 : Int) : Option (Unit × (Bool × Unit)) :=
    ((Zao N r1 0 3).bind fun o2 =>
 (some ((), (o2.2.1, ()))))
noncomputable def Zc (N : Nat) (k1 : Int) : Option (Unit × (Bool × Unit)) :=
    ((Zao N k1 0 7).bind fun o2 =>
 (some ((), (o2.2.1, ()))))
noncomputable def Zl (N : Nat) (o1 : Int × Int × Int × Int) : Option (Unit × (Bool × Unit)) :=
    (bif o1.1 == 1 then
 ((Zb N o1.2.1).bind fun o2 =>
 (bif o2.2.1 then
 ((Zda N o1.2.2.1).bind fun o3 =>
 (bif o3.2.1 then
 (some ((), (o1.2.2.2 == 0, ())))
 else
 (some ((), (false, ())))))
 else
 (some ((), (false, ())))))
 else
 (bif o1.1 == 2 then
 (bif o1.1 == 2 then
 ((Zb N o1.2.1).bind fun o4 =>
 (bif o4.2.1 then
 ((Zb N o1.2.2.1).bind fun o5 =>
 (bif o5.2.1 then
 ((Zb N o1.2.2.2).bind fun o6 =>
 (some ((), (o6.2.1, ()))))
 else
 (some ((), (false, ())))))
 else
 (some ((), (false, ())))))
 else
 (bif o1.1 == 5 then
 ((Zb N o1.2.1).bind fun o7 =>
 (bif o7.2.1 then
 ((Zaq N o1.2.2.1).bind fun o8 =>
 (bif o8.2.1 then
 (some ((), (o1.2.2.2 == 0, ())))
 else
 (some ((), (false, ())))))
 else
 (some ((), (false, ())))))
 else
 (bif o1.1 == 6 then
 ((Zaq N o1.2.1).bind fun o9 =>
 (bif o9.2.1 then
 ((Zb N o1.2.2.1).bind fun o10 =>
 (bif o10.2.1 then
 (some ((), (o1.2.2.2 == 0, ())))
 else
 (some ((), (false, ())))))
 else
 (some ((), (false, ())))))
 else
 (bif o1.1 == 7 then
 ((Zb N o1.2.1).bind fun o11 =>
 (bif o11.2.1 then
 ((Zao N o1.2.2.1 1 20).bind fun o12 =>
 (bif o12.2.1 then
 (some ((), (o1.2.2.2 == 0, ())))
 else
 (some ((), (false, ())))))
 else
 (some ((), (false, ())))))
 else
 (bif o1.1 == 8 then
 (bif o1.1 == 8 then
 ((Zb N o1.2.1).bind fun o13 =>
 (bif o13.2.1 then
 (bif o1.2.2.1 == 0 then
 (some ((), (o1.2.2.2 == 0, ())))
 else
 (some ((), (false, ()))))
 else
 (some ((), (false, ())))))
 else
 (bif o1.1 == 9 then
 (bif o1.1 == 9 then
 (bif o1.2.1 == 0 then
 (bif o1.2.2.1 == 0 then
 (some ((), (o1.2.2.2 == 0, ())))
 else
 (some ((), (false, ()))))
 else
 (some ((), (false, ()))))
 else
 (bif o1.1 == 12 then
 ((Zc N o1.2.1).bind fun o14 =>
 (bif o14.2.1 then
 ((Zb N o1.2.2.1).bind fun o15 =>
 (bif o15.2.1 then
 ((Zb N o1.2.2.2).bind fun o16 =>
 (some ((), (o16.2.1, ()))))
 else
 (some ((), (false, ())))))
 else
 (some ((), (false, ())))))
 else
 (bif o1.1 == 13 then
 ((Zb N o1.2.1).bind fun o17 =>
 (bif o17.2.1 then
 ((Zc N o1.2.2.1).bind fun o18 =>
 (bif o18.2.1 then
 (some ((), (o1.2.2.2 == 0, ())))
 else
 (some ((), (false, ())))))
 else
 (some ((), (false, ())))))
 else
 (bif o1.1 == 14 then
 ((Zc N o1.2.1).bind fun o19 =>
 (bif o19.2.1 then
 ((Zb N o1.2.2.1).bind fun o20 =>
 (bif o20.2.1 then
 (some ((), (o1.2.2.2 == 0, ())))
 else
 (some ((), (false, ())))))
 else
 (some ((), (false, ())))))
 else
 (some ((), (false, ())))))))
 else
 (bif o1.1 == 10 then
 (bif o1.1 == 10 then
 (bif o1.2.1 == 0 then
 (bif o1.2.2.1 == 0 then
 (some ((), (o1.2.2.2 == 0, ())))
 else
 (some ((), (false, ()))))
 else
 (some ((), (false, ()))))
 else
 (bif o1.1 == 12 then
 ((Zc N o1.2.1).bind fun o21 =>
 (bif o21.2.1 then
 ((Zb N o1.2.2.1).bind fun o22 =>
 (bif o22.2.1 then
 ((Zb N o1.2.2.2).bind fun o23 =>
 (some ((), (o23.2.1, ()))))
 else
 (some ((), (false, ())))))
 else
 (some ((), (false, ())))))
 else
 (bif o1.1 == 13 then
 ((Zb N o1.2.1).bind fun o24 =>
 (bif o24.2.1 then
 ((Zc N o1.2.2.1).bind fun o25 =>
 (bif o25.2.1 then
 (some ((), (o1.2.2.2 == 0, ())))
 else
 (some ((), (false, ())))))
 else
 (some ((), (false, ())))))
 else
 (bif o1.1 == 14 then
 ((Zc N o1.2.1).bind fun o26 =>
 (bif o26.2.1 then
 ((Zb N o1.2.2.1).bind fun o27 =>
 (bif o27.2.1 then
 (some ((), (o1.2.2.2 == 0, ())))
 else
 (some ((), (false, ())))))
 else
 (some ((), (false, ())))))
 else
 (some ((), (false, ())))))))
 else
 (bif o1.1 == 11 then
 (bif o1.2.1 == 0 then
 (bif o1.2.2.1 == 0 then
 (some ((), (o1.2.2.2 == 0, ())))
 else
 (some ((), (false, ()))))
 else
 (some ((), (false, ()))))
 else
 (bif o1.1 == 12 then
 ((Zc N o1.2.1).bind fun o28 =>
 (bif o28.2.1 then
 ((Zb N o1.2.2.1).bind fun o29 =>
 (bif o29.2.1 then
 ((Zb N o1.2.2.2).bind fun o30 =>
 (some ((), (o30.2.1, ()))))
 else
 (some ((), (false, ())))))
 else
 (some ((), (false, ())))))
 else
 (bif o1.1 == 13 then
 ((Zb N o1.2.1).bind fun o31 =>
 (bif o31.2.1 then
 ((Zc N o1.2.2.1).bind fun o32 =>
 (bif o32.2.1 then
 (some ((), (o1.2.2.2 == 0, ())))
 else
 (some ((), (false, ())))))
 else
 (some ((), (false, ())))))
 else
 (bif o1.1 == 14 then
 ((Zc N o1.2.1).bind fun o33 =>
 (bif o33.2.1 then
 ((Zb N o1.2.2.1).bind fun o34 =>
 (bif o34.2.1 then
 (some ((), (o1.2.2.2 == 0, ())))
 else
 (some ((), (false, ())))))
 else
 (some ((), (false, ())))))
 else
 (some ((), (false, ()))))))))))
 else
 (bif o1.1 == 15 then
 (bif o1.1 == 15 then
 ((Zb N o1.2.1).bind fun o35 =>
 (bif o35.2.1 then
 (bif o1.2.2.1 == 0 then
 (some ((), (o1.2.2.2 == 0, ())))
 else
 (some ((), (false, ()))))
 else
 (some ((), (false, ())))))
 else
 (bif o1.1 == 9 then
 (bif o1.1 == 9 then
 (bif o1.2.1 == 0 then
 (bif o1.2.2.1 == 0 then
 (some ((), (o1.2.2.2 == 0, ())))
 else
 (some ((), (false, ()))))
 else
 (some ((), (false, ()))))
 else
 (bif o1.1 == 12 then
 ((Zc N o1.2.1).bind fun o36 =>
 (bif o36.2.1 then
 ((Zb N o1.2.2.1).bind fun o37 =>
 (bif o37.2.1 then
 ((Zb N o1.2.2.2).bind fun o38 =>
 (some ((), (o38.2.1, ()))))
 else
 (some ((), (false, ())))))
 else
 (some ((), (false, ())))))
 else
 (bif o1.1 == 13 then
 ((Zb N o1.2.1).bind fun o39 =>
 (bif o39.2.1 then
 ((Zc N o1.2.2.1).bind fun o40 =>
 (bif o40.2.1 then
 (some ((), (o1.2.2.2 == 0, ())))
 else
 (some ((), (false, ())))))
 else
 (some ((), (false, ())))))
 else
 (bif o1.1 == 14 then
 ((Zc N o1.2.1).bind fun o41 =>
 (bif o41.2.1 then
 ((Zb N o1.2.2.1).bind fun o42 =>
 (bif o42.2.1 then
 (some ((), (o1.2.2.2 == 0, ())))
 else
 (some ((), (false, ())))))
 else
 (some ((), (false, ())))))
 else
 (some ((), (false, ())))))))
 else
 (bif o1.1 == 10 then
 (bif o1.1 == 10 then
 (bif o1.2.1 == 0 then
 (bif o1.2.2.1 == 0 then
 (some ((), (o1.2.2.2 == 0, ())))
 else
 (some ((), (false, ()))))
 else
 (some ((), (false, ()))))
 else
 (bif o1.1 == 12 then
 ((Zc N o1.2.1).bind fun o43 =>
 (bif o43.2.1 then
 ((Zb N o1.2.2.1).bind fun o44 =>
 (bif o44.2.1 then
 ((Zb N o1.2.2.2).bind fun o45 =>
 (some ((), (o45.2.1, ()))))
 else
 (some ((), (false, ())))))
 else
 (some ((), (false, ())))))
 else
 (bif o1.1 == 13 then
 ((Zb N o1.2.1).bind fun o46 =>
 (bif o46.2.1 then
 ((Zc N o1.2.2.1).bind fun o47 =>
 (bif o47.2.1 then
 (some ((), (o1.2.2.2 == 0, ())))
 else
 (some ((), (false, ())))))
 else
 (some ((), (false, ())))))
 else
 (bif o1.1 == 14 then
 ((Zc N o1.2.1).bind fun o48 =>
 (bif o48.2.1 then
 ((Zb N o1.2.2.1).bind fun o49 =>
 (bif o49.2.1 then
 (some ((), (o1.2.2.2 == 0, ())))
 else
 (some ((), (false, ())))))
 else
 (some ((), (false, ())))))
 else
 (some ((), (false, ())))))))
 else
 (bif o1.1 == 11 then
 (bif o1.2.1 == 0 then
 (bif o1.2.2.1 == 0 then
 (some ((), (o1.2.2.2 == 0, ())))
 else
 (some ((), (false, ()))))
 else
 (some ((), (false, ()))))
 else
 (bif o1.1 == 12 then
 ((Zc N o1.2.1).bind fun o50 =>
 (bif o50.2.1 then
 ((Zb N o1.2.2.1).bind fun o51 =>
 (bif o51.2.1 then
 ((Zb N o1.2.2.2).bind fun o52 =>
 (some ((), (o52.2.1, ()))))
 else
 (some ((), (false, ())))))
 else
 (some ((), (false, ())))))
 else
 (bif o1.1 == 13 then
 ((Zb N o1.2.1).bind fun o53 =>
 (bif o53.2.1 then
 ((Zc N o1.2.2.1).bind fun o54 =>
 (bif o54.2.1 then
 (some ((), (o1.2.2.2 == 0, ())))
 else
 (some ((), (false, ())))))
 else
 (some ((), (false, ())))))
 else
 (bif o1.1 == 14 then
 ((Zc N o1.2.1).bind fun o55 =>
 (bif o55.2.1 then
 ((Zb N o1.2.2.1).bind fun o56 =>
 (bif o56.2.1 then
 (some ((), (o1.2.2.2 == 0, ())))
 else
 (some ((), (false, ())))))
 else
 (some ((), (false, ())))))
 else
 (some ((), (false, ()))))))))))
 else
 (bif o1.1 == 16 then
 ((Zb N o1.2.1).bind fun o57 =>
 (bif o57.2.1 then
 (bif o1.2.2.1 == 0 then
 (some ((), (o1.2.2.2 == 0, ())))
 else
 (some ((), (false, ()))))
 else
 (some ((), (false, ())))))
 else
 (bif o1.1 == 9 then
 (bif o1.1 == 9 then
 (bif o1.2.1 == 0 then
 (bif o1.2.2.1 == 0 then
 (some ((), (o1.2.2.2 == 0, ())))
 else
 (some ((), (false, ()))))
 else
 (some ((), (false, ()))))
 else
 (bif o1.1 == 12 then
 ((Zc N o1.2.1).bind fun o58 =>
 (bif o58.2.1 then
 ((Zb N o1.2.2.1).bind fun o59 =>
 (bif o59.2.1 then
 ((Zb N o1.2.2.2).bind fun o60 =>
 (some ((), (o60.2.1, ()))))
 else
 (some ((), (false, ())))))
 else
 (some ((), (false, ())))))
 else
 (bif o1.1 == 13 then
 ((Zb N o1.2.1).bind fun o61 =>
 (bif o61.2.1 then
 ((Zc N o1.2.2.1).bind fun o62 =>
 (bif o62.2.1 then
 (some ((), (o1.2.2.2 == 0, ())))
 else
 (some ((), (false, ())))))
 else
 (some ((), (false, ())))))
 else
 (bif o1.1 == 14 then
 ((Zc N o1.2.1).bind fun o63 =>
 (bif o63.2.1 then
 ((Zb N o1.2.2.1).bind fun o64 =>
 (bif o64.2.1 then
 (some ((), (o1.2.2.2 == 0, ())))
 else
 (some ((), (false, ())))))
 else
 (some ((), (false, ())))))
 else
 (some ((), (false, ())))))))
 else
 (bif o1.1 == 10 then
 (bif o1.1 == 10 then
 (bif o1.2.1 == 0 then
 (bif o1.2.2.1 == 0 then
 (some ((), (o1.2.2.2 == 0, ())))
 else
 (some ((), (false, ()))))
 else
 (some ((), (false, ()))))
 else
 (bif o1.1 == 12 then
 ((Zc N o1.2.1).bind fun o65 =>
 (bif o65.2.1 then
 ((Zb N o1.2.2.1).bind fun o66 =>
 (bif o66.2.1 then
 ((Zb N o1.2.2.2).bind fun o67 =>
 (some ((), (o67.2.1, ()))))
 else
 (some ((), (false, ())))))
 else
 (some ((), (false, ())))))
 else
 (bif o1.1 == 13 then
 ((Zb N o1.2.1).bind fun o68 =>
 (bif o68.2.1 then
 ((Zc N o1.2.2.1).bind fun o69 =>
 (bif o69.2.1 then
 (some ((), (o1.2.2.2 == 0, ())))
 else
 (some ((), (false, ())))))
 else
 (some ((), (false, ())))))
 else
 (bif o1.1 == 14 then
 ((Zc N o1.2.1).bind fun o70 =>
 (bif o70.2.1 then
 ((Zb N o1.2.2.1).bind fun o71 =>
 (bif o71.2.1 then
 (some ((), (o1.2.2.2 == 0, ())))
 else
 (some ((), (false, ())))))
 else
 (some ((), (false, ())))))
 else
 (some ((), (false, ())))))))
 else
 (bif o1.1 == 11 then
 (bif o1.2.1 == 0 then
 (bif o1.2.2.1 == 0 then
 (some ((), (o1.2.2.2 == 0, ())))
 else
 (some ((), (false, ()))))
 else
 (some ((), (false, ()))))
 else
 (bif o1.1 == 12 then
 ((Zc N o1.2.1).bind fun o72 =>
 (bif o72.2.1 then
 ((Zb N o1.2.2.1).bind fun o73 =>
 (bif o73.2.1 then
 ((Zb N o1.2.2.2).bind fun o74 =>
 (some ((), (o74.2.1, ()))))
 else
 (some ((), (false, ())))))
 else
 (some ((), (false, ())))))
 else
 (bif o1.1 == 13 then
 ((Zb N o1.2.1).bind fun o75 =>
 (bif o75.2.1 then
 ((Zc N o1.2.2.1).bind fun o76 =>
 (bif o76.2.1 then
 (some ((), (o1.2.2.2 == 0, ())))
 else
 (some ((), (false, ())))))
 else
 (some ((), (false, ())))))
 else
 (bif o1.1 == 14 then
 ((Zc N o1.2.1).bind fun o77 =>
 (bif o77.2.1 then
 ((Zb N o1.2.2.1).bind fun o78 =>
 (bif o78.2.1 then
 (some ((), (o1.2.2.2 == 0, ())))
 else
 (some ((), (false, ())))))
 else
 (some ((), (false, ())))))
 else
 (some ((), (false, ()))))))))))))))))
 else
 (bif o1.1 == 3 then
 (bif o1.1 == 3 then
 ((Zb N o1.2.1).bind fun o79 =>
 (bif o79.2.1 then
 ((Zb N o1.2.2.1).bind fun o80 =>
 (bif o80.2.1 then
 ((Zb N o1.2.2.2).bind fun o81 =>
 (some ((), (o81.2.1, ()))))
 else
 (some ((), (false, ())))))
 else
 (some ((), (false, ())))))
 else
 (bif o1.1 == 5 then
 ((Zb N o1.2.1).bind fun o82 =>
 (bif o82.2.1 then
 ((Zaq N o1.2.2.1).bind fun o83 =>
 (bif o83.2.1 then
 (some ((), (o1.2.2.2 == 0, ())))
 else
 (some ((), (false, ())))))
 else
 (some ((), (false, ())))))
 else
 (bif o1.1 == 6 then
 ((Zaq N o1.2.1).bind fun o84 =>
 (bif o84.2.1 then
 ((Zb N o1.2.2.1).bind fun o85 =>
 (bif o85.2.1 then
 (some ((), (o1.2.2.2 == 0, ())))
 else
 (some ((), (false, ())))))
 else
 (some ((), (false, ())))))
 else
 (bif o1.1 == 7 then
 ((Zb N o1.2.1).bind fun o86 =>
 (bif o86.2.1 then
 ((Zao N o1.2.2.1 1 20).bind fun o87 =>
 (bif o87.2.1 then
 (some ((), (o1.2.2.2 == 0, ())))
 else
 (some ((), (false, ())))))
 else
 (some ((), (false, ())))))
 else
 (bif o1.1 == 8 then
 (bif o1.1 == 8 then
 ((Zb N o1.2.1).bind fun o88 =>
 (bif o88.2.1 then
 (bif o1.2.2.1 == 0 then
 (some ((), (o1.2.2.2 == 0, ())))
 else
 (some ((), (false, ()))))
 else
 (some ((), (false, ())))))
 else
 (bif o1.1 == 9 then
 (bif o1.1 == 9 then
 (bif o1.2.1 == 0 then
 (bif o1.2.2.1 == 0 then
 (some ((), (o1.2.2.2 == 0, ())))
 else
 (some ((), (false, ()))))
 else
 (some ((), (false, ()))))
 else
 (bif o1.1 == 12 then
 ((Zc N o1.2.1).bind fun o89 =>
 (bif o89.2.1 then
 ((Zb N o1.2.2.1).bind fun o90 =>
 (bif o90.2.1 then
 ((Zb N o1.2.2.2).bind fun o91 =>
 (some ((), (o91.2.1, ()))))
 else
 (some ((), (false, ())))))
 else
 (some ((), (false, ())))))
 else
 (bif o1.1 == 13 then
 ((Zb N o1.2.1).bind fun o92 =>
 (bif o92.2.1 then
 ((Zc N o1.2.2.1).bind fun o93 =>
 (bif o93.2.1 then
 (some ((), (o1.2.2.2 == 0, ())))
 else
 (some ((), (false, ())))))
 else
 (some ((), (false, ())))))
 else
 (bif o1.1 == 14 then
 ((Zc N o1.2.1).bind fun o94 =>
 (bif o94.2.1 then
 ((Zb N o1.2.2.1).bind fun o95 =>
 (bif o95.2.1 then
 (some ((), (o1.2.2.2 == 0, ())))
 else
 (some ((), (false, ())))))
 else
 (some ((), (false, ())))))
 else
 (some ((), (false, ())))))))
 else
 (bif o1.1 == 10 then
 (bif o1.1 == 10 then
 (bif o1.2.1 == 0 then
 (bif o1.2.2.1 == 0 then
 (some ((), (o1.2.2.2 == 0, ())))
 else
 (some ((), (false, ()))))
 else
 (some ((), (false, ()))))
 else
 (bif o1.1 == 12 then
 ((Zc N o1.2.1).bind fun o96 =>
 (bif o96.2.1 then
 ((Zb N o1.2.2.1).bind fun o97 =>
 (bif o97.2.1 then
 ((Zb N o1.2.2.2).bind fun o98 =>
 (some ((), (o98.2.1, ()))))
 else
 (some ((), (false, ())))))
 else
 (some ((), (false, ())))))
 else
 (bif o1.1 == 13 then
 ((Zb N o1.2.1).bind fun o99 =>
 (bif o99.2.1 then
 ((Zc N o1.2.2.1).bind fun o100 =>
 (bif o100.2.1 then
 (some ((), (o1.2.2.2 == 0, ())))
 else
 (some ((), (false, ())))))
 else
 (some ((), (false, ())))))
 else
 (bif o1.1 == 14 then
 ((Zc N o1.2.1).bind fun o101 =>
 (bif o101.2.1 then
 ((Zb N o1.2.2.1).bind fun o102 =>
 (bif o102.2.1 then
 (some ((), (o1.2.2.2 == 0, ())))
 else
 (some ((), (false, ())))))
 else
 (some ((), (false, ())))))
 else
 (some ((), (false, ())))))))
 else
 (bif o1.1 == 11 then
 (bif o1.2.1 == 0 then
 (bif o1.2.2.1 == 0 then
 (some ((), (o1.2.2.2 == 0, ())))
 else
 (some ((), (false, ()))))
 else
 (some ((), (false, ()))))
 else
 (bif o1.1 == 12 then
 ((Zc N o1.2.1).bind fun o103 =>
 (bif o103.2.1 then
 ((Zb N o1.2.2.1).bind fun o104 =>
 (bif o104.2.1 then
 ((Zb N o1.2.2.2).bind fun o105 =>
 (some ((), (o105.2.1, ()))))
 else
 (some ((), (false, ())))))
 else
 (some ((), (false, ())))))
 else
 (bif o1.1 == 13 then
 ((Zb N o1.2.1).bind fun o106 =>
 (bif o106.2.1 then
 ((Zc N o1.2.2.1).bind fun o107 =>
 (bif o107.2.1 then
 (some ((), (o1.2.2.2 == 0, ())))
 else
 (some ((), (false, ())))))
 else
 (some ((), (false, ())))))
 else
 (bif o1.1 == 14 then
 ((Zc N o1.2.1).bind fun o108 =>
 (bif o108.2.1 then
 ((Zb N o1.2.2.1).bind fun o109 =>
 (bif o109.2.1 then
 (some ((), (o1.2.2.2 == 0, ())))
 else
 (some ((), (false, ())))))
 else
 (some ((), (false, ())))))
 else
 (some ((), (false, ()))))))))))
 else
 (bif o1.1 == 15 then
 (bif o1.1 == 15 then
 ((Zb N o1.2.1).bind fun o110 =>
 (bif o110.2.1 then
 (bif o1.2.2.1 == 0 then
 (some ((), (o1.2.2.2 == 0, ())))
 else
 (some ((), (false, ()))))
 else
 (some ((), (false, ())))))
 else
 (bif o1.1 == 9 then
 (bif o1.1 == 9 then
 (bif o1.2.1 == 0 then
 (bif o1.2.2.1 == 0 then
 (some ((), (o1.2.2.2 == 0, ())))
 else
 (some ((), (false, ()))))
 else
 (some ((), (false, ()))))
 else
 (bif o1.1 == 12 then
 ((Zc N o1.2.1).bind fun o111 =>
 (bif o111.2.1 then
 ((Zb N o1.2.2.1).bind fun o112 =>
 (bif o112.2.1 then
 ((Zb N o1.2.2.2).bind fun o113 =>
 (some ((), (o113.2.1, ()))))
 else
 (some ((), (false, ())))))
 else
 (some ((), (false, ())))))
 else
 (bif o1.1 == 13 then
 ((Zb N o1.2.1).bind fun o114 =>
 (bif o114.2.1 then
 ((Zc N o1.2.2.1).bind fun o115 =>
 (bif o115.2.1 then
 (some ((), (o1.2.2.2 == 0, ())))
 else
 (some ((), (false, ())))))
 else
 (some ((), (false, ())))))
 else
 (bif o1.1 == 14 then
 ((Zc N o1.2.1).bind fun o116 =>
 (bif o116.2.1 then
 ((Zb N o1.2.2.1).bind fun o117 =>
 (bif o117.2.1 then
 (some ((), (o1.2.2.2 == 0, ())))
 else
 (some ((), (false, ())))))
 else
 (some ((), (false, ())))))
 else
 (some ((), (false, ())))))))
 else
 (bif o1.1 == 10 then
 (bif o1.1 == 10 then
 (bif o1.2.1 == 0 then
 (bif o1.2.2.1 == 0 then
 (some ((), (o1.2.2.2 == 0, ())))
 else
 (some ((), (false, ()))))
 else
 (some ((), (false, ()))))
 else
 (bif o1.1 == 12 then
 ((Zc N o1.2.1).bind fun o118 =>
 (bif o118.2.1 then
 ((Zb N o1.2.2.1).bind fun o119 =>
 (bif o119.2.1 then
 ((Zb N o1.2.2.2).bind fun o120 =>
 (some ((), (o120.2.1, ()))))
 else
 (some ((), (false, ())))))
 else
 (some ((), (false, ())))))
 else
 (bif o1.1 == 13 then
 ((Zb N o1.2.1).bind fun o121 =>
 (bif o121.2.1 then
 ((Zc N o1.2.2.1).bind fun o122 =>
 (bif o122.2.1 then
 (some ((), (o1.2.2.2 == 0, ())))
 else
 (some ((), (false, ())))))
 else
 (some ((), (false, ())))))
 else
 (bif o1.1 == 14 then
 ((Zc N o1.2.1).bind fun o123 =>
 (bif o123.2.1 then
 ((Zb N o1.2.2.1).bind fun o124 =>
 (bif o124.2.1 then
 (some ((), (o1.2.2.2 == 0, ())))
 else
 (some ((), (false, ())))))
 else
 (some ((), (false, ())))))
 else
 (some ((), (false, ())))))))
 else
 (bif o1.1 == 11 then
 (bif o1.2.1 == 0 then
 (bif o1.2.2.1 == 0 then
 (some ((), (o1.2.2.2 == 0, ())))
 else
 (some ((), (false, ()))))
 else
 (some ((), (false, ()))))
 else
 (bif o1.1 == 12 then
 ((Zc N o1.2.1).bind fun o125 =>
 (bif o125.2.1 then
 ((Zb N o1.2.2.1).bind fun o126 =>
 (bif o126.2.1 then
 ((Zb N o1.2.2.2).bind fun o127 =>
 (some ((), (o127.2.1, ()))))
 else
 (some ((), (false, ())))))
 else
 (some ((), (false, ())))))
 else
 (bif o1.1 == 13 then
 ((Zb N o1.2.1).bind fun o128 =>
 (bif o128.2.1 then
 ((Zc N o1.2.2.1).bind fun o129 =>
 (bif o129.2.1 then
 (some ((), (o1.2.2.2 == 0, ())))
 else
 (some ((), (false, ())))))
 else
 (some ((), (false, ())))))
 else
 (bif o1.1 == 14 then
 ((Zc N o1.2.1).bind fun o130 =>
 (bif o130.2.1 then
 ((Zb N o1.2.2.1).bind fun o131 =>
 (bif o131.2.1 then
 (some ((), (o1.2.2.2 == 0, ())))
 else
 (some ((), (false, ())))))
 else
 (some ((), (false, ())))))
 else
 (some ((), (false, ()))))))))))
 else
 (bif o1.1 == 16 then
 ((Zb N o1.2.1).bind fun o132 =>
 (bif o132.2.1 then
 (bif o1.2.2.1 == 0 then
 (some ((), (o1.2.2.2 == 0, ())))
 else
 (some ((), (false, ()))))
 else
 (some ((), (false, ())))))
 else
 (bif o1.1 == 9 then
 (bif o1.1 == 9 then
 (bif o1.2.1 == 0 then
 (bif o1.2.2.1 == 0 then
 (some ((), (o1.2.2.2 == 0, ())))
 else
 (some ((), (false, ()))))
 else
 (some ((), (false, ()))))
 else
 (bif o1.1 == 12 then
 ((Zc N o1.2.1).bind fun o133 =>
 (bif o133.2.1 then
 ((Zb N o1.2.2.1).bind fun o134 =>
 (bif o134.2.1 then
 ((Zb N o1.2.2.2).bind fun o135 =>
 (some ((), (o135.2.1, ()))))
 else
 (some ((), (false, ())))))
 else
 (some ((), (false, ())))))
 else
 (bif o1.1 == 13 then
 ((Zb N o1.2.1).bind fun o136 =>
 (bif o136.2.1 then
 ((Zc N o1.2.2.1).bind fun o137 =>
 (bif o137.2.1 then
 (some ((), (o1.2.2.2 == 0, ())))
 else
 (some ((), (false, ())))))
 else
 (some ((), (false, ())))))
 else
 (bif o1.1 == 14 then
 ((Zc N o1.2.1).bind fun o138 =>
 (bif o138.2.1 then
 ((Zb N o1.2.2.1).bind fun o139 =>
 (bif o139.2.1 then
 (some ((), (o1.2.2.2 == 0, ())))
 else
 (some ((), (false, ())))))
 else
 (some ((), (false, ())))))
 else
 (some ((), (false, ())))))))
 else
 (bif o1.1 == 10 then
 (bif o1.1 == 10 then
 (bif o1.2.1 == 0 then
 (bif o1.2.2.1 == 0 then
 (some ((), (o1.2.2.2 == 0, ())))
 else
 (some ((), (false, ()))))
 else
 (some ((), (false, ()))))
 else
 (bif o1.1 == 12 then
 ((Zc N o1.2.1).bind fun o140 =>
 (bif o140.2.1 then
 ((Zb N o1.2.2.1).bind fun o141 =>
 (bif o141.2.1 then
 ((Zb N o1.2.2.2).bind fun o142 =>
 (some ((), (o142.2.1, ()))))
 else
 (some ((), (false, ())))))
 else
 (some ((), (false, ())))))
 else
 (bif o1.1 == 13 then
 ((Zb N o1.2.1).bind fun o143 =>
 (bif o143.2.1 then
 ((Zc N o1.2.2.1).bind fun o144 =>
 (bif o144.2.1 then
 (some ((), (o1.2.2.2 == 0, ())))
 else
 (some ((), (false, ())))))
 else
 (some ((), (false, ())))))
 else
 (bif o1.1 == 14 then
 ((Zc N o1.2.1).bind fun o145 =>
 (bif o145.2.1 then
 ((Zb N o1.2.2.1).bind fun o146 =>
 (bif o146.2.1 then
 (some ((), (o1.2.2.2 == 0, ())))
 else
 (some ((), (false, ())))))
 else
 (some ((), (false, ())))))
 else
 (some ((), (false, ())))))))
 else
 (bif o1.1 == 11 then
 (bif o1.2.1 == 0 then
 (bif o1.2.2.1 == 0 then
 (some ((), (o1.2.2.2 == 0, ())))
 else
 (some ((), (false, ()))))
 else
 (some ((), (false, ()))))
 else
 (bif o1.1 == 12 then
 ((Zc N o1.2.1).bind fun o147 =>
 (bif o147.2.1 then
 ((Zb N o1.2.2.1).bind fun o148 =>
 (bif o148.2.1 then
 ((Zb N o1.2.2.2).bind fun o149 =>
 (some ((), (o149.2.1, ()))))
 else
 (some ((), (false, ())))))
 else
 (some ((), (false, ())))))
 else
 (bif o1.1 == 13 then
 ((Zb N o1.2.1).bind fun o150 =>
 (bif o150.2.1 then
 ((Zc N o1.2.2.1).bind fun o151 =>
 (bif o151.2.1 then
 (some ((), (o1.2.2.2 == 0, ())))
 else
 (some ((), (false, ())))))
 else
 (some ((), (false, ())))))
 else
 (bif o1.1 == 14 then
 ((Zc N o1.2.1).bind fun o152 =>
 (bif o152.2.1 then
 ((Zb N o1.2.2.1).bind fun o153 =>
 (bif o153.2.1 then
 (some ((), (o1.2.2.2 == 0, ())))
 else
 (some ((), (false, ())))))
 else
 (some ((), (false, ())))))
 else
 (some ((), (false, ()))))))))))))))))
 else
 (bif o1.1 == 4 then
 ((Zb N o1.2.1).bind fun o154 =>
 (bif o154.2.1 then
 ((Zb N o1.2.2.1).bind fun o155 =>
 (bif o155.2.1 then
 ((Zb N o1.2.2.2).bind fun o156 =>
 (some ((), (o156.2.1, ()))))
 else
 (some ((), (false, ())))))
 else
 (some ((), (false, ())))))
 else
 (bif o1.1 == 5 then
 ((Zb N o1.2.1).bind fun o157 =>
 (bif o157.2.1 then
 ((Zaq N o1.2.2.1).bind fun o158 =>
 (bif o158.2.1 then
 (some ((), (o1.2.2.2 == 0, ())))
 else
 (some ((), (false, ())))))
 else
 (some ((), (false, ())))))
 else
 (bif o1.1 == 6 then
 ((Zaq N o1.2.1).bind fun o159 =>
 (bif o159.2.1 then
 ((Zb N o1.2.2.1).bind fun o160 =>
 (bif o160.2.1 then
 (some ((), (o1.2.2.2 == 0, ())))
 else
 (some ((), (false, ())))))
 else
 (some ((), (false, ())))))
 else
 (bif o1.1 == 7 then
 ((Zb N o1.2.1).bind fun o161 =>
 (bif o161.2.1 then
 ((Zao N o1.2.2.1 1 20).bind fun o162 =>
 (bif o162.2.1 then
 (some ((), (o1.2.2.2 == 0, ())))
 else
 (some ((), (false, ())))))
 else
 (some ((), (false, ())))))
 else
 (bif o1.1 == 8 then
 (bif o1.1 == 8 then
 ((Zb N o1.2.1).bind fun o163 =>
 (bif o163.2.1 then
 (bif o1.2.2.1 == 0 then
 (some ((), (o1.2.2.2 == 0, ())))
 else
 (some ((), (false, ()))))
 else
 (some ((), (false, ())))))
 else
 (bif o1.1 == 9 then
 (bif o1.1 == 9 then
 (bif o1.2.1 == 0 then
 (bif o1.2.2.1 == 0 then
 (some ((), (o1.2.2.2 == 0, ())))
 else
 (some ((), (false, ()))))
 else
 (some ((), (false, ()))))
 else
 (bif o1.1 == 12 then
 ((Zc N o1.2.1).bind fun o164 =>
 (bif o164.2.1 then
 ((Zb N o1.2.2.1).bind fun o165 =>
 (bif o165.2.1 then
 ((Zb N o1.2.2.2).bind fun o166 =>
 (some ((), (o166.2.1, ()))))
 else
 (some ((), (false, ())))))
 else
 (some ((), (false, ())))))
 else
 (bif o1.1 == 13 then
 ((Zb N o1.2.1).bind fun o167 =>
 (bif o167.2.1 then
 ((Zc N o1.2.2.1).bind fun o168 =>
 (bif o168.2.1 then
 (some ((), (o1.2.2.2 == 0, ())))
 else
 (some ((), (false, ())))))
 else
 (some ((), (false, ())))))
 else
 (bif o1.1 == 14 then
 ((Zc N o1.2.1).bind fun o169 =>
 (bif o169.2.1 then
 ((Zb N o1.2.2.1).bind fun o170 =>
 (bif o170.2.1 then
 (some ((), (o1.2.2.2 == 0, ())))
 else
 (some ((), (false, ())))))
 else
 (some ((), (false, ())))))
 else
 (some ((), (false, ())))))))
 else
 (bif o1.1 == 10 then
 (bif o1.1 == 10 then
 (bif o1.2.1 == 0 then
 (bif o1.2.2.1 == 0 then
 (some ((), (o1.2.2.2 == 0, ())))
 else
 (some ((), (false, ()))))
 else
 (some ((), (false, ()))))
 else
 (bif o1.1 == 12 then
 ((Zc N o1.2.1).bind fun o171 =>
 (bif o171.2.1 then
 ((Zb N o1.2.2.1).bind fun o172 =>
 (bif o172.2.1 then
 ((Zb N o1.2.2.2).bind fun o173 =>
 (some ((), (o173.2.1, ()))))
 else
 (some ((), (false, ())))))
 else
 (some ((), (false, ())))))
 else
 (bif o1.1 == 13 then
 ((Zb N o1.2.1).bind fun o174 =>
 (bif o174.2.1 then
 ((Zc N o1.2.2.1).bind fun o175 =>
 (bif o175.2.1 then
 (some ((), (o1.2.2.2 == 0, ())))
 else
 (some ((), (false, ())))))
 else
 (some ((), (false, ())))))
 else
 (bif o1.1 == 14 then
 ((Zc N o1.2.1).bind fun o176 =>
 (bif o176.2.1 then
 ((Zb N o1.2.2.1).bind fun o177 =>
 (bif o177.2.1 then
 (some ((), (o1.2.2.2 == 0, ())))
 else
 (some ((), (false, ())))))
 else
 (some ((), (false, ())))))
 else
 (some ((), (false, ())))))))
 else
 (bif o1.1 == 11 then
 (bif o1.2.1 == 0 then
 (bif o1.2.2.1 == 0 then
 (some ((), (o1.2.2.2 == 0, ())))
 else
 (some ((), (false, ()))))
 else
 (some ((), (false, ()))))
 else
 (bif o1.1 == 12 then
 ((Zc N o1.2.1).bind fun o178 =>
 (bif o178.2.1 then
 ((Zb N o1.2.2.1).bind fun o179 =>
 (bif o179.2.1 then
 ((Zb N o1.2.2.2).bind fun o180 =>
 (some ((), (o180.2.1, ()))))
 else
 (some ((), (false, ())))))
 else
 (some ((), (false, ())))))
 else
 (bif o1.1 == 13 then
 ((Zb N o1.2.1).bind fun o181 =>
 (bif o181.2.1 then
 ((Zc N o1.2.2.1).bind fun o182 =>
 (bif o182.2.1 then
 (some ((), (o1.2.2.2 == 0, ())))
 else
 (some ((), (false, ())))))
 else
 (some ((), (false, ())))))
 else
 (bif o1.1 == 14 then
 ((Zc N o1.2.1).bind fun o183 =>
 (bif o183.2.1 then
 ((Zb N o1.2.2.1).bind fun o184 =>
 (bif o184.2.1 then
 (some ((), (o1.2.2.2 == 0, ())))
 else
 (some ((), (false, ())))))
 else
 (some ((), (false, ())))))
 else
 (some ((), (false, ()))))))))))
 else
 (bif o1.1 == 15 then
 (bif o1.1 == 15 then
 ((Zb N o1.2.1).bind fun o185 =>
 (bif o185.2.1 then
 (bif o1.2.2.1 == 0 then
 (some ((), (o1.2.2.2 == 0, ())))
 else
 (some ((), (false, ()))))
 else
 (some ((), (false, ())))))
 else
 (bif o1.1 == 9 then
 (bif o1.1 == 9 then
 (bif o1.2.1 == 0 then
 (bif o1.2.2.1 == 0 then
 (some ((), (o1.2.2.2 == 0, ())))
 else
 (some ((), (false, ()))))
 else
 (some ((), (false, ()))))
 else
 (bif o1.1 == 12 then
 ((Zc N o1.2.1).bind fun o186 =>
 (bif o186.2.1 then
 ((Zb N o1.2.2.1).bind fun o187 =>
 (bif o187.2.1 then
 ((Zb N o1.2.2.2).bind fun o188 =>
 (some ((), (o188.2.1, ()))))
 else
 (some ((), (false, ())))))
 else
 (some ((), (false, ())))))
 else
 (bif o1.1 == 13 then
 ((Zb N o1.2.1).bind fun o189 =>
 (bif o189.2.1 then
 ((Zc N o1.2.2.1).bind fun o190 =>
 (bif o190.2.1 then
 (some ((), (o1.2.2.2 == 0, ())))
 else
 (some ((), (false, ())))))
 else
 (some ((), (false, ())))))
 else
 (bif o1.1 == 14 then
 ((Zc N o1.2.1).bind fun o191 =>
 (bif o191.2.1 then
 ((Zb N o1.2.2.1).bind fun o192 =>
 (bif o192.2.1 then
 (some ((), (o1.2.2.2 == 0, ())))
 else
 (some ((), (false, ())))))
 else
 (some ((), (false, ())))))
 else
 (some ((), (false, ())))))))
 else
 (bif o1.1 == 10 then
 (bif o1.1 == 10 then
 (bif o1.2.1 == 0 then
 (bif o1.2.2.1 == 0 then
 (some ((), (o1.2.2.2 == 0, ())))
 else
 (some ((), (false, ()))))
 else
 (some ((), (false, ()))))
 else
 (bif o1.1 == 12 then
 ((Zc N o1.2.1).bind fun o193 =>
 (bif o193.2.1 then
 ((Zb N o1.2.2.1).bind fun o194 =>
 (bif o194.2.1 then
 ((Zb N o1.2.2.2).bind fun o195 =>
 (some ((), (o195.2.1, ()))))
 else
 (some ((), (false, ())))))
 else
 (some ((), (false, ())))))
 else
 (bif o1.1 == 13 then
 ((Zb N o1.2.1).bind fun o196 =>
 (bif o196.2.1 then
 ((Zc N o1.2.2.1).bind fun o197 =>
 (bif o197.2.1 then
 (some ((), (o1.2.2.2 == 0, ())))
 else
 (some ((), (false, ())))))
 else
 (some ((), (false, ())))))
 else
 (bif o1.1 == 14 then
 ((Zc N o1.2.1).bind fun o198 =>
 (bif o198.2.1 then
 ((Zb N o1.2.2.1).bind fun o199 =>
 (bif o199.2.1 then
 (some ((), (o1.2.2.2 == 0, ())))
 else
 (some ((), (false, ())))))
 else
 (some ((), (false, ())))))
 else
 (some ((), (false, ())))))))
 else
 (bif o1.1 == 11 then
 (bif o1.2.1 == 0 then
 (bif o1.2.2.1 == 0 then
 (some ((), (o1.2.2.2 == 0, ())))
 else
 (some ((), (false, ()))))
 else
 (some ((), (false, ()))))
 else
 (bif o1.1 == 12 then
 ((Zc N o1.2.1).bind fun o200 =>
 (bif o200.2.1 then
 ((Zb N o1.2.2.1).bind fun o201 =>
 (bif o201.2.1 then
 ((Zb N o1.2.2.2).bind fun o202 =>
 (some ((), (o202.2.1, ()))))
 else
 (some ((), (false, ())))))
 else
 (some ((), (false, ())))))
 else
 (bif o1.1 == 13 then
 ((Zb N o1.2.1).bind fun o203 =>
 (bif o203.2.1 then
 ((Zc N o1.2.2.1).bind fun o204 =>
 (bif o204.2.1 then
 (some ((), (o1.2.2.2 == 0, ())))
 else
 (some ((), (false, ())))))
 else
 (some ((), (false, ())))))
 else
 (bif o1.1 == 14 then
 ((Zc N o1.2.1).bind fun o205 =>
 (bif o205.2.1 then
 ((Zb N o1.2.2.1).bind fun o206 =>
 (bif o206.2.1 then
 (some ((), (o1.2.2.2 == 0, ())))
 else
 (some ((), (false, ())))))
 else
 (some ((), (false, ())))))
 else
 (some ((), (false, ()))))))))))
 else
 (bif o1.1 == 16 then
 ((Zb N o1.2.1).bind fun o207 =>
 (bif o207.2.1 then
 (bif o1.2.2.1 == 0 then
 (some ((), (o1.2.2.2 == 0, ())))
 else
 (some ((), (false, ()))))
 else
 (some ((), (false, ())))))
 else
 (bif o1.1 == 9 then
 (bif o1.1 == 9 then
 (bif o1.2.1 == 0 then
 (bif o1.2.2.1 == 0 then
 (some ((), (o1.2.2.2 == 0, ())))
 else
 (some ((), (false, ()))))
 else
 (some ((), (false, ()))))
 else
 (bif o1.1 == 12 then
 ((Zc N o1.2.1).bind fun o208 =>
 (bif o208.2.1 then
 ((Zb N o1.2.2.1).bind fun o209 =>
 (bif o209.2.1 then
 ((Zb N o1.2.2.2).bind fun o210 =>
 (some ((), (o210.2.1, ()))))
 else
 (some ((), (false, ())))))
 else
 (some ((), (false, ())))))
 else
 (bif o1.1 == 13 then
 ((Zb N o1.2.1).bind fun o211 =>
 (bif o211.2.1 then
 ((Zc N o1.2.2.1).bind fun o212 =>
 (bif o212.2.1 then
 (some ((), (o1.2.2.2 == 0, ())))
 else
 (some ((), (false, ())))))
 else
 (some ((), (false, ())))))
 else
 (bif o1.1 == 14 then
 ((Zc N o1.2.1).bind fun o213 =>
 (bif o213.2.1 then
 ((Zb N o1.2.2.1).bind fun o214 =>
 (bif o214.2.1 then
 (some ((), (o1.2.2.2 == 0, ())))
 else
 (some ((), (false, ())))))
 else
 (some ((), (false, ())))))
 else
 (some ((), (false, ())))))))
 else
 (bif o1.1 == 10 then
 (bif o1.1 == 10 then
 (bif o1.2.1 == 0 then
 (bif o1.2.2.1 == 0 then
 (some ((), (o1.2.2.2 == 0, ())))
 else
 (some ((), (false, ()))))
 else
 (some ((), (false, ()))))
 else
 (bif o1.1 == 12 then
 ((Zc N o1.2.1).bind fun o215 =>
 (bif o215.2.1 then
 ((Zb N o1.2.2.1).bind fun o216 =>
 (bif o216.2.1 then
 ((Zb N o1.2.2.2).bind fun o217 =>
 (some ((), (o217.2.1, ()))))
 else
 (some ((), (false, ())))))
 else
 (some ((), (false, ())))))
 else
 (bif o1.1 == 13 then
 ((Zb N o1.2.1).bind fun o218 =>
 (bif o218.2.1 then
 ((Zc N o1.2.2.1).bind fun o219 =>
 (bif o219.2.1 then
 (some ((), (o1.2.2.2 == 0, ())))
 else
 (some ((), (false, ())))))
 else
 (some ((), (false, ())))))
 else
 (bif o1.1 == 14 then
 ((Zc N o1.2.1).bind fun o220 =>
 (bif o220.2.1 then
 ((Zb N o1.2.2.1).bind fun o221 =>
 (bif o221.2.1 then
 (some ((), (o1.2.2.2 == 0, ())))
 else
 (some ((), (false, ())))))
 else
 (some ((), (false, ())))))
 else
 (some ((), (false, ())))))))
 else
 (bif o1.1 == 11 then
 (bif o1.2.1 == 0 then
 (bif o1.2.2.1 == 0 then
 (some ((), (o1.2.2.2 == 0, ())))
 else
 (some ((), (false, ()))))
 else
 (some ((), (false, ()))))
 else
 (bif o1.1 == 12 then
 ((Zc N o1.2.1).bind fun o222 =>
 (bif o222.2.1 then
 ((Zb N o1.2.2.1).bind fun o223 =>
 (bif o223.2.1 then
 ((Zb N o1.2.2.2).bind fun o224 =>
 (some ((), (o224.2.1, ()))))
 else
 (some ((), (false, ())))))
 else
 (some ((), (false, ())))))
 else
 (bif o1.1 == 13 then
 ((Zb N o1.2.1).bind fun o225 =>
 (bif o225.2.1 then
 ((Zc N o1.2.2.1).bind fun o226 =>
 (bif o226.2.1 then
 (some ((), (o1.2.2.2 == 0, ())))
 else
 (some ((), (false, ())))))
 else
 (some ((), (false, ())))))
 else
 (bif o1.1 == 14 then
 ((Zc N o1.2.1).bind fun o227 =>
 (bif o227.2.1 then
 ((Zb N o1.2.2.1).bind fun o228 =>
 (bif o228.2.1 then
 (some ((), (o1.2.2.2 == 0, ())))
 else
 (some ((), (false, ())))))
 else
 (some ((), (false, ())))))
 else
 (some ((), (false, ())))))))))))))))))))
noncomputable def Zeb (N : Nat) (o1 : Int × Int × Int × Int) : Option (Unit × (Int × Unit)) :=
    ((Zl N o1).bind fun o2 =>
 (bif !o2.2.1 then
 (some ((), (0, ())))
 else
 (bif o1.1 == 5 then
 (bif o1.1 == 5 then
 (some ((), (1, ())))
 else
 (bif o1.1 == 12 then
 (bif o1.1 == 12 then
 (some ((), (2, ())))
 else
 (some ((), (0, ()))))
 else
 (bif o1.1 == 13 then
 (bif o1.1 == 13 then
 (some ((), (2, ())))
 else
 (some ((), (0, ()))))
 else
 (bif o1.1 == 14 then
 (bif o1.1 == 14 then
 (some ((), (2, ())))
 else
 (some ((), (0, ()))))
 else
 (bif o1.1 == 15 then
 (bif o1.1 == 15 then
 (some ((), (2, ())))
 else
 (some ((), (0, ()))))
 else
 (bif o1.1 == 16 then
 (some ((), (2, ())))
 else
 (some ((), (0, ())))))))))
 else
 (bif o1.1 == 6 then
 (some ((), (1, ())))
 else
 (bif o1.1 == 12 then
 (bif o1.1 == 12 then
 (some ((), (2, ())))
 else
 (some ((), (0, ()))))
 else
 (bif o1.1 == 13 then
 (bif o1.1 == 13 then
 (some ((), (2, ())))
 else
 (some ((), (0, ()))))
 else
 (bif o1.1 == 14 then
 (bif o1.1 == 14 then
 (some ((), (2, ())))
 else
 (some ((), (0, ()))))
 else
 (bif o1.1 == 15 then
 (bif o1.1 == 15 then
 (some ((), (2, ())))
 else
 (some ((), (0, ()))))
 else
 (bif o1.1 == 16 then
 (some ((), (2, ())))
 else
 (some ((), (0, ()))))))))))))
noncomputable def Zec (N : Nat) (o1 : Int × Int × Int × Int) : Option (Unit × (Int × Unit)) :=
    (bif o1.1 == 8 then
 (some ((), (1, ())))
 else
 (bif o1.1 == 9 then
 (some ((), ((-1 : Int), ())))
 else
 (some ((), (0, ())))))
noncomputable def Zas {R : Type} (N : Nat) (t3 : List (Int × Int × Int × Int)) (K0 : Option R) (K1 : Int → Int → Bool → Option R) : Nat → Int → Int → Option R
  | 0, _, _ => none
  | n + 1, n2, t5 =>
    (bif decide (t5 < (ilen t3)) then
 (bif inb t5 (List.length t3) then
 ((Zec N (List.getD t3 (Int.toNat t5) (0, 0, 0, 0))).bind fun o11 =>
 (bif decide ((iadd .i64 n2 o11.2.1) < 0) then
 K0
 else
 (Zas N t3 K0 K1 n (iadd .i64 n2 o11.2.1) (iadd .i64 t5 1)))) else none)
 else
 (K1 n2 t5 (decide (t5 < (ilen t3)))))
noncomputable def Zak (N : Nat) (code1 : List (Int × Int × Int × Int)) : Option (Unit × (Bool × Unit)) :=
    (Zas N code1
 (some ((), (false, ())))
 (fun n12 t13 t14 =>
   (some ((), (n12 == 0, ()))))
  N 0 0)
noncomputable def Zat {R : Type} (N : Nat) (i3 : Int) (t5 : List (Int × Int × Int × Int)) (K0 : Int → Int → Bool → Option R) : Nat → Int → Int → Option R
  | 0, _, _ => none
  | n + 1, n4, t7 =>
    (bif decide (t7 < (ilen t5)) then
 (bif inb t7 (List.length t5) then
 (bif decide (t7 < i3) then
 ((Zec N (List.getD t5 (Int.toNat t7) (0, 0, 0, 0))).bind fun o13 =>
 (Zat N i3 t5 K0 n (iadd .i64 n4 o13.2.1) (iadd .i64 t7 1)))
 else
 (Zat N i3 t5 K0 n n4 (iadd .i64 t7 1))) else none)
 else
 (K0 n4 t7 (decide (t7 < (ilen t5)))))
noncomputable def Zca (N : Nat) (code1 : List (Int × Int × Int × Int)) (i2 : Int) : Option (Unit × (Int × Unit)) :=
    (Zat N i2 code1
 (fun n14 t15 t16 =>
   (some ((), (n14, ()))))
  N 0 0)
noncomputable def Zal {R : Type} (N : Nat) (code3 : List (Int × Int × Int × Int)) (K0 : Option R) (K1 : Int → Int → Bool → Option R) : Nat → Int → Int → Option R
  | 0, _, _ => none
  | n + 1, forks4, t7 =>
    (bif decide (t7 < (ilen code3)) then
 (bif inb t7 (List.length code3) then
 ((Zl N (List.getD code3 (Int.toNat t7) (0, 0, 0, 0))).bind fun o17 =>
 (bif !o17.2.1 then
 K0
 else
 (bif (List.getD code3 (Int.toNat t7) (0, 0, 0, 0)).1 == 7 then
 (bif decide ((iadd .i64 (iadd .i64 t7 1) (List.getD code3 (Int.toNat t7) (0, 0, 0, 0)).2.2.1) > (ilen code3)) then
 K0
 else
 (bif (((decide ((0 : Int) ≤ (iadd .i64 (iadd .i64 t7 1) (List.getD code3 (Int.toNat t7) (0, 0, 0, 0)).2.2.1))) && (decide ((iadd .i64 (iadd .i64 t7 1) (List.getD code3 (Int.toNat t7) (0, 0, 0, 0)).2.2.1) ≤ ((List.length code3) : Int)))) && (decide ((0 : Int) ≤ (iadd .i64 t7 1)))) && (decide ((iadd .i64 t7 1) ≤ (iadd .i64 (iadd .i64 t7 1) (List.getD code3 (Int.toNat t7) (0, 0, 0, 0)).2.2.1))) then
 ((Zak N (List.drop (Int.toNat (iadd .i64 t7 1)) (List.take (Int.toNat (iadd .i64 (iadd .i64 t7 1) (List.getD code3 (Int.toNat t7) (0, 0, 0, 0)).2.2.1)) code3))).bind fun o18 =>
 (bif !o18.2.1 then
 K0
 else
 (Zal N code3 K0 K1 n forks4 (iadd .i64 t7 1)))) else none))
 else
 (bif (List.getD code3 (Int.toNat t7) (0, 0, 0, 0)).1 == 11 then
 (bif decide ((iadd .i64 forks4 1) > 1) then
 K0
 else
 ((Zca N code3 t7).bind fun o19 =>
 (bif o19.2.1 != 0 then
 K0
 else
 (Zal N code3 K0 K1 n (iadd .i64 forks4 1) (iadd .i64 t7 1)))))
 else
 (Zal N code3 K0 K1 n forks4 (iadd .i64 t7 1)))))) else none)
 else
 (K1 forks4 t7 (decide (t7 < (ilen code3)))))
noncomputable def Zb1 (N : Nat) (code1 : List (Int × Int × Int × Int)) : Option (Unit × (Bool × Unit)) :=
    (bif decide ((ilen code1) > 24) then
 (some ((), (false, ())))
 else
 ((Zak N code1).bind fun o2 =>
 (bif !o2.2.1 then
 (some ((), (false, ())))
 else
 (Zal N code1
 (some ((), (false, ())))
 (fun forks20 t21 t22 =>
   (some ((), (true, ()))))
  N 0 0))))
noncomputable def Zb4 {R : Type} (N : Nat) (code2 : List (Int × Int × Int × Int)) (K0 : Option R) (K1 : Int → Bool → Option R) : Nat → Int → Option R
  | 0, _ => none
  | n + 1, t5 =>
    (bif decide (t5 < (ilen code2)) then
 (bif inb t5 (List.length code2) then
 (bif (List.getD code2 (Int.toNat t5) (0, 0, 0, 0)).1 == 11 then
 K0
 else
 ((Zeb N (List.getD code2 (Int.toNat t5) (0, 0, 0, 0))).bind fun o10 =>
 (bif o10.2.1 == 2 then
 K0
 else
 (Zb4 N code2 K0 K1 n (iadd .i64 t5 1))))) else none)
 else
 (K1 t5 (decide (t5 < (ilen code2)))))
noncomputable def Zby (N : Nat) (code1 : List (Int × Int × Int × Int)) : Option (Unit × (Bool × Unit)) :=
    (Zb4 N code1
 (some ((), (false, ())))
 (fun t11 t12 =>
   ((Zb1 N code1).bind fun o13 =>
 (some ((), (o13.2.1, ())))))
  N 0)
noncomputable def Zha (N : Nat) (k1 : List (Int × Int × Int × Int)) : Option (Unit × (Bool × Unit)) :=
    ((Zby N k1).bind fun o2 =>
 (some ((), (!o2.2.1, ()))))
noncomputable def Zh {R : Type} (N : Nat) (s2 : List (List (Int × Int × Int × Int))) (K0 : Int → Option R) (K1 : Int → Bool → Option R) : Nat → Int → Option R
  | 0, _ => none
  | n + 1, t4 =>
    (bif decide (t4 < (ilen s2)) then
 (bif inb t4 (List.length s2) then
 ((Zha N (List.getD s2 (Int.toNat t4) ([] : List (Int × Int × Int × Int)))).bind fun o10 =>
 (bif o10.2.1 then
 (K0 t4)
 else
 (Zh N s2 K0 K1 n (iadd .i64 t4 1)))) else none)
 else
 (K1 t4 (decide (t4 < (ilen s2)))))
noncomputable def Zj (N : Nat) (s1 : List (List (Int × Int × Int × Int))) : Option (Unit × (Int × Unit)) :=
    (Zh N s1
 (fun t11 =>
   (some ((), (t11, ()))))
 (fun t12 t13 =>
   (some ((), ((-1 : Int), ()))))
  N 0)
noncomputable def Zu (N : Nat) (s1 : List (List (Int × Int × Int × Int))) : Option (Unit × (Bool × Unit)) :=
    ((Zj N s1).bind fun o2 =>
 (some ((), (decide (o2.2.1 ≥ 0), ()))))
noncomputable def Zer (N : Nat) (l1 : List (List (Int × Int × Int × Int))) (regs2 : List Int) (cells3 : List Int) : Option (Unit × (Bool × Unit)) :=
    (bif decide ((ilen l1) ≤ 4) then
 ((Zr N regs2 4).bind fun o4 =>
 (bif o4.2.1 then
 ((Zr N cells3 8).bind fun o5 =>
 (bif o5.2.1 then
 ((Zu N l1).bind fun o6 =>
 (some ((), (!o6.2.1, ()))))
 else
 (some ((), (false, ())))))
 else
 (some ((), (false, ())))))
 else
 (some ((), (false, ()))))
noncomputable def Zii (N : Nat) (a1 : Int × Int × Int × Int) (b2 : Int × Int × Int × Int) : Option (Unit × (Bool × Unit)) :=
    (bif a1.1 != b2.1 then
 (some ((), (false, ())))
 else
 (bif a1.2.1 != b2.2.1 then
 (some ((), (false, ())))
 else
 (bif a1.2.2.1 != b2.2.2.1 then
 (some ((), (false, ())))
 else
 (bif a1.2.2.2 != b2.2.2.2 then
 (some ((), (false, ())))
 else
 (some ((), (true, ())))))))
noncomputable def Zb5 {R : Type} (N : Nat) (a3 : List (Int × Int × Int × Int)) (b4 : List (Int × Int × Int × Int)) (K0 : Option R) (K1 : Int → Bool → Option R) : Nat → Int → Option R
  | 0, _ => none
  | n + 1, i5 =>
    (bif decide (i5 < (ilen a3)) then
 (bif inb i5 (List.length a3) then
 (bif inb i5 (List.length b4) then
 ((Zii N (List.getD a3 (Int.toNat i5) (0, 0, 0, 0)) (List.getD b4 (Int.toNat i5) (0, 0, 0, 0))).bind fun o9 =>
 (bif !o9.2.1 then
 K0
 else
 (Zb5 N a3 b4 K0 K1 n (iadd .i64 i5 1)))) else none) else none)
 else
 (K1 i5 (decide (i5 < (ilen a3)))))
noncomputable def Zdh (N : Nat) (a1 : List (Int × Int × Int × Int)) (b2 : List (Int × Int × Int × Int)) : Option (Unit × (Bool × Unit)) :=
    (bif (ilen a1) != (ilen b2) then
 (some ((), (false, ())))
 else
 (Zb5 N a1 b2
 (some ((), (false, ())))
 (fun i10 t11 =>
   (some ((), (true, ()))))
  N 0))
noncomputable def Zhb (N : Nat) (a1 : List (Int × Int × Int × Int)) (b2 : List (Int × Int × Int × Int)) : Option (Unit × (Bool × Unit)) :=
    ((Zdh N a1 b2).bind fun o3 =>
 (bif !o3.2.1 then
 (some ((), (false, ())))
 else
 (some ((), (true, ())))))
noncomputable def Zbo {R : Type} (N : Nat) (a3 : List (List (Int × Int × Int × Int))) (b4 : List (List (Int × Int × Int × Int))) (K0 : Option R) (K1 : Int → Bool → Option R) : Nat → Int → Option R
  | 0, _ => none
  | n + 1, i5 =>
    (bif decide (i5 < (ilen a3)) then
 (bif inb i5 (List.length a3) then
 (bif inb i5 (List.length b4) then
 ((Zhb N (List.getD a3 (Int.toNat i5) ([] : List (Int × Int × Int × Int))) (List.getD b4 (Int.toNat i5) ([] : List (Int × Int × Int × Int)))).bind fun o9 =>
 (bif !o9.2.1 then
 K0
 else
 (Zbo N a3 b4 K0 K1 n (iadd .i64 i5 1)))) else none) else none)
 else
 (K1 i5 (decide (i5 < (ilen a3)))))
noncomputable def Zc1 (N : Nat) (a1 : List (List (Int × Int × Int × Int))) (b2 : List (List (Int × Int × Int × Int))) : Option (Unit × (Bool × Unit)) :=
    (bif (ilen a1) != (ilen b2) then
 (some ((), (false, ())))
 else
 (Zbo N a1 b2
 (some ((), (false, ())))
 (fun i10 t11 =>
   (some ((), (true, ()))))
  N 0))
noncomputable def Za8 {R : Type} (N : Nat) (t6 : List (Int × Int)) (K0 : Int → Bool → (List Int) → Option R) : Nat → Int → (List Int) → Option R
  | 0, _, _ => none
  | n + 1, t8, l9 =>
    (bif decide (t8 < (ilen t6)) then
 (bif inb t8 (List.length t6) then
 (bif inb (List.getD t6 (Int.toNat t8) (0, 0)).1 (List.length l9) then
 (Za8 N t6 K0 n (iadd .i64 t8 1) (List.set l9 (Int.toNat (List.getD t6 (Int.toNat t8) (0, 0)).1) (List.getD t6 (Int.toNat t8) (0, 0)).2)) else none) else none)
 else
 (K0 t8 (decide (t8 < (ilen t6))) l9))
noncomputable def Zcb (N : Nat) (cells1 : List Int) (l2 : List (Int × Int)) : Option (Unit × ((List Int) × Unit)) :=
    ((Zr N cells1 8).bind fun o3 =>
 (bif !o3.2.1 then
 (some ((), (([] : List Int), ())))
 else
 ((Zaz N l2).bind fun o4 =>
 (bif !o4.2.1 then
 (some ((), (([] : List Int), ())))
 else
 ((Zg N cells1).bind fun o5 =>
 (Za8 N l2
 (fun t13 t14 l15 =>
   (some ((), (l15, ()))))
  N 0 o5.2.1))))))
noncomputable def Za9 {R : Type} (N : Nat) (l5 : List (Int × Int)) (K0 : Int → Bool → (List Int) → Option R) : Nat → Int → (List Int) → Option R
  | 0, _, _ => none
  | n + 1, i6, l7 =>
    (bif decide (i6 < (ilen l5)) then
 (bif inb i6 (List.length l5) then
 (bif inb i6 (List.length l5) then
 (bif inb (List.getD l5 (Int.toNat i6) (0, 0)).1 (List.length l7) then
 (Za9 N l5 K0 n (iadd .i64 i6 1) (List.set l7 (Int.toNat (List.getD l5 (Int.toNat i6) (0, 0)).1) (List.getD l5 (Int.toNat i6) (0, 0)).2)) else none) else none) else none)
 else
 (K0 i6 (decide (i6 < (ilen l5))) l7))
noncomputable def Zcc (N : Nat) (cells1 : List Int) (l2 : List (Int × Int)) : Option (Unit × ((List Int) × Unit)) :=
    ((Zah N cells1).bind fun o3 =>
 (bif !o3.2.1 then
 (some ((), (([] : List Int), ())))
 else
 ((Zay N l2).bind fun o4 =>
 (bif !o4.2.1 then
 (some ((), (([] : List Int), ())))
 else
 (bif room ((List.length ([] : List Int)) + (List.length cells1)) then
 (Za9 N l2
 (fun i11 t12 l13 =>
   (some ((), (l13, ()))))
  N 0 (List.append ([] : List Int) cells1)) else none)))))
noncomputable def Zac {R : Type} (N : Nat) (code3 : List (Int × Int × Int × Int)) (K0 : Int → Option R) (K1 : Int → Int → Bool → Option R) : Nat → Int → Int → Option R
  | 0, _, _ => none
  | n + 1, d4, k5 =>
    (bif decide (k5 < (ilen code3)) then
 (bif inb k5 (List.length code3) then
 (bif (List.getD code3 (Int.toNat k5) (0, 0, 0, 0)).1 == 8 then
 (bif inb k5 (List.length code3) then
 (bif (List.getD code3 (Int.toNat k5) (0, 0, 0, 0)).1 == 9 then
 (bif (isub .i64 (iadd .i64 d4 1) 1) == 0 then
 (K0 k5)
 else
 (Zac N code3 K0 K1 n (isub .i64 (iadd .i64 d4 1) 1) (iadd .i64 k5 1)))
 else
 (bif (iadd .i64 d4 1) == 0 then
 (K0 k5)
 else
 (Zac N code3 K0 K1 n (iadd .i64 d4 1) (iadd .i64 k5 1)))) else none)
 else
 (bif inb k5 (List.length code3) then
 (bif (List.getD code3 (Int.toNat k5) (0, 0, 0, 0)).1 == 9 then
 (bif (isub .i64 d4 1) == 0 then
 (K0 k5)
 else
 (Zac N code3 K0 K1 n (isub .i64 d4 1) (iadd .i64 k5 1)))
 else
 (bif d4 == 0 then
 (K0 k5)
 else
 (Zac N code3 K0 K1 n d4 (iadd .i64 k5 1)))) else none)) else none)
 else
 (K1 d4 k5 (decide (k5 < (ilen code3)))))
noncomputable def Zba (N : Nat) (code1 : List (Int × Int × Int × Int)) (i2 : Int) : Option (Unit × (Int × Unit)) :=
    (bif decide (i2 < 0) then
 (some ((), ((-1 : Int), ())))
 else
 (bif decide (i2 ≥ (ilen code1)) then
 (some ((), ((-1 : Int), ())))
 else
 (bif inb i2 (List.length code1) then
 (bif (List.getD code1 (Int.toNat i2) (0, 0, 0, 0)).1 != 8 then
 (some ((), ((-1 : Int), ())))
 else
 (Zac N code1
 (fun t10 =>
   (some ((), (t10, ()))))
 (fun d11 k12 t13 =>
   (some ((), ((-1 : Int), ()))))
  N 0 i2)) else none)))
noncomputable def Zew (N : Nat) (o1 : Int × Int × Int × Int) (regs2 : List Int) : Option (Unit × ((List Int) × (Bool × Unit))) :=
    (bif room ((List.length ([] : List Int)) + (List.length regs2)) then
 ((Zk N o1).bind fun o3 =>
 (bif !o3.2.1 then
 (some ((), (List.append ([] : List Int) regs2, (false, ()))))
 else
 ((Zar N regs2).bind fun o4 =>
 (bif !o4.2.1 then
 (some ((), (List.append ([] : List Int) regs2, (false, ()))))
 else
 (bif decide (o1.1 > 4) then
 (some ((), (List.append ([] : List Int) regs2, (false, ()))))
 else
 (bif o1.1 == 1 then
 (bif inb o1.2.1 (List.length (List.append ([] : List Int) regs2)) then
 (some ((), (List.set (List.append ([] : List Int) regs2) (Int.toNat o1.2.1) o1.2.2.1, (true, ())))) else none)
 else
 (bif inb o1.2.2.1 (List.length regs2) then
 (bif inb o1.2.2.2 (List.length regs2) then
 (bif o1.1 == 2 then
 (bif inz 65536 then
 (bif inb o1.2.1 (List.length (List.append ([] : List Int) regs2)) then
 (some ((), (List.set (List.append ([] : List Int) regs2) (Int.toNat o1.2.1) (irem (iadd .i64 (List.getD regs2 (Int.toNat o1.2.2.1) 0) (List.getD regs2 (Int.toNat o1.2.2.2) 0)) 65536), (true, ())))) else none) else none)
 else
 (bif o1.1 == 3 then
 (bif inz 65536 then
 (bif inb o1.2.1 (List.length (List.append ([] : List Int) regs2)) then
 (some ((), (List.set (List.append ([] : List Int) regs2) (Int.toNat o1.2.1) (irem (iadd .i64 (isub .i64 (List.getD regs2 (Int.toNat o1.2.2.1) 0) (List.getD regs2 (Int.toNat o1.2.2.2) 0)) 65536) 65536), (true, ())))) else none) else none)
 else
 (bif inb o1.2.1 (List.length (List.append ([] : List Int) regs2)) then
 (bif decide ((List.getD regs2 (Int.toNat o1.2.2.1) 0) < (List.getD regs2 (Int.toNat o1.2.2.2) 0)) then
 (bif inb o1.2.1 (List.length (List.set (List.append ([] : List Int) regs2) (Int.toNat o1.2.1) 0)) then
 (share (List.set (List.append ([] : List Int) regs2) (Int.toNat o1.2.1) 0) fun s5 =>
 (some ((), (List.set s5 (Int.toNat o1.2.1) 1, (true, ()))))) else none)
 else
 (some ((), (List.set (List.append ([] : List Int) regs2) (Int.toNat o1.2.1) 0, (true, ()))))) else none))) else none) else none))))))) else none)
noncomputable def Zv {R : Type} (N : Nat) (code9 : List (Int × Int × Int × Int)) (K0 : Int → (List Int) → (List Int) → (List (Int × Int)) → Option R) (K1 : Int → Bool → Int → (List (Int × List Int × Int)) → (List Int) → (List Int) → (List (Int × Int)) → Option R) : Nat → Int → Int → (List (Int × List Int × Int)) → (List Int) → (List Int) → (List (Int × Int)) → Option R
  | 0, _, _, _, _, _, _ => none
  | n + 1, pc10, b14, l15, l16, l17, l18 =>
    (bif decide (pc10 < (ilen code9)) then
 (bif inb pc10 (List.length code9) then
 (bif (List.getD code9 (Int.toNat pc10) (0, 0, 0, 0)).1 == 5 then
 (bif inb (List.getD code9 (Int.toNat pc10) (0, 0, 0, 0)).2.2.1 (List.length l17) then
 (bif inb (List.getD code9 (Int.toNat pc10) (0, 0, 0, 0)).2.1 (List.length l16) then
 (Zv N code9 K0 K1 n (iadd .i64 pc10 1) b14 l15 (List.set l16 (Int.toNat (List.getD code9 (Int.toNat pc10) (0, 0, 0, 0)).2.1) (List.getD l17 (Int.toNat (List.getD code9 (Int.toNat pc10) (0, 0, 0, 0)).2.2.1) 0)) l17 l18) else none) else none)
 else
 (bif (List.getD code9 (Int.toNat pc10) (0, 0, 0, 0)).1 == 6 then
 (bif inb (List.getD code9 (Int.toNat pc10) (0, 0, 0, 0)).2.1 (List.length l17) then
 (bif room ((List.length l18) + (List.length ([((List.getD code9 (Int.toNat pc10) (0, 0, 0, 0)).2.1, List.getD l17 (Int.toNat (List.getD code9 (Int.toNat pc10) (0, 0, 0, 0)).2.1) 0)]))) then
 (bif inb (List.getD code9 (Int.toNat pc10) (0, 0, 0, 0)).2.2.1 (List.length l16) then
 (bif inb (List.getD code9 (Int.toNat pc10) (0, 0, 0, 0)).2.1 (List.length l17) then
 (Zv N code9 K0 K1 n (iadd .i64 pc10 1) b14 l15 l16 (List.set l17 (Int.toNat (List.getD code9 (Int.toNat pc10) (0, 0, 0, 0)).2.1) (List.getD l16 (Int.toNat (List.getD code9 (Int.toNat pc10) (0, 0, 0, 0)).2.2.1) 0)) (List.append l18 ([((List.getD code9 (Int.toNat pc10) (0, 0, 0, 0)).2.1, List.getD l17 (Int.toNat (List.getD code9 (Int.toNat pc10) (0, 0, 0, 0)).2.1) 0)]))) else none) else none) else none) else none)
 else
 (bif (List.getD code9 (Int.toNat pc10) (0, 0, 0, 0)).1 == 7 then
 (bif inb (List.getD code9 (Int.toNat pc10) (0, 0, 0, 0)).2.1 (List.length l16) then
 (bif (List.getD l16 (Int.toNat (List.getD code9 (Int.toNat pc10) (0, 0, 0, 0)).2.1) 0) == 0 then
 (Zv N code9 K0 K1 n (iadd .i64 (iadd .i64 pc10 1) (List.getD code9 (Int.toNat pc10) (0, 0, 0, 0)).2.2.1) b14 l15 l16 l17 l18)
 else
 (Zv N code9 K0 K1 n (iadd .i64 pc10 1) b14 l15 l16 l17 l18)) else none)
 else
 (bif (List.getD code9 (Int.toNat pc10) (0, 0, 0, 0)).1 == 8 then
 ((Zq N l16).bind fun o46 =>
 (bif room ((List.length l15) + (List.length ([(pc10, (o46.2.1, ilen l18))]))) then
 (Zv N code9 K0 K1 n (iadd .i64 pc10 1) b14 (List.append l15 ([(pc10, (o46.2.1, ilen l18))])) l16 l17 l18) else none))
 else
 (bif (List.getD code9 (Int.toNat pc10) (0, 0, 0, 0)).1 == 9 then
 (bif inb (isub .i64 (ilen l15) 1) (List.length l15) then
 (bif (decide ((0 : Int) ≤ (isub .i64 (ilen l15) 1))) && (decide ((isub .i64 (ilen l15) 1) ≤ ((List.length l15) : Int))) then
 (bif inb (List.getD l15 (Int.toNat (isub .i64 (ilen l15) 1)) (0, (([] : List Int), 0))).1 (List.length code9) then
 (bif inb (List.getD code9 (Int.toNat (List.getD l15 (Int.toNat (isub .i64 (ilen l15) 1)) (0, (([] : List Int), 0))).1) (0, 0, 0, 0)).2.1 (List.length l16) then
 (Zv N code9 K0 K1 n (iadd .i64 pc10 1) b14 (List.take (Int.toNat (isub .i64 (ilen l15) 1)) l15) (List.set l16 (Int.toNat (List.getD code9 (Int.toNat (List.getD l15 (Int.toNat (isub .i64 (ilen l15) 1)) (0, (([] : List Int), 0))).1) (0, 0, 0, 0)).2.1) 1) l17 l18) else none) else none) else none) else none)
 else
 (bif (List.getD code9 (Int.toNat pc10) (0, 0, 0, 0)).1 == 10 then
 (bif decide ((ilen l15) > 0) then
 (bif inb (isub .i64 (ilen l15) 1) (List.length l15) then
 ((Zdz N l17 l18 (List.getD l15 (Int.toNat (isub .i64 (ilen l15) 1)) (0, (([] : List Int), 0))).2.2).bind fun o47 =>
 (bif (ilen l15) == 0 then
 (K0 (isub .i64 (iadd .i64 b14 (ilen l18)) (List.getD l15 (Int.toNat (isub .i64 (ilen l15) 1)) (0, (([] : List Int), 0))).2.2) l16 o47.2.1 o47.2.2.1)
 else
 (bif inb (isub .i64 (ilen l15) 1) (List.length l15) then
 (bif (decide ((0 : Int) ≤ (isub .i64 (ilen l15) 1))) && (decide ((isub .i64 (ilen l15) 1) ≤ ((List.length l15) : Int))) then
 ((Zq N (List.getD l15 (Int.toNat (isub .i64 (ilen l15) 1)) (0, (([] : List Int), 0))).2.1).bind fun o48 =>
 (bif inb (List.getD l15 (Int.toNat (isub .i64 (ilen l15) 1)) (0, (([] : List Int), 0))).1 (List.length code9) then
 (bif inb (List.getD code9 (Int.toNat (List.getD l15 (Int.toNat (isub .i64 (ilen l15) 1)) (0, (([] : List Int), 0))).1) (0, 0, 0, 0)).2.1 (List.length o48.2.1) then
 ((Zba N code9 (List.getD l15 (Int.toNat (isub .i64 (ilen l15) 1)) (0, (([] : List Int), 0))).1).bind fun o49 =>
 (Zv N code9 K0 K1 n (iadd .i64 o49.2.1 1) (isub .i64 (iadd .i64 b14 (ilen l18)) (List.getD l15 (Int.toNat (isub .i64 (ilen l15) 1)) (0, (([] : List Int), 0))).2.2) (List.take (Int.toNat (isub .i64 (ilen l15) 1)) l15) (List.set o48.2.1 (Int.toNat (List.getD code9 (Int.toNat (List.getD l15 (Int.toNat (isub .i64 (ilen l15) 1)) (0, (([] : List Int), 0))).1) (0, 0, 0, 0)).2.1) 0) o47.2.1 o47.2.2.1)) else none) else none)) else none) else none))) else none)
 else
 ((Zdz N l17 l18 0).bind fun o50 =>
 (bif (ilen l15) == 0 then
 (K0 (isub .i64 (iadd .i64 b14 (ilen l18)) 0) l16 o50.2.1 o50.2.2.1)
 else
 (bif inb (isub .i64 (ilen l15) 1) (List.length l15) then
 (bif (decide ((0 : Int) ≤ (isub .i64 (ilen l15) 1))) && (decide ((isub .i64 (ilen l15) 1) ≤ ((List.length l15) : Int))) then
 ((Zq N (List.getD l15 (Int.toNat (isub .i64 (ilen l15) 1)) (0, (([] : List Int), 0))).2.1).bind fun o51 =>
 (bif inb (List.getD l15 (Int.toNat (isub .i64 (ilen l15) 1)) (0, (([] : List Int), 0))).1 (List.length code9) then
 (bif inb (List.getD code9 (Int.toNat (List.getD l15 (Int.toNat (isub .i64 (ilen l15) 1)) (0, (([] : List Int), 0))).1) (0, 0, 0, 0)).2.1 (List.length o51.2.1) then
 ((Zba N code9 (List.getD l15 (Int.toNat (isub .i64 (ilen l15) 1)) (0, (([] : List Int), 0))).1).bind fun o52 =>
 (Zv N code9 K0 K1 n (iadd .i64 o52.2.1 1) (isub .i64 (iadd .i64 b14 (ilen l18)) 0) (List.take (Int.toNat (isub .i64 (ilen l15) 1)) l15) (List.set o51.2.1 (Int.toNat (List.getD code9 (Int.toNat (List.getD l15 (Int.toNat (isub .i64 (ilen l15) 1)) (0, (([] : List Int), 0))).1) (0, 0, 0, 0)).2.1) 0) o50.2.1 o50.2.2.1)) else none) else none)) else none) else none))))
 else
 ((Zew N (List.getD code9 (Int.toNat pc10) (0, 0, 0, 0)) l16).bind fun o53 =>
 (Zv N code9 K0 K1 n (iadd .i64 pc10 1) b14 l15 o53.2.1 l17 l18)))))))) else none)
 else
 (K1 pc10 (decide (pc10 < (ilen code9))) b14 l15 l16 l17 l18))
noncomputable def Zi9 (N : Nat) (code1 : List (Int × Int × Int × Int)) (regs2 : List Int) (cells3 : List Int) : Option (Unit × ((Int × List Int × List Int × List (Int × Int) × Int) × Unit)) :=
    ((Za7 N code1).bind fun o4 =>
 (bif !o4.2.1 then
 (some ((), ((0, (([] : List Int), (([] : List Int), (([] : List (Int × Int)), 0)))), ())))
 else
 ((Zar N regs2).bind fun o5 =>
 (bif !o5.2.1 then
 (some ((), ((0, (([] : List Int), (([] : List Int), (([] : List (Int × Int)), 0)))), ())))
 else
 ((Zah N cells3).bind fun o6 =>
 (bif !o6.2.1 then
 (some ((), ((0, (([] : List Int), (([] : List Int), (([] : List (Int × Int)), 0)))), ())))
 else
 ((Zq N regs2).bind fun o7 =>
 ((Zq N cells3).bind fun o8 =>
 (Zv N code1
 (fun b54 l55 l56 l57 =>
   (some ((), ((2, (l55, (l56, (l57, b54)))), ()))))
 (fun pc58 t59 b60 l61 l62 l63 l64 =>
   (some ((), ((1, (l62, (l63, (l64, b60)))), ()))))
  N 0 0 ([] : List (Int × List Int × Int)) o7.2.1 o8.2.1 ([] : List (Int × Int)))))))))))
noncomputable def Zfr (N : Nat) (code1 : List (Int × Int × Int × Int)) (regs2 : List Int) (cells3 : List Int) : Option (Unit × ((List Int × List Int × List (Int × Int) × Int × List (Int × Int × List Int) × List Int) × (Bool × Unit))) :=
    ((Zby N code1).bind fun o4 =>
 (bif o4.2.1 then
 ((Zr N regs2 4).bind fun o5 =>
 (bif o5.2.1 then
 ((Zr N cells3 8).bind fun o6 =>
 ((Zg N regs2).bind fun o7 =>
 ((Zg N cells3).bind fun o8 =>
 (some ((), ((o7.2.1, (o8.2.1, (([] : List (Int × Int)), (0, (([] : List (Int × Int × List Int)), ([] : List Int)))))), (o6.2.1, ())))))))
 else
 ((Zg N regs2).bind fun o9 =>
 ((Zg N cells3).bind fun o10 =>
 (some ((), ((o9.2.1, (o10.2.1, (([] : List (Int × Int)), (0, (([] : List (Int × Int × List Int)), ([] : List Int)))))), (false, ()))))))))
 else
 ((Zg N regs2).bind fun o11 =>
 ((Zg N cells3).bind fun o12 =>
 (some ((), ((o11.2.1, (o12.2.1, (([] : List (Int × Int)), (0, (([] : List (Int × Int × List Int)), ([] : List Int)))))), (false, ()))))))))
noncomputable def Zfs (N : Nat) (r1 : Int × Int) (a2 : Int × Int × Int × Int) : Option (((Int × Int × Int × Int) × Unit) × (Bool × Unit)) :=
    (some ((a2, ()), (r1.1 == a2.2.2.1, ())))
noncomputable def Zf {R : Type} (N : Nat) (s3 : List (Int × Int)) (K0 : Int → (Int × Int × Int × Int) → Option R) (K1 : Int → Bool → (Int × Int × Int × Int) → Option R) : Nat → Int → (Int × Int × Int × Int) → Option R
  | 0, _, _ => none
  | n + 1, t5, b6 =>
    (bif decide (t5 < (ilen s3)) then
 (bif inb t5 (List.length s3) then
 ((Zfs N (List.getD s3 (Int.toNat t5) (0, 0)) b6).bind fun o14 =>
 (bif o14.2.1 then
 (K0 t5 o14.1.1)
 else
 (Zf N s3 K0 K1 n (iadd .i64 t5 1) o14.1.1))) else none)
 else
 (K1 t5 (decide (t5 < (ilen s3))) b6))
noncomputable def Zi (N : Nat) (s1 : List (Int × Int)) (cap2 : Int × Int × Int × Int) : Option (((Int × Int × Int × Int) × Unit) × (Int × Unit)) :=
    (Zf N s1
 (fun t15 b16 =>
   (some ((b16, ()), (t15, ()))))
 (fun t17 t18 b19 =>
   (some ((b19, ()), ((-1 : Int), ()))))
  N 0 cap2)
noncomputable def Zs (N : Nat) (s1 : List (Int × Int)) (cap2 : Int × Int × Int × Int) : Option (((Int × Int × Int × Int) × Unit) × (Bool × Unit)) :=
    ((Zi N s1 cap2).bind fun o3 =>
 (some ((o3.1.1, ()), (decide (o3.2.1 ≥ 0), ()))))
noncomputable def Zdt (N : Nat) (e1 : List Int × List Int × List (Int × Int) × Int × List (Int × Int × List Int) × List Int) (n2 : Int) : Option (((List Int × List Int × List (Int × Int) × Int × List (Int × Int × List Int) × List Int) × Unit) × Unit) :=
    ((Za3 N e1.2.1 e1.2.2.1 n2).bind fun o3 =>
 (some (((e1.1, (o3.2.1, (o3.2.2.1, (isub .i64 (iadd .i64 e1.2.2.2.1 (ilen e1.2.2.1)) n2, e1.2.2.2.2)))), ()), ())))
noncomputable def Zd0 (N : Nat) (e1 : List Int × List Int × List (Int × Int) × Int × List (Int × Int × List Int) × List Int) (code2 : List (Int × Int × Int × Int)) : Option (((List Int × List Int × List (Int × Int) × Int × List (Int × Int × List Int) × List Int) × Unit) × (Int × Unit)) :=
    (bif decide ((isub .i64 (ilen e1.2.2.2.2.1) 1) < 0) then
 ((Zdt N e1 0).bind fun o3 =>
 (some ((o3.1.1, ()), ((-1 : Int), ()))))
 else
 (bif inb (isub .i64 (ilen e1.2.2.2.2.1) 1) (List.length e1.2.2.2.2.1) then
 (bif ((decide ((0 : Int) ≤ (isub .i64 (ilen e1.2.2.2.2.1) 1))) && (decide ((isub .i64 (ilen e1.2.2.2.2.1) 1) ≤ ((List.length e1.2.2.2.2.1) : Int)))) && (decide ((isub .i64 (ilen e1.2.2.2.2.1) 1) ≤ ((Int.toNat (isub .i64 (ilen e1.2.2.2.2.1) 1)) : Int))) then
 ((Zdt N (e1.1, (e1.2.1, (e1.2.2.1, (e1.2.2.2.1, (List.take (Int.toNat (isub .i64 (ilen e1.2.2.2.2.1) 1)) e1.2.2.2.2.1, e1.2.2.2.2.2))))) (List.getD e1.2.2.2.2.1 (Int.toNat (isub .i64 (ilen e1.2.2.2.2.1) 1)) (0, (0, ([] : List Int)))).2.1).bind fun o4 =>
 (bif inb (List.getD e1.2.2.2.2.1 (Int.toNat (isub .i64 (ilen e1.2.2.2.2.1) 1)) (0, (0, ([] : List Int)))).1 (List.length code2) then
 (bif inb (List.getD code2 (Int.toNat (List.getD e1.2.2.2.2.1 (Int.toNat (isub .i64 (ilen e1.2.2.2.2.1) 1)) (0, (0, ([] : List Int)))).1) (0, 0, 0, 0)).2.1 (List.length (List.getD e1.2.2.2.2.1 (Int.toNat (isub .i64 (ilen e1.2.2.2.2.1) 1)) (0, (0, ([] : List Int)))).2.2) then
 (some (((List.set (List.getD e1.2.2.2.2.1 (Int.toNat (isub .i64 (ilen e1.2.2.2.2.1) 1)) (0, (0, ([] : List Int)))).2.2 (Int.toNat (List.getD code2 (Int.toNat (List.getD e1.2.2.2.2.1 (Int.toNat (isub .i64 (ilen e1.2.2.2.2.1) 1)) (0, (0, ([] : List Int)))).1) (0, 0, 0, 0)).2.1) 0, o4.1.1.2), ()), ((List.getD e1.2.2.2.2.1 (Int.toNat (isub .i64 (ilen e1.2.2.2.2.1) 1)) (0, (0, ([] : List Int)))).1, ()))) else none) else none)) else none) else none))
noncomputable def Zb6 {R : Type} (N : Nat) (code4 : List (Int × Int × Int × Int)) (K0 : Int → Option R) (K1 : Int → Int → Bool → Option R) : Nat → Int → Int → Option R
  | 0, _, _ => none
  | n + 1, n5, k6 =>
    (bif decide (k6 < (ilen code4)) then
 (bif inb k6 (List.length code4) then
 ((Zec N (List.getD code4 (Int.toNat k6) (0, 0, 0, 0))).bind fun o12 =>
 (bif (iadd .i64 n5 o12.2.1) == 0 then
 (K0 k6)
 else
 (Zb6 N code4 K0 K1 n (iadd .i64 n5 o12.2.1) (iadd .i64 k6 1)))) else none)
 else
 (K1 n5 k6 (decide (k6 < (ilen code4)))))
noncomputable def Za0 (N : Nat) (code1 : List (Int × Int × Int × Int)) (i2 : Int) : Option (Unit × (Int × Unit)) :=
    ((Zao N i2 0 (isub .i64 (ilen code1) 1)).bind fun o3 =>
 (bif !o3.2.1 then
 (some ((), ((-1 : Int), ())))
 else
 (bif inb i2 (List.length code1) then
 (bif (List.getD code1 (Int.toNat i2) (0, 0, 0, 0)).1 != 8 then
 (some ((), ((-1 : Int), ())))
 else
 (Zb6 N code1
 (fun t13 =>
   (some ((), (t13, ()))))
 (fun n14 k15 t16 =>
   (some ((), ((-1 : Int), ()))))
  N 0 i2)) else none)))
noncomputable def Zdr (N : Nat) (o1 : Int × Int × Int × Int) (regs2 : List Int) : Option (Unit × ((List Int) × (Bool × Unit))) :=
    ((Zg N regs2).bind fun o3 =>
 ((Zl N o1).bind fun o4 =>
 (bif !o4.2.1 then
 (some ((), (o3.2.1, (false, ()))))
 else
 (bif decide (o1.1 > 4) then
 (some ((), (o3.2.1, (false, ()))))
 else
 ((Zr N regs2 4).bind fun o5 =>
 (bif !o5.2.1 then
 (some ((), (o3.2.1, (false, ()))))
 else
 (bif o1.1 == 1 then
 (bif inb o1.2.1 (List.length o3.2.1) then
 (some ((), (List.set o3.2.1 (Int.toNat o1.2.1) o1.2.2.1, (true, ())))) else none)
 else
 (bif o1.1 == 2 then
 (bif inb o1.2.2.1 (List.length regs2) then
 (bif inb o1.2.2.2 (List.length regs2) then
 (bif inz 65536 then
 (bif inb o1.2.1 (List.length o3.2.1) then
 (some ((), (List.set o3.2.1 (Int.toNat o1.2.1) (irem (iadd .i64 (List.getD regs2 (Int.toNat o1.2.2.1) 0) (List.getD regs2 (Int.toNat o1.2.2.2) 0)) 65536), (true, ())))) else none) else none) else none) else none)
 else
 (bif o1.1 == 3 then
 (bif inb o1.2.2.1 (List.length regs2) then
 (bif inb o1.2.2.2 (List.length regs2) then
 (bif inz 65536 then
 (bif inb o1.2.1 (List.length o3.2.1) then
 (some ((), (List.set o3.2.1 (Int.toNat o1.2.1) (irem (iadd .i64 (isub .i64 (List.getD regs2 (Int.toNat o1.2.2.1) 0) (List.getD regs2 (Int.toNat o1.2.2.2) 0)) 65536) 65536), (true, ())))) else none) else none) else none) else none)
 else
 (bif inb o1.2.1 (List.length o3.2.1) then
 (bif inb o1.2.2.1 (List.length regs2) then
 (bif inb o1.2.2.2 (List.length regs2) then
 (bif decide ((List.getD regs2 (Int.toNat o1.2.2.1) 0) < (List.getD regs2 (Int.toNat o1.2.2.2) 0)) then
 (bif inb o1.2.1 (List.length (List.set o3.2.1 (Int.toNat o1.2.1) 0)) then
 (share (List.set o3.2.1 (Int.toNat o1.2.1) 0) fun s6 =>
 (some ((), (List.set s6 (Int.toNat o1.2.1) 1, (true, ()))))) else none)
 else
 (some ((), (List.set o3.2.1 (Int.toNat o1.2.1) 0, (true, ()))))) else none) else none) else none))))))))))
noncomputable def Zn {R : Type} (N : Nat) (code3 : List (Int × Int × Int × Int)) (K0 : Int → (List Int) → (List Int) → (List (Int × Int)) → (List (Int × Int × List Int)) → (List Int) → Option R) (K1 : Int → Bool → Int → (List Int) → (List Int) → (List (Int × Int)) → (List (Int × Int × List Int)) → (List Int) → Option R) : Nat → Int → Int → (List Int) → (List Int) → (List (Int × Int)) → (List (Int × Int × List Int)) → (List Int) → Option R
  | 0, _, _, _, _, _, _, _ => none
  | n + 1, i4, b5, l6, l7, l8, l9, l10 =>
    (bif decide (i4 < (ilen code3)) then
 (bif inb i4 (List.length code3) then
 (bif (List.getD code3 (Int.toNat i4) (0, 0, 0, 0)).1 == 5 then
 ((Zs N l8 (List.getD code3 (Int.toNat i4) (0, 0, 0, 0))).bind fun o30 =>
 (bif !o30.2.1 then
 (bif room ((List.length l10) + (List.length ([o30.1.1.2.2.1]))) then
 (bif inb o30.1.1.2.2.1 (List.length l7) then
 (bif inb o30.1.1.2.1 (List.length l6) then
 (Zn N code3 K0 K1 n (iadd .i64 i4 1) b5 (List.set l6 (Int.toNat o30.1.1.2.1) (List.getD l7 (Int.toNat o30.1.1.2.2.1) 0)) l7 l8 l9 (List.append l10 ([o30.1.1.2.2.1]))) else none) else none) else none)
 else
 (bif inb o30.1.1.2.2.1 (List.length l7) then
 (bif inb o30.1.1.2.1 (List.length l6) then
 (Zn N code3 K0 K1 n (iadd .i64 i4 1) b5 (List.set l6 (Int.toNat o30.1.1.2.1) (List.getD l7 (Int.toNat o30.1.1.2.2.1) 0)) l7 l8 l9 l10) else none) else none)))
 else
 (bif (List.getD code3 (Int.toNat i4) (0, 0, 0, 0)).1 == 6 then
 (bif inb (List.getD code3 (Int.toNat i4) (0, 0, 0, 0)).2.1 (List.length l7) then
 (bif room ((List.length l8) + (List.length ([((List.getD code3 (Int.toNat i4) (0, 0, 0, 0)).2.1, List.getD l7 (Int.toNat (List.getD code3 (Int.toNat i4) (0, 0, 0, 0)).2.1) 0)]))) then
 (bif inb (List.getD code3 (Int.toNat i4) (0, 0, 0, 0)).2.2.1 (List.length l6) then
 (bif inb (List.getD code3 (Int.toNat i4) (0, 0, 0, 0)).2.1 (List.length l7) then
 (Zn N code3 K0 K1 n (iadd .i64 i4 1) b5 l6 (List.set l7 (Int.toNat (List.getD code3 (Int.toNat i4) (0, 0, 0, 0)).2.1) (List.getD l6 (Int.toNat (List.getD code3 (Int.toNat i4) (0, 0, 0, 0)).2.2.1) 0)) (List.append l8 ([((List.getD code3 (Int.toNat i4) (0, 0, 0, 0)).2.1, List.getD l7 (Int.toNat (List.getD code3 (Int.toNat i4) (0, 0, 0, 0)).2.1) 0)])) l9 l10) else none) else none) else none) else none)
 else
 (bif (List.getD code3 (Int.toNat i4) (0, 0, 0, 0)).1 == 7 then
 (bif inb (List.getD code3 (Int.toNat i4) (0, 0, 0, 0)).2.1 (List.length l6) then
 (bif (List.getD l6 (Int.toNat (List.getD code3 (Int.toNat i4) (0, 0, 0, 0)).2.1) 0) == 0 then
 (Zn N code3 K0 K1 n (iadd .i64 (iadd .i64 i4 (List.getD code3 (Int.toNat i4) (0, 0, 0, 0)).2.2.1) 1) b5 l6 l7 l8 l9 l10)
 else
 (Zn N code3 K0 K1 n (iadd .i64 i4 1) b5 l6 l7 l8 l9 l10)) else none)
 else
 (bif (List.getD code3 (Int.toNat i4) (0, 0, 0, 0)).1 == 8 then
 ((Zg N l6).bind fun o31 =>
 (bif room ((List.length l9) + (List.length ([(i4, (ilen l8, o31.2.1))]))) then
 (Zn N code3 K0 K1 n (iadd .i64 i4 1) b5 l6 l7 l8 (List.append l9 ([(i4, (ilen l8, o31.2.1))])) l10) else none))
 else
 (bif (List.getD code3 (Int.toNat i4) (0, 0, 0, 0)).1 == 9 then
 (bif inb (isub .i64 (ilen l9) 1) (List.length l9) then
 (bif (decide ((0 : Int) ≤ (isub .i64 (ilen l9) 1))) && (decide ((isub .i64 (ilen l9) 1) ≤ ((List.length l9) : Int))) then
 (bif inb (List.getD l9 (Int.toNat (isub .i64 (ilen l9) 1)) (0, (0, ([] : List Int)))).1 (List.length code3) then
 (bif inb (List.getD code3 (Int.toNat (List.getD l9 (Int.toNat (isub .i64 (ilen l9) 1)) (0, (0, ([] : List Int)))).1) (0, 0, 0, 0)).2.1 (List.length l6) then
 (Zn N code3 K0 K1 n (iadd .i64 i4 1) b5 (List.set l6 (Int.toNat (List.getD code3 (Int.toNat (List.getD l9 (Int.toNat (isub .i64 (ilen l9) 1)) (0, (0, ([] : List Int)))).1) (0, 0, 0, 0)).2.1) 1) l7 l8 (List.take (Int.toNat (isub .i64 (ilen l9) 1)) l9) l10) else none) else none) else none) else none)
 else
 (bif (List.getD code3 (Int.toNat i4) (0, 0, 0, 0)).1 == 10 then
 ((Zd0 N (l6, (l7, (l8, (b5, (l9, l10))))) code3).bind fun o32 =>
 (bif decide (o32.2.1 < 0) then
 (K0 o32.1.1.2.2.2.1 o32.1.1.1 o32.1.1.2.1 o32.1.1.2.2.1 o32.1.1.2.2.2.2.1 o32.1.1.2.2.2.2.2)
 else
 ((Za0 N code3 o32.2.1).bind fun o33 =>
 (Zn N code3 K0 K1 n (iadd .i64 o33.2.1 1) o32.1.1.2.2.2.1 o32.1.1.1 o32.1.1.2.1 o32.1.1.2.2.1 o32.1.1.2.2.2.2.1 o32.1.1.2.2.2.2.2))))
 else
 ((Zdr N (List.getD code3 (Int.toNat i4) (0, 0, 0, 0)) l6).bind fun o34 =>
 (Zn N code3 K0 K1 n (iadd .i64 i4 1) b5 o34.2.1 l7 l8 l9 l10)))))))) else none)
 else
 (K1 i4 (decide (i4 < (ilen code3))) b5 l6 l7 l8 l9 l10))
noncomputable def Zav (N : Nat) (e1 : List Int × List Int × List (Int × Int) × Int × List (Int × Int × List Int) × List Int) (code2 : List (Int × Int × Int × Int)) : Option (((List Int × List Int × List (Int × Int) × Int × List (Int × Int × List Int) × List Int) × Unit) × (Int × Unit)) :=
    (Zn N code2
 (fun b35 l36 l37 l38 l39 l40 =>
   (some (((l36, (l37, (l38, (b35, (l39, l40))))), ()), (2, ()))))
 (fun i41 t42 b43 l44 l45 l46 l47 l48 =>
   (some (((l44, (l45, (l46, (b43, (l47, l48))))), ()), (1, ()))))
  N 0 e1.2.2.2.1 e1.1 e1.2.1 e1.2.2.1 e1.2.2.2.2.1 e1.2.2.2.2.2)
noncomputable def Zja (N : Nat) (code1 : List (Int × Int × Int × Int)) (regs2 : List Int) (cells3 : List Int) : Option (Unit × ((Int × List Int × List Int × List (Int × Int) × Int) × Unit)) :=
    ((Zfr N code1 regs2 cells3).bind fun o4 =>
 (bif !o4.2.2.1 then
 (some ((), ((0, (([] : List Int), (([] : List Int), (([] : List (Int × Int)), 0)))), ())))
 else
 ((Zav N o4.2.1 code1).bind fun o5 =>
 (some ((), ((o5.2.1, (o5.1.1.1, (o5.1.1.2.1, (o5.1.1.2.2.1, o5.1.1.2.2.2.1)))), ()))))))
noncomputable def Zjy (N : Nat) (a1 : Int × List Int × List Int × List (Int × Int) × Int) (b2 : Int × List Int × List Int × List (Int × Int) × Int) : Option (Unit × (Bool × Unit)) :=
    (bif a1.1 != b2.1 then
 (some ((), (false, ())))
 else
 ((Zax N a1.2.1 b2.2.1).bind fun o3 =>
 (bif !o3.2.1 then
 (some ((), (false, ())))
 else
 ((Zax N a1.2.2.1 b2.2.2.1).bind fun o4 =>
 (bif !o4.2.1 then
 (some ((), (false, ())))
 else
 ((Zbz N a1.2.2.2.1 b2.2.2.2.1).bind fun o5 =>
 (bif !o5.2.1 then
 (some ((), (false, ())))
 else
 (bif a1.2.2.2.2 != b2.2.2.2.2 then
 (some ((), (false, ())))
 else
 (some ((), (true, ())))))))))))
noncomputable def Zdi {R : Type} (N : Nat) (K0 : Int → Int → Bool → (List (Int × Int × Int × Int)) → Option R) : Nat → Int → Int → (List (Int × Int × Int × Int)) → Option R
  | 0, _, _, _ => none
  | n + 1, k3, i4, l5 =>
    (bif decide (i4 < (ilen l5)) then
 (bif inb i4 (List.length l5) then
 (bif inb i4 (List.length (List.set l5 (Int.toNat i4) (k3, (List.getD l5 (Int.toNat i4) (0, 0, 0, 0)).2))) then
 (share (List.set l5 (Int.toNat i4) (k3, (List.getD l5 (Int.toNat i4) (0, 0, 0, 0)).2)) fun s13 =>
 (bif inb i4 (List.length (List.set s13 (Int.toNat i4) ((List.getD s13 (Int.toNat i4) (0, 0, 0, 0)).1, (iadd .i64 k3 1, (List.getD s13 (Int.toNat i4) (0, 0, 0, 0)).2.2)))) then
 (share (List.set s13 (Int.toNat i4) ((List.getD s13 (Int.toNat i4) (0, 0, 0, 0)).1, (iadd .i64 k3 1, (List.getD s13 (Int.toNat i4) (0, 0, 0, 0)).2.2))) fun s14 =>
 (bif inb i4 (List.length (List.set s14 (Int.toNat i4) ((List.getD s14 (Int.toNat i4) (0, 0, 0, 0)).1, ((List.getD s14 (Int.toNat i4) (0, 0, 0, 0)).2.1, (iadd .i64 (iadd .i64 k3 1) 1, (List.getD s14 (Int.toNat i4) (0, 0, 0, 0)).2.2.2))))) then
 (share (List.set s14 (Int.toNat i4) ((List.getD s14 (Int.toNat i4) (0, 0, 0, 0)).1, ((List.getD s14 (Int.toNat i4) (0, 0, 0, 0)).2.1, (iadd .i64 (iadd .i64 k3 1) 1, (List.getD s14 (Int.toNat i4) (0, 0, 0, 0)).2.2.2)))) fun s15 =>
 (Zdi N K0 n (iadd .i64 (iadd .i64 (iadd .i64 (iadd .i64 k3 1) 1) 1) 1) (iadd .i64 i4 1) (List.set s15 (Int.toNat i4) ((List.getD s15 (Int.toNat i4) (0, 0, 0, 0)).1, ((List.getD s15 (Int.toNat i4) (0, 0, 0, 0)).2.1, ((List.getD s15 (Int.toNat i4) (0, 0, 0, 0)).2.2.1, iadd .i64 (iadd .i64 (iadd .i64 k3 1) 1) 1)))))) else none)) else none)) else none) else none)
 else
 (K0 k3 i4 (decide (i4 < (ilen l5))) l5))
noncomputable def Zjz (N : Nat) (a1 : List (Int × Int × Int × Int)) (k2 : Int) : Option (((List (Int × Int × Int × Int)) × Unit) × (Int × Unit)) :=
    (Zdi N
 (fun k16 i17 t18 l19 =>
   (some ((l19, ()), (k16, ()))))
  N k2 0 a1)
noncomputable def Zdp (N : Nat) (s1 : List Int × List Int × Int) : Option (Unit × ((List Int × List Int × Int) × Unit)) :=
    (both
 (bif room ((List.length ([] : List Int)) + (List.length s1.1)) then
 (bif room ((List.length ([] : List Int)) + (List.length s1.2.1)) then
 (some ((), ((List.append ([] : List Int) s1.1, (List.append ([] : List Int) s1.2.1, s1.2.2)), ()))) else none) else none)
 (both
 (bif room ((List.length ([] : List Int)) + (List.length s1.1)) then
 (bif room ((List.length ([] : List Int)) + (List.length s1.2.1)) then
 (some ((), ((List.append ([] : List Int) s1.1, (List.append ([] : List Int) s1.2.1, s1.2.2)), ()))) else none) else none)
 (bif room ((List.length ([] : List Int)) + (List.length s1.1)) then
 (bif room ((List.length ([] : List Int)) + (List.length s1.2.1)) then
 (some ((), ((List.append ([] : List Int) s1.1, (List.append ([] : List Int) s1.2.1, s1.2.2)), ()))) else none) else none)))
noncomputable def Zbp {R : Type} (N : Nat) (rec : (List (Int × Int × Int × Int)) → (List (List (Int × Int × Int × Int))) → (List Int) → (List Int) → (List Int × List Int × Int) → Option (Unit × ((Int × List Int × List Int × List Int × Int) × Unit))) (code25 : List (Int × Int × Int × Int)) (kids26 : List (List (Int × Int × Int × Int))) (order27 : List Int) (next28 : Int) (l30 : List Int) (b32 : Int) (b33 : Int) (b34 : Int) (l35 : List (Int × List Int × List Int × List Int × Int)) (l39 : List Int) (l40 : List Int) (K0 : Int → Bool → Int → (List Int) → (List Int) → (List Int) → Option R) : Nat → Int → Int → (List Int) → (List Int) → (List Int) → Option R
  | 0, _, _, _, _, _ => none
  | n + 1, i29, b31, l36, l37, l38 =>
    (bif decide (i29 < (ilen order27)) then
 (both
 (bif inb i29 (List.length order27) then
 (bif inb (List.getD order27 (Int.toNat i29) 0) (List.length kids26) then
 ((rec (List.getD kids26 (Int.toNat (List.getD order27 (Int.toNat i29) 0)) ([] : List (Int × Int × Int × Int))) ([] : List (List (Int × Int × Int × Int))) ([] : List Int) l30 (l37, (l38, b31))).bind fun o49 =>
 (bif o49.2.1.1 == 1 then
 (bif inb i29 (List.length order27) then
 (bif inb 0 (List.length o49.2.1.2.1) then
 (bif inb (List.getD order27 (Int.toNat i29) 0) (List.length l36) then
 (Zbp N rec code25 kids26 order27 next28 l30 b32 b33 b34 l35 l39 l40 K0 n (iadd .i64 i29 1) o49.2.1.2.2.2.2 (List.set l36 (Int.toNat (List.getD order27 (Int.toNat i29) 0)) (List.getD o49.2.1.2.1 (Int.toNat 0) 0)) o49.2.1.2.2.1 o49.2.1.2.2.2.1) else none) else none) else none)
 else
 (Zbp N rec code25 kids26 order27 next28 l30 b32 b33 b34 l35 l39 l40 K0 n (iadd .i64 i29 1) o49.2.1.2.2.2.2 l36 o49.2.1.2.2.1 o49.2.1.2.2.2.1))) else none) else none)
 (bif inb i29 (List.length order27) then
 (bif inb (List.getD order27 (Int.toNat i29) 0) (List.length kids26) then
 ((rec (List.getD kids26 (Int.toNat (List.getD order27 (Int.toNat i29) 0)) ([] : List (Int × Int × Int × Int))) ([] : List (List (Int × Int × Int × Int))) ([] : List Int) l30 (l37, (l38, b31))).bind fun o50 =>
 (bif o50.2.1.1 == 1 then
 (bif inb i29 (List.length order27) then
 (bif inb 0 (List.length o50.2.1.2.1) then
 (bif inb (List.getD order27 (Int.toNat i29) 0) (List.length l36) then
 (Zbp N rec code25 kids26 order27 next28 l30 b32 b33 b34 l35 l39 l40 K0 n (iadd .i64 i29 1) o50.2.1.2.2.2.2 (List.set l36 (Int.toNat (List.getD order27 (Int.toNat i29) 0)) (List.getD o50.2.1.2.1 (Int.toNat 0) 0)) o50.2.1.2.2.1 o50.2.1.2.2.2.1) else none) else none) else none)
 else
 (Zbp N rec code25 kids26 order27 next28 l30 b32 b33 b34 l35 l39 l40 K0 n (iadd .i64 i29 1) o50.2.1.2.2.2.2 l36 o50.2.1.2.2.1 o50.2.1.2.2.2.1))) else none) else none))
 else
 (K0 i29 (decide (i29 < (ilen order27))) b31 l36 l37 l38))
noncomputable def Zd8 {R : Type} (N : Nat) (rec : (List (Int × Int × Int × Int)) → (List (List (Int × Int × Int × Int))) → (List Int) → (List Int) → (List Int × List Int × Int) → Option (Unit × ((Int × List Int × List Int × List Int × Int) × Unit))) (code57 : List (Int × Int × Int × Int)) (kids58 : List (List (Int × Int × Int × Int))) (order59 : List Int) (next60 : Int) (b63 : Int) (b64 : Int) (b65 : Int) (b66 : Int) (l67 : List (Int × List Int × List Int × List Int × Int)) (l68 : List Int) (l69 : List Int) (l70 : List Int) (l71 : List Int) (l72 : List Int) (K0 : Int → Bool → (List Int) → Option R) : Nat → Int → (List Int) → Option R
  | 0, _, _ => none
  | n + 1, i61, l62 =>
    (bif decide (i61 < (ilen l68)) then
 (bif inb i61 (List.length l68) then
 (bif inb i61 (List.length l62) then
 (Zd8 N rec code57 kids58 order59 next60 b63 b64 b65 b66 l67 l68 l69 l70 l71 l72 K0 n (iadd .i64 i61 1) (List.set l62 (Int.toNat i61) (List.getD l68 (Int.toNat i61) 0))) else none) else none)
 else
 (K0 i61 (decide (i61 < (ilen l68))) l62))
noncomputable def Zm {R : Type} (N : Nat) (rec : (List (Int × Int × Int × Int)) → (List (List (Int × Int × Int × Int))) → (List Int) → (List Int) → (List Int × List Int × Int) → Option (Unit × ((Int × List Int × List Int × List Int × Int) × Unit))) (code8 : List (Int × Int × Int × Int)) (kids9 : List (List (Int × Int × Int × Int))) (order10 : List Int) (b16 : Int) (l20 : List Int) (l21 : List Int) (K0 : (List Int) → Option R) (K1 : Int → Bool → (List Int) → Int → (List (Int × List Int × List Int × List Int × Int)) → (List Int) → (List Int) → Option R) : Nat → Int → (List Int) → Int → (List (Int × List Int × List Int × List Int × Int)) → (List Int) → (List Int) → Option R
  | 0, _, _, _, _, _, _ => none
  | n + 1, pc11, l12, b13, l17, l18, l19 =>
    (bif decide (pc11 < (ilen code8)) then
 (bif inb pc11 (List.length code8) then
 (bif (List.getD code8 (Int.toNat pc11) (0, 0, 0, 0)).1 == 5 then
 (bif inb (List.getD code8 (Int.toNat pc11) (0, 0, 0, 0)).2.2.1 (List.length l18) then
 (bif inb (List.getD code8 (Int.toNat pc11) (0, 0, 0, 0)).2.1 (List.length l12) then
 (Zm N rec code8 kids9 order10 b16 l20 l21 K0 K1 n (iadd .i64 pc11 1) (List.set l12 (Int.toNat (List.getD code8 (Int.toNat pc11) (0, 0, 0, 0)).2.1) (List.getD l18 (Int.toNat (List.getD code8 (Int.toNat pc11) (0, 0, 0, 0)).2.2.1) 0)) b13 l17 l18 l19) else none) else none)
 else
 (bif (List.getD code8 (Int.toNat pc11) (0, 0, 0, 0)).1 == 6 then
 (bif inb (List.getD code8 (Int.toNat pc11) (0, 0, 0, 0)).2.2.1 (List.length l12) then
 (bif inb (List.getD code8 (Int.toNat pc11) (0, 0, 0, 0)).2.1 (List.length l18) then
 (Zm N rec code8 kids9 order10 b16 l20 l21 K0 K1 n (iadd .i64 pc11 1) l12 b13 l17 (List.set l18 (Int.toNat (List.getD code8 (Int.toNat pc11) (0, 0, 0, 0)).2.1) (List.getD l12 (Int.toNat (List.getD code8 (Int.toNat pc11) (0, 0, 0, 0)).2.2.1) 0)) l19) else none) else none)
 else
 (bif (List.getD code8 (Int.toNat pc11) (0, 0, 0, 0)).1 == 7 then
 (bif inb (List.getD code8 (Int.toNat pc11) (0, 0, 0, 0)).2.1 (List.length l12) then
 (bif (List.getD l12 (Int.toNat (List.getD code8 (Int.toNat pc11) (0, 0, 0, 0)).2.1) 0) == 0 then
 (Zm N rec code8 kids9 order10 b16 l20 l21 K0 K1 n (iadd .i64 (iadd .i64 pc11 1) (List.getD code8 (Int.toNat pc11) (0, 0, 0, 0)).2.2.1) l12 b13 l17 l18 l19)
 else
 (Zm N rec code8 kids9 order10 b16 l20 l21 K0 K1 n (iadd .i64 pc11 1) l12 b13 l17 l18 l19)) else none)
 else
 (bif (List.getD code8 (Int.toNat pc11) (0, 0, 0, 0)).1 == 8 then
 (bif room ((List.length ([] : List Int)) + (List.length l12)) then
 ((Zdp N (l18, (l19, b13))).bind fun o101 =>
 (bif room ((List.length l17) + (List.length ([(pc11, (List.append ([] : List Int) l12, o101.2.1))]))) then
 (Zm N rec code8 kids9 order10 b16 l20 l21 K0 K1 n (iadd .i64 pc11 1) l12 b13 (List.append l17 ([(pc11, (List.append ([] : List Int) l12, o101.2.1))])) l18 l19) else none)) else none)
 else
 (bif (List.getD code8 (Int.toNat pc11) (0, 0, 0, 0)).1 == 9 then
 (bif inb (isub .i64 (ilen l17) 1) (List.length l17) then
 (bif (decide ((0 : Int) ≤ (isub .i64 (ilen l17) 1))) && (decide ((isub .i64 (ilen l17) 1) ≤ ((List.length l17) : Int))) then
 (bif inb (List.getD l17 (Int.toNat (isub .i64 (ilen l17) 1)) (0, (([] : List Int), (([] : List Int), (([] : List Int), 0))))).1 (List.length code8) then
 (bif inb (List.getD code8 (Int.toNat (List.getD l17 (Int.toNat (isub .i64 (ilen l17) 1)) (0, (([] : List Int), (([] : List Int), (([] : List Int), 0))))).1) (0, 0, 0, 0)).2.1 (List.length l12) then
 (Zm N rec code8 kids9 order10 b16 l20 l21 K0 K1 n (iadd .i64 pc11 1) (List.set l12 (Int.toNat (List.getD code8 (Int.toNat (List.getD l17 (Int.toNat (isub .i64 (ilen l17) 1)) (0, (([] : List Int), (([] : List Int), (([] : List Int), 0))))).1) (0, 0, 0, 0)).2.1) 1) b13 (List.take (Int.toNat (isub .i64 (ilen l17) 1)) l17) l18 l19) else none) else none) else none) else none)
 else
 (bif (List.getD code8 (Int.toNat pc11) (0, 0, 0, 0)).1 == 10 then
 (bif (ilen l17) == 0 then
 (K0 l12)
 else
 (bif inb (isub .i64 (ilen l17) 1) (List.length l17) then
 (bif (decide ((0 : Int) ≤ (isub .i64 (ilen l17) 1))) && (decide ((isub .i64 (ilen l17) 1) ≤ ((List.length l17) : Int))) then
 (bif room ((List.length ([] : List Int)) + (List.length (List.getD l17 (Int.toNat (isub .i64 (ilen l17) 1)) (0, (([] : List Int), (([] : List Int), (([] : List Int), 0))))).2.1)) then
 ((Zdp N (List.getD l17 (Int.toNat (isub .i64 (ilen l17) 1)) (0, (([] : List Int), (([] : List Int), (([] : List Int), 0))))).2.2).bind fun o102 =>
 (bif inb (List.getD l17 (Int.toNat (isub .i64 (ilen l17) 1)) (0, (([] : List Int), (([] : List Int), (([] : List Int), 0))))).1 (List.length code8) then
 (bif inb (List.getD code8 (Int.toNat (List.getD l17 (Int.toNat (isub .i64 (ilen l17) 1)) (0, (([] : List Int), (([] : List Int), (([] : List Int), 0))))).1) (0, 0, 0, 0)).2.1 (List.length (List.append ([] : List Int) (List.getD l17 (Int.toNat (isub .i64 (ilen l17) 1)) (0, (([] : List Int), (([] : List Int), (([] : List Int), 0))))).2.1)) then
 ((Zba N code8 (List.getD l17 (Int.toNat (isub .i64 (ilen l17) 1)) (0, (([] : List Int), (([] : List Int), (([] : List Int), 0))))).1).bind fun o103 =>
 (Zm N rec code8 kids9 order10 b16 l20 l21 K0 K1 n (iadd .i64 o103.2.1 1) (List.set (List.append ([] : List Int) (List.getD l17 (Int.toNat (isub .i64 (ilen l17) 1)) (0, (([] : List Int), (([] : List Int), (([] : List Int), 0))))).2.1) (Int.toNat (List.getD code8 (Int.toNat (List.getD l17 (Int.toNat (isub .i64 (ilen l17) 1)) (0, (([] : List Int), (([] : List Int), (([] : List Int), 0))))).1) (0, 0, 0, 0)).2.1) 0) o102.2.1.2.2 (List.take (Int.toNat (isub .i64 (ilen l17) 1)) l17) o102.2.1.1 o102.2.1.2.1)) else none) else none)) else none) else none) else none))
 else
 (bif (List.getD code8 (Int.toNat pc11) (0, 0, 0, 0)).1 == 11 then
 (bif ((decide ((0 : Int) ≤ (ilen kids9))) && (decide ((ilen kids9) ≤ (ilen kids9)))) && (room (Int.toNat (ilen kids9))) then
 (Zbp N rec code8 kids9 order10 (iadd .i64 pc11 1) l12 0 0 b16 l17 l20 l21
 (fun i104 t105 b106 l107 l108 l109 =>
   (Zd8 N rec code8 kids9 order10 (iadd .i64 pc11 1) b106 0 0 b16 l17 l107 l108 l109 l20 l21
 (fun i110 t111 l112 =>
   (Zm N rec code8 kids9 order10 b16 l20 l21 K0 K1 n (iadd .i64 pc11 1) l112 b106 l17 l108 l109))
  N 0 l12))
  N 0 b13 (List.replicate (Int.toNat (ilen kids9)) 0) l18 l19) else none)
 else
 (bif (List.getD code8 (Int.toNat pc11) (0, 0, 0, 0)).1 == 12 then
 (bif inb (List.getD code8 (Int.toNat pc11) (0, 0, 0, 0)).2.1 (List.length l19) then
 (bif inb (List.getD code8 (Int.toNat pc11) (0, 0, 0, 0)).2.2.1 (List.length l12) then
 (bif inb (List.getD code8 (Int.toNat pc11) (0, 0, 0, 0)).2.1 (List.length l19) then
 (bif inz 65536 then
 (bif inb (List.getD code8 (Int.toNat pc11) (0, 0, 0, 0)).2.2.2 (List.length l12) then
 (Zm N rec code8 kids9 order10 b16 l20 l21 K0 K1 n (iadd .i64 pc11 1) (List.set l12 (Int.toNat (List.getD code8 (Int.toNat pc11) (0, 0, 0, 0)).2.2.2) (irem (List.getD l19 (Int.toNat (List.getD code8 (Int.toNat pc11) (0, 0, 0, 0)).2.1) 0) 65536)) b13 l17 l18 (List.set l19 (Int.toNat (List.getD code8 (Int.toNat pc11) (0, 0, 0, 0)).2.1) (iadd .i64 1 (List.getD l12 (Int.toNat (List.getD code8 (Int.toNat pc11) (0, 0, 0, 0)).2.2.1) 0)))) else none) else none) else none) else none) else none)
 else
 (bif (List.getD code8 (Int.toNat pc11) (0, 0, 0, 0)).1 == 13 then
 (bif inb (List.getD code8 (Int.toNat pc11) (0, 0, 0, 0)).2.2.1 (List.length l19) then
 (bif inz 65536 then
 (bif inb (List.getD code8 (Int.toNat pc11) (0, 0, 0, 0)).2.1 (List.length l12) then
 (Zm N rec code8 kids9 order10 b16 l20 l21 K0 K1 n (iadd .i64 pc11 1) (List.set l12 (Int.toNat (List.getD code8 (Int.toNat pc11) (0, 0, 0, 0)).2.1) (irem (List.getD l19 (Int.toNat (List.getD code8 (Int.toNat pc11) (0, 0, 0, 0)).2.2.1) 0) 65536)) b13 l17 l18 l19) else none) else none) else none)
 else
 (bif (List.getD code8 (Int.toNat pc11) (0, 0, 0, 0)).1 == 14 then
 (bif inb (List.getD code8 (Int.toNat pc11) (0, 0, 0, 0)).2.1 (List.length l19) then
 (bif inb (List.getD code8 (Int.toNat pc11) (0, 0, 0, 0)).2.1 (List.length l19) then
 (bif inz 65536 then
 (bif inb (List.getD code8 (Int.toNat pc11) (0, 0, 0, 0)).2.2.1 (List.length l12) then
 (Zm N rec code8 kids9 order10 b16 l20 l21 K0 K1 n (iadd .i64 pc11 1) (List.set l12 (Int.toNat (List.getD code8 (Int.toNat pc11) (0, 0, 0, 0)).2.2.1) (irem (List.getD l19 (Int.toNat (List.getD code8 (Int.toNat pc11) (0, 0, 0, 0)).2.1) 0) 65536)) b13 l17 l18 (List.set l19 (Int.toNat (List.getD code8 (Int.toNat pc11) (0, 0, 0, 0)).2.1) 0)) else none) else none) else none) else none)
 else
 (bif (List.getD code8 (Int.toNat pc11) (0, 0, 0, 0)).1 == 15 then
 (bif inb (List.getD code8 (Int.toNat pc11) (0, 0, 0, 0)).2.1 (List.length l12) then
 (bif inz 65536 then
 (Zm N rec code8 kids9 order10 b16 l20 l21 K0 K1 n (iadd .i64 pc11 1) l12 (irem (iadd .i64 b13 (List.getD l12 (Int.toNat (List.getD code8 (Int.toNat pc11) (0, 0, 0, 0)).2.1) 0)) 65536) l17 l18 l19) else none) else none)
 else
 (bif (List.getD code8 (Int.toNat pc11) (0, 0, 0, 0)).1 == 16 then
 (bif inb (List.getD code8 (Int.toNat pc11) (0, 0, 0, 0)).2.1 (List.length l12) then
 (Zm N rec code8 kids9 order10 b16 l20 l21 K0 K1 n (iadd .i64 pc11 1) (List.set l12 (Int.toNat (List.getD code8 (Int.toNat pc11) (0, 0, 0, 0)).2.1) b13) b13 l17 l18 l19) else none)
 else
 ((Zew N (List.getD code8 (Int.toNat pc11) (0, 0, 0, 0)) l12).bind fun o113 =>
 (Zm N rec code8 kids9 order10 b16 l20 l21 K0 K1 n (iadd .i64 pc11 1) o113.2.1 b13 l17 l18 l19)))))))))))))) else none)
 else
 (K1 pc11 (decide (pc11 < (ilen code8))) l12 b13 l17 l18 l19))
noncomputable def Z6 (N : Nat) : Nat → (List (Int × Int × Int × Int)) → (List (List (Int × Int × Int × Int))) → (List Int) → (List Int) → (List Int × List Int × Int) → Option (Unit × ((Int × List Int × List Int × List Int × Int) × Unit))
  | 0, _, _, _, _, _ => none
  | m + 1, code1, kids2, order3, regs4, s5 =>
    ((Zdp N s5).bind fun o6 =>
 (bif room ((List.length ([] : List Int)) + (List.length regs4)) then
 ((Zdp N s5).bind fun o7 =>
 (Zm N (Z6 N m) code1 kids2 order3 o6.2.1.2.2 o6.2.1.1 o6.2.1.2.1
 (fun l114 =>
   (some ((), ((2, (l114, o6.2.1)), ()))))
 (fun pc115 t116 l117 b118 l119 l120 l121 =>
   (some ((), ((1, (l117, (l120, (l121, b118)))), ()))))
  N 0 (List.append ([] : List Int) regs4) o7.2.1.2.2 ([] : List (Int × List Int × List Int × List Int × Int)) o7.2.1.1 o7.2.1.2.1)) else none))
noncomputable def Zl4 (N : Nat) (code1 : List (Int × Int × Int × Int)) (kids2 : List (List (Int × Int × Int × Int))) (order3 : List Int) (regs4 : List Int) (s5 : List Int × List Int × Int) : Option (Unit × ((Int × List Int × List Int × List Int × Int) × Unit)) := Z6 N N code1 kids2 order3 regs4 s5
noncomputable def Zeg (N : Nat) (code1 : List (Int × Int × Int × Int)) (regs2 : List Int) (cells3 : List Int) : Option (Unit × (Int × ((List Int) × ((List Int) × Unit)))) :=
    ((Za7 N code1).bind fun o4 =>
 (bif !o4.2.1 then
 (some ((), (0, (([] : List Int), (([] : List Int), ())))))
 else
 ((Zar N regs2).bind fun o5 =>
 (bif !o5.2.1 then
 (some ((), (0, (([] : List Int), (([] : List Int), ())))))
 else
 ((Zah N cells3).bind fun o6 =>
 (bif !o6.2.1 then
 (some ((), (0, (([] : List Int), (([] : List Int), ())))))
 else
 (bif ((decide ((0 : Int) ≤ 8)) && (decide ((8 : Int) ≤ 8))) && (room (Int.toNat 8)) then
 ((Zl4 N code1 ([] : List (List (Int × Int × Int × Int))) ([] : List Int) regs2 (cells3, (List.replicate (Int.toNat 8) 0, 0))).bind fun o7 =>
 (some ((), (o7.2.1.1, (o7.2.1.2.1, (o7.2.1.2.2.1, ())))))) else none)))))))
noncomputable def Zd1 (N : Nat) (l1 : List Bool) : Option (Unit × ((List Bool) × Unit)) :=
    (bif room ((List.length ([] : List Bool)) + (List.length l1)) then
 (some ((), (List.append ([] : List Bool) l1, ()))) else none)
noncomputable def Zo {R : Type} (N : Nat) (code9 : List (Int × Int × Int × Int)) (K0 : Int → Bool → (List Int) → (List Int) → (List Bool) → (List Bool) → (List (Int × List Int × List Int × List Bool)) → Option R) : Nat → Int → (List Int) → (List Int) → (List Bool) → (List Bool) → (List (Int × List Int × List Int × List Bool)) → Option R
  | 0, _, _, _, _, _, _ => none
  | n + 1, pc10, l11, l12, l13, l14, l15 =>
    (bif decide (pc10 < (ilen code9)) then
 (bif inb pc10 (List.length code9) then
 (bif (List.getD code9 (Int.toNat pc10) (0, 0, 0, 0)).1 == 5 then
 (bif inb (List.getD code9 (Int.toNat pc10) (0, 0, 0, 0)).2.2.1 (List.length l12) then
 (bif inb (List.getD code9 (Int.toNat pc10) (0, 0, 0, 0)).2.1 (List.length l11) then
 (bif inb (List.getD code9 (Int.toNat pc10) (0, 0, 0, 0)).2.2.1 (List.length l14) then
 (bif List.getD l14 (Int.toNat (List.getD code9 (Int.toNat pc10) (0, 0, 0, 0)).2.2.1) false then
 (bif inb (List.getD code9 (Int.toNat pc10) (0, 0, 0, 0)).2.2.1 (List.length l14) then
 (Zo N code9 K0 n (iadd .i64 pc10 1) (List.set l11 (Int.toNat (List.getD code9 (Int.toNat pc10) (0, 0, 0, 0)).2.1) (List.getD l12 (Int.toNat (List.getD code9 (Int.toNat pc10) (0, 0, 0, 0)).2.2.1) 0)) l12 l13 (List.set l14 (Int.toNat (List.getD code9 (Int.toNat pc10) (0, 0, 0, 0)).2.2.1) true) l15) else none)
 else
 (bif inb (List.getD code9 (Int.toNat pc10) (0, 0, 0, 0)).2.2.1 (List.length l13) then
 (bif inb (List.getD code9 (Int.toNat pc10) (0, 0, 0, 0)).2.2.1 (List.length l14) then
 (Zo N code9 K0 n (iadd .i64 pc10 1) (List.set l11 (Int.toNat (List.getD code9 (Int.toNat pc10) (0, 0, 0, 0)).2.1) (List.getD l12 (Int.toNat (List.getD code9 (Int.toNat pc10) (0, 0, 0, 0)).2.2.1) 0)) l12 l13 (List.set l14 (Int.toNat (List.getD code9 (Int.toNat pc10) (0, 0, 0, 0)).2.2.1) (!(List.getD l13 (Int.toNat (List.getD code9 (Int.toNat pc10) (0, 0, 0, 0)).2.2.1) false))) l15) else none) else none)) else none) else none) else none)
 else
 (bif (List.getD code9 (Int.toNat pc10) (0, 0, 0, 0)).1 == 6 then
 (bif inb (List.getD code9 (Int.toNat pc10) (0, 0, 0, 0)).2.2.1 (List.length l11) then
 (bif inb (List.getD code9 (Int.toNat pc10) (0, 0, 0, 0)).2.1 (List.length l12) then
 (bif inb (List.getD code9 (Int.toNat pc10) (0, 0, 0, 0)).2.1 (List.length l13) then
 (Zo N code9 K0 n (iadd .i64 pc10 1) l11 (List.set l12 (Int.toNat (List.getD code9 (Int.toNat pc10) (0, 0, 0, 0)).2.1) (List.getD l11 (Int.toNat (List.getD code9 (Int.toNat pc10) (0, 0, 0, 0)).2.2.1) 0)) (List.set l13 (Int.toNat (List.getD code9 (Int.toNat pc10) (0, 0, 0, 0)).2.1) true) l14 l15) else none) else none) else none)
 else
 (bif (List.getD code9 (Int.toNat pc10) (0, 0, 0, 0)).1 == 7 then
 (bif inb (List.getD code9 (Int.toNat pc10) (0, 0, 0, 0)).2.1 (List.length l11) then
 (bif (List.getD l11 (Int.toNat (List.getD code9 (Int.toNat pc10) (0, 0, 0, 0)).2.1) 0) == 0 then
 (Zo N code9 K0 n (iadd .i64 (iadd .i64 pc10 1) (List.getD code9 (Int.toNat pc10) (0, 0, 0, 0)).2.2.1) l11 l12 l13 l14 l15)
 else
 (Zo N code9 K0 n (iadd .i64 pc10 1) l11 l12 l13 l14 l15)) else none)
 else
 (bif (List.getD code9 (Int.toNat pc10) (0, 0, 0, 0)).1 == 8 then
 ((Zq N l11).bind fun o31 =>
 ((Zq N l12).bind fun o32 =>
 ((Zd1 N l13).bind fun o33 =>
 (bif room ((List.length l15) + (List.length ([(pc10, (o31.2.1, (o32.2.1, o33.2.1)))]))) then
 (Zo N code9 K0 n (iadd .i64 pc10 1) l11 l12 l13 l14 (List.append l15 ([(pc10, (o31.2.1, (o32.2.1, o33.2.1)))]))) else none))))
 else
 (bif (List.getD code9 (Int.toNat pc10) (0, 0, 0, 0)).1 == 9 then
 (bif inb (isub .i64 (ilen l15) 1) (List.length l15) then
 (bif (decide ((0 : Int) ≤ (isub .i64 (ilen l15) 1))) && (decide ((isub .i64 (ilen l15) 1) ≤ ((List.length l15) : Int))) then
 (bif inb (List.getD l15 (Int.toNat (isub .i64 (ilen l15) 1)) (0, (([] : List Int), (([] : List Int), ([] : List Bool))))).1 (List.length code9) then
 (bif inb (List.getD code9 (Int.toNat (List.getD l15 (Int.toNat (isub .i64 (ilen l15) 1)) (0, (([] : List Int), (([] : List Int), ([] : List Bool))))).1) (0, 0, 0, 0)).2.1 (List.length l11) then
 (Zo N code9 K0 n (iadd .i64 pc10 1) (List.set l11 (Int.toNat (List.getD code9 (Int.toNat (List.getD l15 (Int.toNat (isub .i64 (ilen l15) 1)) (0, (([] : List Int), (([] : List Int), ([] : List Bool))))).1) (0, 0, 0, 0)).2.1) 1) l12 l13 l14 (List.take (Int.toNat (isub .i64 (ilen l15) 1)) l15)) else none) else none) else none) else none)
 else
 (bif (List.getD code9 (Int.toNat pc10) (0, 0, 0, 0)).1 == 10 then
 (bif decide ((ilen l15) > 0) then
 (bif inb (isub .i64 (ilen l15) 1) (List.length l15) then
 (bif (decide ((0 : Int) ≤ (isub .i64 (ilen l15) 1))) && (decide ((isub .i64 (ilen l15) 1) ≤ ((List.length l15) : Int))) then
 ((Zq N (List.getD l15 (Int.toNat (isub .i64 (ilen l15) 1)) (0, (([] : List Int), (([] : List Int), ([] : List Bool))))).2.1).bind fun o34 =>
 ((Zq N (List.getD l15 (Int.toNat (isub .i64 (ilen l15) 1)) (0, (([] : List Int), (([] : List Int), ([] : List Bool))))).2.2.1).bind fun o35 =>
 ((Zd1 N (List.getD l15 (Int.toNat (isub .i64 (ilen l15) 1)) (0, (([] : List Int), (([] : List Int), ([] : List Bool))))).2.2.2).bind fun o36 =>
 (bif inb (List.getD l15 (Int.toNat (isub .i64 (ilen l15) 1)) (0, (([] : List Int), (([] : List Int), ([] : List Bool))))).1 (List.length code9) then
 (bif inb (List.getD code9 (Int.toNat (List.getD l15 (Int.toNat (isub .i64 (ilen l15) 1)) (0, (([] : List Int), (([] : List Int), ([] : List Bool))))).1) (0, 0, 0, 0)).2.1 (List.length o34.2.1) then
 ((Zba N code9 (List.getD l15 (Int.toNat (isub .i64 (ilen l15) 1)) (0, (([] : List Int), (([] : List Int), ([] : List Bool))))).1).bind fun o37 =>
 (Zo N code9 K0 n (iadd .i64 o37.2.1 1) (List.set o34.2.1 (Int.toNat (List.getD code9 (Int.toNat (List.getD l15 (Int.toNat (isub .i64 (ilen l15) 1)) (0, (([] : List Int), (([] : List Int), ([] : List Bool))))).1) (0, 0, 0, 0)).2.1) 0) o35.2.1 o36.2.1 l14 (List.take (Int.toNat (isub .i64 (ilen l15) 1)) l15))) else none) else none)))) else none) else none)
 else
 (Zo N code9 K0 n (ilen code9) l11 l12 l13 l14 l15))
 else
 ((Zew N (List.getD code9 (Int.toNat pc10) (0, 0, 0, 0)) l11).bind fun o38 =>
 (Zo N code9 K0 n (iadd .i64 pc10 1) o38.2.1 l12 l13 l14 l15)))))))) else none)
 else
 (K0 pc10 (decide (pc10 < (ilen code9))) l11 l12 l13 l14 l15))
noncomputable def Zai {R : Type} (N : Nat) (l47 : List Bool) (K0 : Int → Bool → (List Int) → Option R) : Nat → Int → (List Int) → Option R
  | 0, _, _ => none
  | n + 1, i46, l48 =>
    (bif decide (i46 < (ilen l47)) then
 (bif inb i46 (List.length l47) then
 (bif List.getD l47 (Int.toNat i46) false then
 (bif room ((List.length l48) + (List.length ([i46]))) then
 (Zai N l47 K0 n (iadd .i64 i46 1) (List.append l48 ([i46]))) else none)
 else
 (Zai N l47 K0 n (iadd .i64 i46 1) l48)) else none)
 else
 (K0 i46 (decide (i46 < (ilen l47))) l48))
noncomputable def Zcd (N : Nat) (code1 : List (Int × Int × Int × Int)) (regs2 : List Int) (cells3 : List Int) : Option (Unit × ((List Int) × Unit)) :=
    ((Za7 N code1).bind fun o4 =>
 (bif !o4.2.1 then
 (some ((), (([] : List Int), ())))
 else
 ((Zar N regs2).bind fun o5 =>
 (bif !o5.2.1 then
 (some ((), (([] : List Int), ())))
 else
 ((Zah N cells3).bind fun o6 =>
 (bif !o6.2.1 then
 (some ((), (([] : List Int), ())))
 else
 ((Zq N regs2).bind fun o7 =>
 ((Zq N cells3).bind fun o8 =>
 (bif ((decide ((0 : Int) ≤ 8)) && (decide ((8 : Int) ≤ 8))) && (room (Int.toNat 8)) then
 (bif ((decide ((0 : Int) ≤ 8)) && (decide ((8 : Int) ≤ 8))) && (room (Int.toNat 8)) then
 (Zo N code1
 (fun pc39 t40 l41 l42 l43 l44 l45 =>
   (Zai N l44
 (fun i52 t53 l54 =>
   (some ((), (l54, ()))))
  N 0 ([] : List Int)))
  N 0 o7.2.1 o8.2.1 (List.replicate (Int.toNat 8) false) (List.replicate (Int.toNat 8) false) ([] : List (Int × List Int × List Int × List Bool))) else none) else none)))))))))
noncomputable def Zad (N : Nat) (x1 : List Int) : Option (((List Int) × Unit) × Unit) := Zfq N x1
noncomputable def Zx {R : Type} (N : Nat) (s5 : Nat) (s6 : Nat) (K0 : Int → Int → Bool → (List Int) → Option R) : Nat → Int → Int → (List Int) → Option R
  | 0, _, _, _ => none
  | n + 1, k4, k7, l8 =>
    (bif decide (k7 < (((s6 - s5 : Nat) : Int))) then
 (bif inb k7 (s6 - s5) then
 (bif inb (isub .i64 k7 1) (s6 - s5) then
 (bif (List.getD l8 (s5 + (Int.toNat k7)) 0) != (List.getD l8 (s5 + (Int.toNat (isub .i64 k7 1))) 0) then
 (bif inb k7 (s6 - s5) then
 (bif inb k4 (List.length l8) then
 (Zx N s5 s6 K0 n (iadd .i64 k4 1) (iadd .i64 k7 1) (List.set l8 (Int.toNat k4) (List.getD l8 (s5 + (Int.toNat k7)) 0))) else none) else none)
 else
 (Zx N s5 s6 K0 n k4 (iadd .i64 k7 1) l8)) else none) else none)
 else
 (K0 k4 k7 (decide (k7 < (((s6 - s5 : Nat) : Int)))) l8))
noncomputable def Z5 {R : Type} (N : Nat) (l3 : List Int) (K0 : (List Int) → Option R) (K1 : Int → Bool → Option R) : Nat → Int → Option R
  | 0, _ => none
  | n + 1, k2 =>
    (bif decide (k2 < (ilen l3)) then
 (bif inb k2 (List.length l3) then
 (bif inb (isub .i64 k2 1) (List.length l3) then
 (bif (List.getD l3 (Int.toNat k2) 0) == (List.getD l3 (Int.toNat (isub .i64 k2 1)) 0) then
 (bif (decide ((0 : Int) ≤ k2)) && (decide (k2 ≤ ((List.length l3) : Int))) then
 (Zx N (Int.toNat k2) (List.length l3)
 (fun k20 k21 t22 l23 =>
   (bif (decide ((0 : Int) ≤ k20)) && (decide (k20 ≤ ((List.length l23) : Int))) then
 (bif (decide ((0 : Int) ≤ k20)) && (decide (k20 ≤ ((List.length ((List.take (Int.toNat k20) l23) ++ List.replicate ((List.length l23) - (Int.toNat k20)) 0 ++ (List.drop (List.length l23) l23))) : Int))) then
 (K0 (List.take (Int.toNat k20) ((List.take (Int.toNat k20) l23) ++ List.replicate ((List.length l23) - (Int.toNat k20)) 0 ++ (List.drop (List.length l23) l23)))) else none) else none))
  N k2 1 l3) else none)
 else
 (Z5 N l3 K0 K1 n (iadd .i64 k2 1))) else none) else none)
 else
 (K1 k2 (decide (k2 < (ilen l3)))))
noncomputable def Zp (N : Nat) (s1 : List Int) : Option (Unit × ((List Int) × Unit)) :=
    (bif decide ((ilen s1) < 2) then
 (some ((), (s1, ())))
 else
 (Z5 N s1
 (fun l24 =>
   (some ((), (l24, ()))))
 (fun k25 t26 =>
   (some ((), (s1, ()))))
  N 1))
noncomputable def Zfy (N : Nat) (code1 : List (Int × Int × Int × Int)) (regs2 : List Int) (cells3 : List Int) : Option (Unit × ((List Int) × Unit)) :=
    ((Zfr N code1 regs2 cells3).bind fun o4 =>
 (bif !o4.2.2.1 then
 (some ((), (([] : List Int), ())))
 else
 ((Zav N o4.2.1 code1).bind fun o5 =>
 ((Zad N o5.1.1.2.2.2.2.2).bind fun o6 =>
 ((Zp N o6.1.1).bind fun o7 =>
 (some ((), (o7.2.1, ()))))))))
noncomputable def Zbq {R : Type} (N : Nat) (l13 : List (List (Int × Int × Int × Int))) (regs14 : List Int) (cells15 : List Int) (i16 : Int) (b18 : Int) (l20 : List Int) (K0 : Int → Bool → (List Bool) → Option R) : Nat → Int → (List Bool) → Option R
  | 0, _, _ => none
  | n + 1, k17, l19 =>
    (bif decide (k17 < (ilen l20)) then
 (bif inb k17 (List.length l20) then
 (bif inb (List.getD l20 (Int.toNat k17) 0) (List.length l19) then
 (Zbq N l13 regs14 cells15 i16 b18 l20 K0 n (iadd .i64 k17 1) (List.set l19 (Int.toNat (List.getD l20 (Int.toNat k17) 0)) true)) else none) else none)
 else
 (K0 k17 (decide (k17 < (ilen l20))) l19))
noncomputable def Za2 {R : Type} (N : Nat) (l5 : List (List (Int × Int × Int × Int))) (regs6 : List Int) (cells7 : List Int) (K0 : Int → (List Int) → (List Int) → Option R) (K1 : Int → Bool → (List Bool) → Option R) : Nat → Int → (List Bool) → Option R
  | 0, _, _ => none
  | n + 1, i8, l10 =>
    (bif decide (i8 < (ilen l5)) then
 (bif inb i8 (List.length l5) then
 ((Zeg N (List.getD l5 (Int.toNat i8) ([] : List (Int × Int × Int × Int))) regs6 cells7).bind fun o38 =>
 (bif o38.2.1 == 1 then
 (K0 i8 o38.2.2.1 o38.2.2.2.1)
 else
 (bif inb i8 (List.length l5) then
 ((Zcd N (List.getD l5 (Int.toNat i8) ([] : List (Int × Int × Int × Int))) regs6 cells7).bind fun o39 =>
 (Zbq N l5 regs6 cells7 i8 0 o39.2.1
 (fun k40 t41 l42 =>
   (Za2 N l5 regs6 cells7 K0 K1 n (iadd .i64 i8 1) l42))
  N 0 l10)) else none))) else none)
 else
 (K1 i8 (decide (i8 < (ilen l5))) l10))
noncomputable def Zaf {R : Type} (N : Nat) (l53 : List Bool) (l55 : List Int) (l56 : List Int) (K0 : Int → Bool → (List Int) → Option R) : Nat → Int → (List Int) → Option R
  | 0, _, _ => none
  | n + 1, i51, l57 =>
    (bif decide (i51 < (ilen l53)) then
 (bif inb i51 (List.length l53) then
 (bif List.getD l53 (Int.toNat i51) false then
 (bif room ((List.length l57) + (List.length ([i51]))) then
 (Zaf N l53 l55 l56 K0 n (iadd .i64 i51 1) (List.append l57 ([i51]))) else none)
 else
 (Zaf N l53 l55 l56 K0 n (iadd .i64 i51 1) l57)) else none)
 else
 (K0 i51 (decide (i51 < (ilen l53))) l57))
noncomputable def Zc2 (N : Nat) (l1 : List (List (Int × Int × Int × Int))) (regs2 : List Int) (cells3 : List Int) : Option (Unit × ((Int × List Int × List Int × List Int) × Unit)) :=
    ((Zb0 N l1 regs2 cells3).bind fun o4 =>
 (bif !o4.2.1 then
 (some ((), (((-1 : Int), (([] : List Int), (([] : List Int), ([] : List Int)))), ())))
 else
 (bif ((decide ((0 : Int) ≤ 8)) && (decide ((8 : Int) ≤ 8))) && (room (Int.toNat 8)) then
 (Za2 N l1 regs2 cells3
 (fun b43 l44 l45 =>
   (some ((), ((b43, (l44, (l45, ([] : List Int)))), ()))))
 (fun i46 t47 l48 =>
   ((Zq N regs2).bind fun o49 =>
 ((Zq N cells3).bind fun o50 =>
 (Zaf N l48 o49.2.1 o50.2.1
 (fun i61 t62 l63 =>
   (some ((), (((-1 : Int), (o49.2.1, (o50.2.1, l63))), ()))))
  N 0 ([] : List Int)))))
  N 0 (List.replicate (Int.toNat 8) false)) else none)))
noncomputable def Z2 (N : Nat) (s1 : List Int × List Int × Int) : Option (Unit × ((List Int × List Int × Int) × Unit)) :=
    ((Zg N s1.1).bind fun o2 =>
 ((Zg N s1.2.1).bind fun o3 =>
 (some ((), ((o2.2.1, (o3.2.1, s1.2.2)), ())))))
noncomputable def Zcn {R : Type} (N : Nat) (order4 : List Int) (t5 : Int) (K0 : Int → Bool → (List Int) → Option R) : Nat → Int → (List Int) → Option R
  | 0, _, _ => none
  | n + 1, t6, l7 =>
    (bif decide (t6 < t5) then
 ((Zea N order4 t6).bind fun o12 =>
 (bif !o12.2.1 then
 (bif room ((List.length l7) + (List.length ([t6]))) then
 (Zcn N order4 t5 K0 n (iadd .i64 t6 1) (List.append l7 ([t6]))) else none)
 else
 (Zcn N order4 t5 K0 n (iadd .i64 t6 1) l7)))
 else
 (K0 t6 (decide (t6 < t5)) l7))
noncomputable def Zaw (N : Nat) (order1 : List Int) (kids2 : Int) : Option (Unit × ((List Int) × Unit)) :=
    ((Zg N order1).bind fun o3 =>
 (Zcn N order1 kids2
 (fun t13 t14 l15 =>
   (some ((), (l15, ()))))
  N 0 o3.2.1))
noncomputable def Zdu (N : Nat) (o1 : Int × Int × Int × Int) (regs2 : List Int) (s3 : List Int × List Int × Int) : Option (((List Int) × ((List Int × List Int × Int) × Unit)) × Unit) :=
    (bif o1.1 == 5 then
 (bif inb o1.2.2.1 (List.length s3.1) then
 (bif inb o1.2.1 (List.length regs2) then
 (some ((List.set regs2 (Int.toNat o1.2.1) (List.getD s3.1 (Int.toNat o1.2.2.1) 0), (s3, ())), ())) else none) else none)
 else
 (bif o1.1 == 6 then
 (bif inb o1.2.2.1 (List.length regs2) then
 (bif inb o1.2.1 (List.length s3.1) then
 (some ((regs2, ((List.set s3.1 (Int.toNat o1.2.1) (List.getD regs2 (Int.toNat o1.2.2.1) 0), s3.2), ())), ())) else none) else none)
 else
 (bif o1.1 == 12 then
 (bif inb o1.2.1 (List.length s3.2.1) then
 (bif inb o1.2.2.1 (List.length regs2) then
 (bif inb o1.2.1 (List.length s3.2.1) then
 (bif inz 65536 then
 (bif inb o1.2.2.2 (List.length regs2) then
 (some ((List.set regs2 (Int.toNat o1.2.2.2) (irem (List.getD s3.2.1 (Int.toNat o1.2.1) 0) 65536), ((s3.1, (List.set s3.2.1 (Int.toNat o1.2.1) (iadd .i64 (List.getD regs2 (Int.toNat o1.2.2.1) 0) 1), s3.2.2)), ())), ())) else none) else none) else none) else none) else none)
 else
 (bif o1.1 == 13 then
 (bif inb o1.2.2.1 (List.length s3.2.1) then
 (bif inz 65536 then
 (bif inb o1.2.1 (List.length regs2) then
 (some ((List.set regs2 (Int.toNat o1.2.1) (irem (List.getD s3.2.1 (Int.toNat o1.2.2.1) 0) 65536), (s3, ())), ())) else none) else none) else none)
 else
 (bif o1.1 == 14 then
 (bif inb o1.2.1 (List.length s3.2.1) then
 (bif inz 65536 then
 (bif inb o1.2.2.1 (List.length regs2) then
 (bif inb o1.2.1 (List.length s3.2.1) then
 (some ((List.set regs2 (Int.toNat o1.2.2.1) (irem (List.getD s3.2.1 (Int.toNat o1.2.1) 0) 65536), ((s3.1, (List.set s3.2.1 (Int.toNat o1.2.1) 0, s3.2.2)), ())), ())) else none) else none) else none) else none)
 else
 (bif o1.1 == 15 then
 (bif inb o1.2.1 (List.length regs2) then
 (bif inz 65536 then
 (some ((regs2, ((s3.1, (s3.2.1, irem (iadd .i64 s3.2.2 (List.getD regs2 (Int.toNat o1.2.1) 0)) 65536)), ())), ())) else none) else none)
 else
 (bif o1.1 == 16 then
 (bif inb o1.2.1 (List.length regs2) then
 (some ((List.set regs2 (Int.toNat o1.2.1) s3.2.2, (s3, ())), ())) else none)
 else
 (some ((regs2, (s3, ())), ())))))))))
noncomputable def Z3 {R : Type} (N : Nat) (rec : (List (Int × Int × Int × Int)) → (List (List (Int × Int × Int × Int))) → (List Int) → (List Int) → (List Int × List Int × Int) → Option (Unit × ((Int × List Int × List Int × List Int × Int) × Unit))) (code27 : List (Int × Int × Int × Int)) (kids28 : List (List (Int × Int × Int × Int))) (order29 : List Int) (i30 : Int) (t31 : Int) (b34 : List Int × List Int × Int) (b35 : Int) (b36 : Int) (b37 : Int) (l38 : List (Int × List Int × List Int × List Int × Int)) (l39 : List Int) (l40 : List Int) (l42 : List Int) (K0 : Int → Bool → (List Int) → (List Int) → Option R) : Nat → Int → (List Int) → (List Int) → Option R
  | 0, _, _, _ => none
  | n + 1, t32, l33, l41 =>
    (bif decide (t32 < t31) then
 (bif inb t32 (List.length l40) then
 (both
 (bif inb (List.getD l40 (Int.toNat t32) 0) (List.length kids28) then
 (bif ((decide ((0 : Int) ≤ 8)) && (decide ((8 : Int) ≤ 8))) && (room (Int.toNat 8)) then
 ((rec (List.getD kids28 (Int.toNat (List.getD l40 (Int.toNat t32) 0)) ([] : List (Int × Int × Int × Int))) ([] : List (List (Int × Int × Int × Int))) ([] : List Int) l39 (l41, (List.replicate (Int.toNat 8) 0, 0))).bind fun o53 =>
 (bif inb (List.getD l40 (Int.toNat t32) 0) (List.length l33) then
 (bif o53.2.1.1 == 1 then
 (bif inb 0 (List.length o53.2.1.2.1) then
 (bif inb (List.getD l40 (Int.toNat t32) 0) (List.length (List.set l33 (Int.toNat (List.getD l40 (Int.toNat t32) 0)) 0)) then
 (share (List.set l33 (Int.toNat (List.getD l40 (Int.toNat t32) 0)) 0) fun s54 =>
 (Z3 N rec code27 kids28 order29 i30 t31 b34 b35 b36 b37 l38 l39 l40 l42 K0 n (iadd .i64 t32 1) (List.set s54 (Int.toNat (List.getD l40 (Int.toNat t32) 0)) (List.getD o53.2.1.2.1 (Int.toNat 0) 0)) o53.2.1.2.2.1)) else none) else none)
 else
 (Z3 N rec code27 kids28 order29 i30 t31 b34 b35 b36 b37 l38 l39 l40 l42 K0 n (iadd .i64 t32 1) (List.set l33 (Int.toNat (List.getD l40 (Int.toNat t32) 0)) 0) o53.2.1.2.2.1)) else none)) else none) else none)
 (both
 (bif inb (List.getD l40 (Int.toNat t32) 0) (List.length kids28) then
 (bif ((decide ((0 : Int) ≤ 8)) && (decide ((8 : Int) ≤ 8))) && (room (Int.toNat 8)) then
 ((rec (List.getD kids28 (Int.toNat (List.getD l40 (Int.toNat t32) 0)) ([] : List (Int × Int × Int × Int))) ([] : List (List (Int × Int × Int × Int))) ([] : List Int) l39 (l41, (List.replicate (Int.toNat 8) 0, 0))).bind fun o55 =>
 (bif inb (List.getD l40 (Int.toNat t32) 0) (List.length l33) then
 (bif o55.2.1.1 == 1 then
 (bif inb 0 (List.length o55.2.1.2.1) then
 (bif inb (List.getD l40 (Int.toNat t32) 0) (List.length (List.set l33 (Int.toNat (List.getD l40 (Int.toNat t32) 0)) 0)) then
 (share (List.set l33 (Int.toNat (List.getD l40 (Int.toNat t32) 0)) 0) fun s56 =>
 (Z3 N rec code27 kids28 order29 i30 t31 b34 b35 b36 b37 l38 l39 l40 l42 K0 n (iadd .i64 t32 1) (List.set s56 (Int.toNat (List.getD l40 (Int.toNat t32) 0)) (List.getD o55.2.1.2.1 (Int.toNat 0) 0)) o55.2.1.2.2.1)) else none) else none)
 else
 (Z3 N rec code27 kids28 order29 i30 t31 b34 b35 b36 b37 l38 l39 l40 l42 K0 n (iadd .i64 t32 1) (List.set l33 (Int.toNat (List.getD l40 (Int.toNat t32) 0)) 0) o55.2.1.2.2.1)) else none)) else none) else none)
 (bif inb (List.getD l40 (Int.toNat t32) 0) (List.length kids28) then
 (bif ((decide ((0 : Int) ≤ 8)) && (decide ((8 : Int) ≤ 8))) && (room (Int.toNat 8)) then
 ((rec (List.getD kids28 (Int.toNat (List.getD l40 (Int.toNat t32) 0)) ([] : List (Int × Int × Int × Int))) ([] : List (List (Int × Int × Int × Int))) ([] : List Int) l39 (l41, (List.replicate (Int.toNat 8) 0, 0))).bind fun o57 =>
 (bif inb (List.getD l40 (Int.toNat t32) 0) (List.length l33) then
 (bif o57.2.1.1 == 1 then
 (bif inb 0 (List.length o57.2.1.2.1) then
 (bif inb (List.getD l40 (Int.toNat t32) 0) (List.length (List.set l33 (Int.toNat (List.getD l40 (Int.toNat t32) 0)) 0)) then
 (share (List.set l33 (Int.toNat (List.getD l40 (Int.toNat t32) 0)) 0) fun s58 =>
 (Z3 N rec code27 kids28 order29 i30 t31 b34 b35 b36 b37 l38 l39 l40 l42 K0 n (iadd .i64 t32 1) (List.set s58 (Int.toNat (List.getD l40 (Int.toNat t32) 0)) (List.getD o57.2.1.2.1 (Int.toNat 0) 0)) o57.2.1.2.2.1)) else none) else none)
 else
 (Z3 N rec code27 kids28 order29 i30 t31 b34 b35 b36 b37 l38 l39 l40 l42 K0 n (iadd .i64 t32 1) (List.set l33 (Int.toNat (List.getD l40 (Int.toNat t32) 0)) 0) o57.2.1.2.2.1)) else none)) else none) else none))) else none)
 else
 (K0 t32 (decide (t32 < t31)) l33 l41))
noncomputable def Ze {R : Type} (N : Nat) (rec : (List (Int × Int × Int × Int)) → (List (List (Int × Int × Int × Int))) → (List Int) → (List Int) → (List Int × List Int × Int) → Option (Unit × ((Int × List Int × List Int × List Int × Int) × Unit))) (code8 : List (Int × Int × Int × Int)) (kids9 : List (List (Int × Int × Int × Int))) (order10 : List Int) (b13 : List Int × List Int × Int) (K0 : Int → (List Int) → (List Int) → (List Int) → Option R) (K1 : Int → Bool → (List Int) → Int → (List (Int × List Int × List Int × List Int × Int)) → (List Int) → (List Int) → Option R) : Nat → Int → (List Int) → Int → (List (Int × List Int × List Int × List Int × Int)) → (List Int) → (List Int) → Option R
  | 0, _, _, _, _, _, _ => none
  | n + 1, i11, l12, b16, l17, l18, l19 =>
    (bif decide (i11 < (ilen code8)) then
 (bif inb i11 (List.length code8) then
 (bif (List.getD code8 (Int.toNat i11) (0, 0, 0, 0)).1 == 1 then
 (bif (List.getD code8 (Int.toNat i11) (0, 0, 0, 0)).1 == 1 then
 ((Zdr N (List.getD code8 (Int.toNat i11) (0, 0, 0, 0)) l12).bind fun o159 =>
 (Ze N rec code8 kids9 order10 b13 K0 K1 n (iadd .i64 i11 1) o159.2.1 b16 l17 l18 l19))
 else
 (bif (List.getD code8 (Int.toNat i11) (0, 0, 0, 0)).1 == 7 then
 (bif inb (List.getD code8 (Int.toNat i11) (0, 0, 0, 0)).2.1 (List.length l12) then
 (bif (List.getD l12 (Int.toNat (List.getD code8 (Int.toNat i11) (0, 0, 0, 0)).2.1) 0) == 0 then
 (Ze N rec code8 kids9 order10 b13 K0 K1 n (iadd .i64 (iadd .i64 i11 (List.getD code8 (Int.toNat i11) (0, 0, 0, 0)).2.2.1) 1) l12 b16 l17 l18 l19)
 else
 (Ze N rec code8 kids9 order10 b13 K0 K1 n (iadd .i64 i11 1) l12 b16 l17 l18 l19)) else none)
 else
 (bif (List.getD code8 (Int.toNat i11) (0, 0, 0, 0)).1 == 8 then
 ((Zg N l12).bind fun o160 =>
 ((Z2 N (l18, (l19, b16))).bind fun o161 =>
 (bif room ((List.length l17) + (List.length ([(i11, (o160.2.1, o161.2.1))]))) then
 (Ze N rec code8 kids9 order10 b13 K0 K1 n (iadd .i64 i11 1) l12 b16 (List.append l17 ([(i11, (o160.2.1, o161.2.1))])) l18 l19) else none)))
 else
 (bif (List.getD code8 (Int.toNat i11) (0, 0, 0, 0)).1 == 9 then
 (bif inb (isub .i64 (ilen l17) 1) (List.length l17) then
 (bif ((decide ((0 : Int) ≤ (isub .i64 (ilen l17) 1))) && (decide ((isub .i64 (ilen l17) 1) ≤ ((List.length l17) : Int)))) && (decide ((isub .i64 (ilen l17) 1) ≤ ((Int.toNat (isub .i64 (ilen l17) 1)) : Int))) then
 (bif inb (List.getD l17 (Int.toNat (isub .i64 (ilen l17) 1)) (0, (([] : List Int), (([] : List Int), (([] : List Int), 0))))).1 (List.length code8) then
 (bif inb (List.getD code8 (Int.toNat (List.getD l17 (Int.toNat (isub .i64 (ilen l17) 1)) (0, (([] : List Int), (([] : List Int), (([] : List Int), 0))))).1) (0, 0, 0, 0)).2.1 (List.length l12) then
 (Ze N rec code8 kids9 order10 b13 K0 K1 n (iadd .i64 i11 1) (List.set l12 (Int.toNat (List.getD code8 (Int.toNat (List.getD l17 (Int.toNat (isub .i64 (ilen l17) 1)) (0, (([] : List Int), (([] : List Int), (([] : List Int), 0))))).1) (0, 0, 0, 0)).2.1) 1) b16 (List.take (Int.toNat (isub .i64 (ilen l17) 1)) l17) l18 l19) else none) else none) else none) else none)
 else
 (bif (List.getD code8 (Int.toNat i11) (0, 0, 0, 0)).1 == 10 then
 (bif (ilen l17) == 0 then
 ((Z2 N b13).bind fun o162 =>
 (K0 o162.2.1.2.2 l12 o162.2.1.1 o162.2.1.2.1))
 else
 (bif inb (isub .i64 (ilen l17) 1) (List.length l17) then
 (bif ((decide ((0 : Int) ≤ (isub .i64 (ilen l17) 1))) && (decide ((isub .i64 (ilen l17) 1) ≤ ((List.length l17) : Int)))) && (decide ((isub .i64 (ilen l17) 1) ≤ ((Int.toNat (isub .i64 (ilen l17) 1)) : Int))) then
 (bif inb (List.getD l17 (Int.toNat (isub .i64 (ilen l17) 1)) (0, (([] : List Int), (([] : List Int), (([] : List Int), 0))))).1 (List.length code8) then
 (bif inb (List.getD code8 (Int.toNat (List.getD l17 (Int.toNat (isub .i64 (ilen l17) 1)) (0, (([] : List Int), (([] : List Int), (([] : List Int), 0))))).1) (0, 0, 0, 0)).2.1 (List.length (List.getD l17 (Int.toNat (isub .i64 (ilen l17) 1)) (0, (([] : List Int), (([] : List Int), (([] : List Int), 0))))).2.1) then
 ((Za0 N code8 (List.getD l17 (Int.toNat (isub .i64 (ilen l17) 1)) (0, (([] : List Int), (([] : List Int), (([] : List Int), 0))))).1).bind fun o163 =>
 (Ze N rec code8 kids9 order10 b13 K0 K1 n (iadd .i64 o163.2.1 1) (List.set (List.getD l17 (Int.toNat (isub .i64 (ilen l17) 1)) (0, (([] : List Int), (([] : List Int), (([] : List Int), 0))))).2.1 (Int.toNat (List.getD code8 (Int.toNat (List.getD l17 (Int.toNat (isub .i64 (ilen l17) 1)) (0, (([] : List Int), (([] : List Int), (([] : List Int), 0))))).1) (0, 0, 0, 0)).2.1) 0) (List.getD l17 (Int.toNat (isub .i64 (ilen l17) 1)) (0, (([] : List Int), (([] : List Int), (([] : List Int), 0))))).2.2.2.2 (List.take (Int.toNat (isub .i64 (ilen l17) 1)) l17) (List.getD l17 (Int.toNat (isub .i64 (ilen l17) 1)) (0, (([] : List Int), (([] : List Int), (([] : List Int), 0))))).2.2.1 (List.getD l17 (Int.toNat (isub .i64 (ilen l17) 1)) (0, (([] : List Int), (([] : List Int), (([] : List Int), 0))))).2.2.2.1)) else none) else none) else none) else none))
 else
 (bif (List.getD code8 (Int.toNat i11) (0, 0, 0, 0)).1 == 11 then
 ((Zg N l12).bind fun o164 =>
 ((Zaw N order10 (ilen kids9)).bind fun o165 =>
 (Z3 N rec code8 kids9 order10 i11 (ilen o165.2.1) b13 0 0 b16 l17 o164.2.1 o165.2.1 l19
 (fun t166 t167 l168 l169 =>
   (Ze N rec code8 kids9 order10 b13 K0 K1 n (iadd .i64 i11 1) l168 b16 l17 l169 l19))
  N 0 l12 l18)))
 else
 ((Zdu N (List.getD code8 (Int.toNat i11) (0, 0, 0, 0)) l12 (l18, (l19, b16))).bind fun o170 =>
 (Ze N rec code8 kids9 order10 b13 K0 K1 n (iadd .i64 i11 1) o170.1.1 o170.1.2.1.2.2 l17 o170.1.2.1.1 o170.1.2.1.2.1))))))))
 else
 (bif (List.getD code8 (Int.toNat i11) (0, 0, 0, 0)).1 == 2 then
 (bif (List.getD code8 (Int.toNat i11) (0, 0, 0, 0)).1 == 2 then
 ((Zdr N (List.getD code8 (Int.toNat i11) (0, 0, 0, 0)) l12).bind fun o171 =>
 (Ze N rec code8 kids9 order10 b13 K0 K1 n (iadd .i64 i11 1) o171.2.1 b16 l17 l18 l19))
 else
 (bif (List.getD code8 (Int.toNat i11) (0, 0, 0, 0)).1 == 7 then
 (bif inb (List.getD code8 (Int.toNat i11) (0, 0, 0, 0)).2.1 (List.length l12) then
 (bif (List.getD l12 (Int.toNat (List.getD code8 (Int.toNat i11) (0, 0, 0, 0)).2.1) 0) == 0 then
 (Ze N rec code8 kids9 order10 b13 K0 K1 n (iadd .i64 (iadd .i64 i11 (List.getD code8 (Int.toNat i11) (0, 0, 0, 0)).2.2.1) 1) l12 b16 l17 l18 l19)
 else
 (Ze N rec code8 kids9 order10 b13 K0 K1 n (iadd .i64 i11 1) l12 b16 l17 l18 l19)) else none)
 else
 (bif (List.getD code8 (Int.toNat i11) (0, 0, 0, 0)).1 == 8 then
 ((Zg N l12).bind fun o172 =>
 ((Z2 N (l18, (l19, b16))).bind fun o173 =>
 (bif room ((List.length l17) + (List.length ([(i11, (o172.2.1, o173.2.1))]))) then
 (Ze N rec code8 kids9 order10 b13 K0 K1 n (iadd .i64 i11 1) l12 b16 (List.append l17 ([(i11, (o172.2.1, o173.2.1))])) l18 l19) else none)))
 else
 (bif (List.getD code8 (Int.toNat i11) (0, 0, 0, 0)).1 == 9 then
 (bif inb (isub .i64 (ilen l17) 1) (List.length l17) then
 (bif ((decide ((0 : Int) ≤ (isub .i64 (ilen l17) 1))) && (decide ((isub .i64 (ilen l17) 1) ≤ ((List.length l17) : Int)))) && (decide ((isub .i64 (ilen l17) 1) ≤ ((Int.toNat (isub .i64 (ilen l17) 1)) : Int))) then
 (bif inb (List.getD l17 (Int.toNat (isub .i64 (ilen l17) 1)) (0, (([] : List Int), (([] : List Int), (([] : List Int), 0))))).1 (List.length code8) then
 (bif inb (List.getD code8 (Int.toNat (List.getD l17 (Int.toNat (isub .i64 (ilen l17) 1)) (0, (([] : List Int), (([] : List Int), (([] : List Int), 0))))).1) (0, 0, 0, 0)).2.1 (List.length l12) then
 (Ze N rec code8 kids9 order10 b13 K0 K1 n (iadd .i64 i11 1) (List.set l12 (Int.toNat (List.getD code8 (Int.toNat (List.getD l17 (Int.toNat (isub .i64 (ilen l17) 1)) (0, (([] : List Int), (([] : List Int), (([] : List Int), 0))))).1) (0, 0, 0, 0)).2.1) 1) b16 (List.take (Int.toNat (isub .i64 (ilen l17) 1)) l17) l18 l19) else none) else none) else none) else none)
 else
 (bif (List.getD code8 (Int.toNat i11) (0, 0, 0, 0)).1 == 10 then
 (bif (ilen l17) == 0 then
 ((Z2 N b13).bind fun o174 =>
 (K0 o174.2.1.2.2 l12 o174.2.1.1 o174.2.1.2.1))
 else
 (bif inb (isub .i64 (ilen l17) 1) (List.length l17) then
 (bif ((decide ((0 : Int) ≤ (isub .i64 (ilen l17) 1))) && (decide ((isub .i64 (ilen l17) 1) ≤ ((List.length l17) : Int)))) && (decide ((isub .i64 (ilen l17) 1) ≤ ((Int.toNat (isub .i64 (ilen l17) 1)) : Int))) then
 (bif inb (List.getD l17 (Int.toNat (isub .i64 (ilen l17) 1)) (0, (([] : List Int), (([] : List Int), (([] : List Int), 0))))).1 (List.length code8) then
 (bif inb (List.getD code8 (Int.toNat (List.getD l17 (Int.toNat (isub .i64 (ilen l17) 1)) (0, (([] : List Int), (([] : List Int), (([] : List Int), 0))))).1) (0, 0, 0, 0)).2.1 (List.length (List.getD l17 (Int.toNat (isub .i64 (ilen l17) 1)) (0, (([] : List Int), (([] : List Int), (([] : List Int), 0))))).2.1) then
 ((Za0 N code8 (List.getD l17 (Int.toNat (isub .i64 (ilen l17) 1)) (0, (([] : List Int), (([] : List Int), (([] : List Int), 0))))).1).bind fun o175 =>
 (Ze N rec code8 kids9 order10 b13 K0 K1 n (iadd .i64 o175.2.1 1) (List.set (List.getD l17 (Int.toNat (isub .i64 (ilen l17) 1)) (0, (([] : List Int), (([] : List Int), (([] : List Int), 0))))).2.1 (Int.toNat (List.getD code8 (Int.toNat (List.getD l17 (Int.toNat (isub .i64 (ilen l17) 1)) (0, (([] : List Int), (([] : List Int), (([] : List Int), 0))))).1) (0, 0, 0, 0)).2.1) 0) (List.getD l17 (Int.toNat (isub .i64 (ilen l17) 1)) (0, (([] : List Int), (([] : List Int), (([] : List Int), 0))))).2.2.2.2 (List.take (Int.toNat (isub .i64 (ilen l17) 1)) l17) (List.getD l17 (Int.toNat (isub .i64 (ilen l17) 1)) (0, (([] : List Int), (([] : List Int), (([] : List Int), 0))))).2.2.1 (List.getD l17 (Int.toNat (isub .i64 (ilen l17) 1)) (0, (([] : List Int), (([] : List Int), (([] : List Int), 0))))).2.2.2.1)) else none) else none) else none) else none))
 else
 (bif (List.getD code8 (Int.toNat i11) (0, 0, 0, 0)).1 == 11 then
 ((Zg N l12).bind fun o176 =>
 ((Zaw N order10 (ilen kids9)).bind fun o177 =>
 (Z3 N rec code8 kids9 order10 i11 (ilen o177.2.1) b13 0 0 b16 l17 o176.2.1 o177.2.1 l19
 (fun t178 t179 l180 l181 =>
   (Ze N rec code8 kids9 order10 b13 K0 K1 n (iadd .i64 i11 1) l180 b16 l17 l181 l19))
  N 0 l12 l18)))
 else
 ((Zdu N (List.getD code8 (Int.toNat i11) (0, 0, 0, 0)) l12 (l18, (l19, b16))).bind fun o182 =>
 (Ze N rec code8 kids9 order10 b13 K0 K1 n (iadd .i64 i11 1) o182.1.1 o182.1.2.1.2.2 l17 o182.1.2.1.1 o182.1.2.1.2.1))))))))
 else
 (bif (List.getD code8 (Int.toNat i11) (0, 0, 0, 0)).1 == 3 then
 (bif (List.getD code8 (Int.toNat i11) (0, 0, 0, 0)).1 == 3 then
 ((Zdr N (List.getD code8 (Int.toNat i11) (0, 0, 0, 0)) l12).bind fun o183 =>
 (Ze N rec code8 kids9 order10 b13 K0 K1 n (iadd .i64 i11 1) o183.2.1 b16 l17 l18 l19))
 else
 (bif (List.getD code8 (Int.toNat i11) (0, 0, 0, 0)).1 == 7 then
 (bif inb (List.getD code8 (Int.toNat i11) (0, 0, 0, 0)).2.1 (List.length l12) then
 (bif (List.getD l12 (Int.toNat (List.getD code8 (Int.toNat i11) (0, 0, 0, 0)).2.1) 0) == 0 then
 (Ze N rec code8 kids9 order10 b13 K0 K1 n (iadd .i64 (iadd .i64 i11 (List.getD code8 (Int.toNat i11) (0, 0, 0, 0)).2.2.1) 1) l12 b16 l17 l18 l19)
 else
 (Ze N rec code8 kids9 order10 b13 K0 K1 n (iadd .i64 i11 1) l12 b16 l17 l18 l19)) else none)
 else
 (bif (List.getD code8 (Int.toNat i11) (0, 0, 0, 0)).1 == 8 then
 ((Zg N l12).bind fun o184 =>
 ((Z2 N (l18, (l19, b16))).bind fun o185 =>
 (bif room ((List.length l17) + (List.length ([(i11, (o184.2.1, o185.2.1))]))) then
 (Ze N rec code8 kids9 order10 b13 K0 K1 n (iadd .i64 i11 1) l12 b16 (List.append l17 ([(i11, (o184.2.1, o185.2.1))])) l18 l19) else none)))
 else
 (bif (List.getD code8 (Int.toNat i11) (0, 0, 0, 0)).1 == 9 then
 (bif inb (isub .i64 (ilen l17) 1) (List.length l17) then
 (bif ((decide ((0 : Int) ≤ (isub .i64 (ilen l17) 1))) && (decide ((isub .i64 (ilen l17) 1) ≤ ((List.length l17) : Int)))) && (decide ((isub .i64 (ilen l17) 1) ≤ ((Int.toNat (isub .i64 (ilen l17) 1)) : Int))) then
 (bif inb (List.getD l17 (Int.toNat (isub .i64 (ilen l17) 1)) (0, (([] : List Int), (([] : List Int), (([] : List Int), 0))))).1 (List.length code8) then
 (bif inb (List.getD code8 (Int.toNat (List.getD l17 (Int.toNat (isub .i64 (ilen l17) 1)) (0, (([] : List Int), (([] : List Int), (([] : List Int), 0))))).1) (0, 0, 0, 0)).2.1 (List.length l12) then
 (Ze N rec code8 kids9 order10 b13 K0 K1 n (iadd .i64 i11 1) (List.set l12 (Int.toNat (List.getD code8 (Int.toNat (List.getD l17 (Int.toNat (isub .i64 (ilen l17) 1)) (0, (([] : List Int), (([] : List Int), (([] : List Int), 0))))).1) (0, 0, 0, 0)).2.1) 1) b16 (List.take (Int.toNat (isub .i64 (ilen l17) 1)) l17) l18 l19) else none) else none) else none) else none)
 else
 (bif (List.getD code8 (Int.toNat i11) (0, 0, 0, 0)).1 == 10 then
 (bif (ilen l17) == 0 then
 ((Z2 N b13).bind fun o186 =>
 (K0 o186.2.1.2.2 l12 o186.2.1.1 o186.2.1.2.1))
 else
 (bif inb (isub .i64 (ilen l17) 1) (List.length l17) then
 (bif ((decide ((0 : Int) ≤ (isub .i64 (ilen l17) 1))) && (decide ((isub .i64 (ilen l17) 1) ≤ ((List.length l17) : Int)))) && (decide ((isub .i64 (ilen l17) 1) ≤ ((Int.toNat (isub .i64 (ilen l17) 1)) : Int))) then
 (bif inb (List.getD l17 (Int.toNat (isub .i64 (ilen l17) 1)) (0, (([] : List Int), (([] : List Int), (([] : List Int), 0))))).1 (List.length code8) then
 (bif inb (List.getD code8 (Int.toNat (List.getD l17 (Int.toNat (isub .i64 (ilen l17) 1)) (0, (([] : List Int), (([] : List Int), (([] : List Int), 0))))).1) (0, 0, 0, 0)).2.1 (List.length (List.getD l17 (Int.toNat (isub .i64 (ilen l17) 1)) (0, (([] : List Int), (([] : List Int), (([] : List Int), 0))))).2.1) then
 ((Za0 N code8 (List.getD l17 (Int.toNat (isub .i64 (ilen l17) 1)) (0, (([] : List Int), (([] : List Int), (([] : List Int), 0))))).1).bind fun o187 =>
 (Ze N rec code8 kids9 order10 b13 K0 K1 n (iadd .i64 o187.2.1 1) (List.set (List.getD l17 (Int.toNat (isub .i64 (ilen l17) 1)) (0, (([] : List Int), (([] : List Int), (([] : List Int), 0))))).2.1 (Int.toNat (List.getD code8 (Int.toNat (List.getD l17 (Int.toNat (isub .i64 (ilen l17) 1)) (0, (([] : List Int), (([] : List Int), (([] : List Int), 0))))).1) (0, 0, 0, 0)).2.1) 0) (List.getD l17 (Int.toNat (isub .i64 (ilen l17) 1)) (0, (([] : List Int), (([] : List Int), (([] : List Int), 0))))).2.2.2.2 (List.take (Int.toNat (isub .i64 (ilen l17) 1)) l17) (List.getD l17 (Int.toNat (isub .i64 (ilen l17) 1)) (0, (([] : List Int), (([] : List Int), (([] : List Int), 0))))).2.2.1 (List.getD l17 (Int.toNat (isub .i64 (ilen l17) 1)) (0, (([] : List Int), (([] : List Int), (([] : List Int), 0))))).2.2.2.1)) else none) else none) else none) else none))
 else
 (bif (List.getD code8 (Int.toNat i11) (0, 0, 0, 0)).1 == 11 then
 ((Zg N l12).bind fun o188 =>
 ((Zaw N order10 (ilen kids9)).bind fun o189 =>
 (Z3 N rec code8 kids9 order10 i11 (ilen o189.2.1) b13 0 0 b16 l17 o188.2.1 o189.2.1 l19
 (fun t190 t191 l192 l193 =>
   (Ze N rec code8 kids9 order10 b13 K0 K1 n (iadd .i64 i11 1) l192 b16 l17 l193 l19))
  N 0 l12 l18)))
 else
 ((Zdu N (List.getD code8 (Int.toNat i11) (0, 0, 0, 0)) l12 (l18, (l19, b16))).bind fun o194 =>
 (Ze N rec code8 kids9 order10 b13 K0 K1 n (iadd .i64 i11 1) o194.1.1 o194.1.2.1.2.2 l17 o194.1.2.1.1 o194.1.2.1.2.1))))))))
 else
 (bif (List.getD code8 (Int.toNat i11) (0, 0, 0, 0)).1 == 4 then
 ((Zdr N (List.getD code8 (Int.toNat i11) (0, 0, 0, 0)) l12).bind fun o195 =>
 (Ze N rec code8 kids9 order10 b13 K0 K1 n (iadd .i64 i11 1) o195.2.1 b16 l17 l18 l19))
 else
 (bif (List.getD code8 (Int.toNat i11) (0, 0, 0, 0)).1 == 7 then
 (bif inb (List.getD code8 (Int.toNat i11) (0, 0, 0, 0)).2.1 (List.length l12) then
 (bif (List.getD l12 (Int.toNat (List.getD code8 (Int.toNat i11) (0, 0, 0, 0)).2.1) 0) == 0 then
 (Ze N rec code8 kids9 order10 b13 K0 K1 n (iadd .i64 (iadd .i64 i11 (List.getD code8 (Int.toNat i11) (0, 0, 0, 0)).2.2.1) 1) l12 b16 l17 l18 l19)
 else
 (Ze N rec code8 kids9 order10 b13 K0 K1 n (iadd .i64 i11 1) l12 b16 l17 l18 l19)) else none)
 else
 (bif (List.getD code8 (Int.toNat i11) (0, 0, 0, 0)).1 == 8 then
 ((Zg N l12).bind fun o196 =>
 ((Z2 N (l18, (l19, b16))).bind fun o197 =>
 (bif room ((List.length l17) + (List.length ([(i11, (o196.2.1, o197.2.1))]))) then
 (Ze N rec code8 kids9 order10 b13 K0 K1 n (iadd .i64 i11 1) l12 b16 (List.append l17 ([(i11, (o196.2.1, o197.2.1))])) l18 l19) else none)))
 else
 (bif (List.getD code8 (Int.toNat i11) (0, 0, 0, 0)).1 == 9 then
 (bif inb (isub .i64 (ilen l17) 1) (List.length l17) then
 (bif ((decide ((0 : Int) ≤ (isub .i64 (ilen l17) 1))) && (decide ((isub .i64 (ilen l17) 1) ≤ ((List.length l17) : Int)))) && (decide ((isub .i64 (ilen l17) 1) ≤ ((Int.toNat (isub .i64 (ilen l17) 1)) : Int))) then
 (bif inb (List.getD l17 (Int.toNat (isub .i64 (ilen l17) 1)) (0, (([] : List Int), (([] : List Int), (([] : List Int), 0))))).1 (List.length code8) then
 (bif inb (List.getD code8 (Int.toNat (List.getD l17 (Int.toNat (isub .i64 (ilen l17) 1)) (0, (([] : List Int), (([] : List Int), (([] : List Int), 0))))).1) (0, 0, 0, 0)).2.1 (List.length l12) then
 (Ze N rec code8 kids9 order10 b13 K0 K1 n (iadd .i64 i11 1) (List.set l12 (Int.toNat (List.getD code8 (Int.toNat (List.getD l17 (Int.toNat (isub .i64 (ilen l17) 1)) (0, (([] : List Int), (([] : List Int), (([] : List Int), 0))))).1) (0, 0, 0, 0)).2.1) 1) b16 (List.take (Int.toNat (isub .i64 (ilen l17) 1)) l17) l18 l19) else none) else none) else none) else none)
 else
 (bif (List.getD code8 (Int.toNat i11) (0, 0, 0, 0)).1 == 10 then
 (bif (ilen l17) == 0 then
 ((Z2 N b13).bind fun o198 =>
 (K0 o198.2.1.2.2 l12 o198.2.1.1 o198.2.1.2.1))
 else
 (bif inb (isub .i64 (ilen l17) 1) (List.length l17) then
 (bif ((decide ((0 : Int) ≤ (isub .i64 (ilen l17) 1))) && (decide ((isub .i64 (ilen l17) 1) ≤ ((List.length l17) : Int)))) && (decide ((isub .i64 (ilen l17) 1) ≤ ((Int.toNat (isub .i64 (ilen l17) 1)) : Int))) then
 (bif inb (List.getD l17 (Int.toNat (isub .i64 (ilen l17) 1)) (0, (([] : List Int), (([] : List Int), (([] : List Int), 0))))).1 (List.length code8) then
 (bif inb (List.getD code8 (Int.toNat (List.getD l17 (Int.toNat (isub .i64 (ilen l17) 1)) (0, (([] : List Int), (([] : List Int), (([] : List Int), 0))))).1) (0, 0, 0, 0)).2.1 (List.length (List.getD l17 (Int.toNat (isub .i64 (ilen l17) 1)) (0, (([] : List Int), (([] : List Int), (([] : List Int), 0))))).2.1) then
 ((Za0 N code8 (List.getD l17 (Int.toNat (isub .i64 (ilen l17) 1)) (0, (([] : List Int), (([] : List Int), (([] : List Int), 0))))).1).bind fun o199 =>
 (Ze N rec code8 kids9 order10 b13 K0 K1 n (iadd .i64 o199.2.1 1) (List.set (List.getD l17 (Int.toNat (isub .i64 (ilen l17) 1)) (0, (([] : List Int), (([] : List Int), (([] : List Int), 0))))).2.1 (Int.toNat (List.getD code8 (Int.toNat (List.getD l17 (Int.toNat (isub .i64 (ilen l17) 1)) (0, (([] : List Int), (([] : List Int), (([] : List Int), 0))))).1) (0, 0, 0, 0)).2.1) 0) (List.getD l17 (Int.toNat (isub .i64 (ilen l17) 1)) (0, (([] : List Int), (([] : List Int), (([] : List Int), 0))))).2.2.2.2 (List.take (Int.toNat (isub .i64 (ilen l17) 1)) l17) (List.getD l17 (Int.toNat (isub .i64 (ilen l17) 1)) (0, (([] : List Int), (([] : List Int), (([] : List Int), 0))))).2.2.1 (List.getD l17 (Int.toNat (isub .i64 (ilen l17) 1)) (0, (([] : List Int), (([] : List Int), (([] : List Int), 0))))).2.2.2.1)) else none) else none) else none) else none))
 else
 (bif (List.getD code8 (Int.toNat i11) (0, 0, 0, 0)).1 == 11 then
 ((Zg N l12).bind fun o200 =>
 ((Zaw N order10 (ilen kids9)).bind fun o201 =>
 (Z3 N rec code8 kids9 order10 i11 (ilen o201.2.1) b13 0 0 b16 l17 o200.2.1 o201.2.1 l19
 (fun t202 t203 l204 l205 =>
   (Ze N rec code8 kids9 order10 b13 K0 K1 n (iadd .i64 i11 1) l204 b16 l17 l205 l19))
  N 0 l12 l18)))
 else
 ((Zdu N (List.getD code8 (Int.toNat i11) (0, 0, 0, 0)) l12 (l18, (l19, b16))).bind fun o206 =>
 (Ze N rec code8 kids9 order10 b13 K0 K1 n (iadd .i64 i11 1) o206.1.1 o206.1.2.1.2.2 l17 o206.1.2.1.1 o206.1.2.1.2.1))))))))))) else none)
 else
 (K1 i11 (decide (i11 < (ilen code8))) l12 b16 l17 l18 l19))
noncomputable def Zab (N : Nat) : Nat → (List (Int × Int × Int × Int)) → (List (List (Int × Int × Int × Int))) → (List Int) → (List Int) → (List Int × List Int × Int) → Option (Unit × ((Int × List Int × List Int × List Int × Int) × Unit))
  | 0, _, _, _, _, _ => none
  | m + 1, code1, kids2, order3, regs4, first5 =>
    ((Zg N regs4).bind fun o6 =>
 ((Z2 N first5).bind fun o7 =>
 (Ze N (Zab N m) code1 kids2 order3 first5
 (fun b207 l208 l209 l210 =>
   (some ((), ((2, (l208, (l209, (l210, b207)))), ()))))
 (fun i211 t212 l213 b214 l215 l216 l217 =>
   (some ((), ((1, (l213, (l216, (l217, b214)))), ()))))
  N 0 o6.2.1 o7.2.1.2.2 ([] : List (Int × List Int × List Int × List Int × Int)) o7.2.1.1 o7.2.1.2.1)))
noncomputable def Zl5 (N : Nat) (code1 : List (Int × Int × Int × Int)) (kids2 : List (List (Int × Int × Int × Int))) (order3 : List Int) (regs4 : List Int) (first5 : List Int × List Int × Int) : Option (Unit × ((Int × List Int × List Int × List Int × Int) × Unit)) := Zab N N code1 kids2 order3 regs4 first5
noncomputable def Zeh (N : Nat) (code1 : List (Int × Int × Int × Int)) (regs2 : List Int) (cells3 : List Int) : Option (Unit × (Int × ((List Int) × ((List Int) × Unit)))) :=
    ((Zby N code1).bind fun o4 =>
 (bif !o4.2.1 then
 (some ((), (0, (([] : List Int), (([] : List Int), ())))))
 else
 ((Zr N regs2 4).bind fun o5 =>
 (bif !o5.2.1 then
 (some ((), (0, (([] : List Int), (([] : List Int), ())))))
 else
 ((Zr N cells3 8).bind fun o6 =>
 (bif !o6.2.1 then
 (some ((), (0, (([] : List Int), (([] : List Int), ())))))
 else
 (bif ((decide ((0 : Int) ≤ 8)) && (decide ((8 : Int) ≤ 8))) && (room (Int.toNat 8)) then
 ((Zl5 N code1 ([] : List (List (Int × Int × Int × Int))) ([] : List Int) regs2 (cells3, (List.replicate (Int.toNat 8) 0, 0))).bind fun o7 =>
 (some ((), (o7.2.1.1, (o7.2.1.2.1, (o7.2.1.2.2.1, ())))))) else none)))))))
noncomputable def Zbr {R : Type} (N : Nat) (regs5 : List Int) (cells6 : List Int) (t7 : List (List (Int × Int × Int × Int))) (K0 : Int → (List Int) → (List Int) → Option R) (K1 : Int → Bool → (List Int) → Option R) : Nat → Int → (List Int) → Option R
  | 0, _, _ => none
  | n + 1, t9, l11 =>
    (bif decide (t9 < (ilen t7)) then
 (bif inb t9 (List.length t7) then
 ((Zeh N (List.getD t7 (Int.toNat t9) ([] : List (Int × Int × Int × Int))) regs5 cells6).bind fun o22 =>
 (bif o22.2.1 == 1 then
 (K0 t9 o22.2.2.1 o22.2.2.2.1)
 else
 ((Zfy N (List.getD t7 (Int.toNat t9) ([] : List (Int × Int × Int × Int))) regs5 cells6).bind fun o23 =>
 (bif room ((List.length l11) + (List.length o23.2.1)) then
 (Zbr N regs5 cells6 t7 K0 K1 n (iadd .i64 t9 1) (List.append l11 o23.2.1)) else none)))) else none)
 else
 (K1 t9 (decide (t9 < (ilen t7))) l11))
noncomputable def Zc3 (N : Nat) (l1 : List (List (Int × Int × Int × Int))) (regs2 : List Int) (cells3 : List Int) : Option (Unit × ((Int × List Int × List Int × List Int) × Unit)) :=
    ((Zer N l1 regs2 cells3).bind fun o4 =>
 (bif !o4.2.1 then
 (some ((), (((-1 : Int), (([] : List Int), (([] : List Int), ([] : List Int)))), ())))
 else
 (Zbr N regs2 cells3 l1
 (fun b24 l25 l26 =>
   (some ((), ((b24, (l25, (l26, ([] : List Int)))), ()))))
 (fun t27 t28 l29 =>
   ((Zad N l29).bind fun o30 =>
 ((Zg N regs2).bind fun o31 =>
 ((Zg N cells3).bind fun o32 =>
 ((Zp N o30.1.1).bind fun o33 =>
 (some ((), (((-1 : Int), (o31.2.1, (o32.2.1, o33.2.1))), ()))))))))
  N 0 ([] : List Int))))
noncomputable def Zbs {R : Type} (N : Nat) (l7 : List (List (Int × Int × Int × Int))) (regs8 : List Int) (cells9 : List Int) (rows10 : List (Int × Int)) (K0 : Int → Option R) (K1 : Int → Bool → Option R) : Nat → Int → Option R
  | 0, _ => none
  | n + 1, n11 =>
    (bif decide (n11 ≤ (ilen rows10)) then
 (bif (decide ((0 : Int) ≤ n11)) && (decide (n11 ≤ ((List.length rows10) : Int))) then
 ((Zcc N cells9 (List.take (Int.toNat n11) rows10)).bind fun o17 =>
 ((Zc2 N l7 regs8 o17.2.1).bind fun o18 =>
 (bif decide (o18.2.1.1 ≥ 0) then
 (K0 n11)
 else
 (Zbs N l7 regs8 cells9 rows10 K0 K1 n (iadd .i64 n11 1))))) else none)
 else
 (K1 n11 (decide (n11 ≤ (ilen rows10)))))
noncomputable def Zc4 (N : Nat) (l1 : List (List (Int × Int × Int × Int))) (regs2 : List Int) (cells3 : List Int) (rows4 : List (Int × Int)) : Option (Unit × (Int × Unit)) :=
    ((Zb0 N l1 regs2 cells3).bind fun o5 =>
 (bif !o5.2.1 then
 (some ((), ((-1 : Int), ())))
 else
 ((Zay N rows4).bind fun o6 =>
 (bif !o6.2.1 then
 (some ((), ((-1 : Int), ())))
 else
 (Zbs N l1 regs2 cells3 rows4
 (fun t19 =>
   (some ((), (t19, ()))))
 (fun n20 t21 =>
   (some ((), ((-1 : Int), ()))))
  N 0)))))
noncomputable def Zbt {R : Type} (N : Nat) (l7 : List (List (Int × Int × Int × Int))) (regs8 : List Int) (cells9 : List Int) (rows10 : List (Int × Int)) (K0 : Int → Option R) (K1 : Int → Bool → Option R) : Nat → Int → Option R
  | 0, _ => none
  | n + 1, n11 =>
    (bif decide (n11 ≤ (ilen rows10)) then
 (bif (decide ((0 : Int) ≤ n11)) && (decide (n11 ≤ ((List.length rows10) : Int))) then
 ((Zcb N cells9 (List.take (Int.toNat n11) rows10)).bind fun o17 =>
 ((Zc3 N l7 regs8 o17.2.1).bind fun o18 =>
 (bif o18.2.1.1 != (-1 : Int) then
 (K0 n11)
 else
 (Zbt N l7 regs8 cells9 rows10 K0 K1 n (iadd .i64 n11 1))))) else none)
 else
 (K1 n11 (decide (n11 ≤ (ilen rows10)))))
noncomputable def Zc5 (N : Nat) (l1 : List (List (Int × Int × Int × Int))) (regs2 : List Int) (cells3 : List Int) (rows4 : List (Int × Int)) : Option (Unit × (Int × Unit)) :=
    ((Zer N l1 regs2 cells3).bind fun o5 =>
 (bif !o5.2.1 then
 (some ((), ((-1 : Int), ())))
 else
 ((Zaz N rows4).bind fun o6 =>
 (bif !o6.2.1 then
 (some ((), ((-1 : Int), ())))
 else
 (Zbt N l1 regs2 cells3 rows4
 (fun t19 =>
   (some ((), (t19, ()))))
 (fun n20 t21 =>
   (some ((), ((-1 : Int), ()))))
  N 0)))))
noncomputable def Zco (N : Nat) (aL1 : List (List (Int × Int × Int × Int))) (aRegs2 : List Int) (aCells3 : List Int) (aRows4 : List (Int × Int)) : Option (Unit × (Bool × Unit)) :=
    (bif decide ((ilen aRegs2) > 1048576) then
 (some ((), (true, ())))
 else
 (bif decide ((ilen aCells3) > 1048576) then
 (some ((), (true, ())))
 else
 ((Zcy N aL1 1048576).bind fun o5 =>
 (bif decide (o5.2.1 < 0) then
 (some ((), (true, ())))
 else
 ((Zgl N aRows4 o5.2.1).bind fun o6 =>
 (bif decide (o6.2.1 < 0) then
 (some ((), (true, ())))
 else
 ((Zbc N aL1).bind fun o7 =>
 ((Zag N aRegs2).bind fun o8 =>
 ((Zag N aCells3).bind fun o9 =>
 ((Zbb N aRows4).bind fun o10 =>
 ((Zc4 N o7.2.1 o8.2.1 o9.2.1 o10.2.1).bind fun o11 =>
 ((Zbc N aL1).bind fun o12 =>
 ((Zag N aRegs2).bind fun o13 =>
 ((Zag N aCells3).bind fun o14 =>
 ((Zbb N aRows4).bind fun o15 =>
 ((Zc5 N o12.2.1 o13.2.1 o14.2.1 o15.2.1).bind fun o16 =>
 (bif o16.2.1 != o11.2.1 then
 (some ((), (false, ())))
 else
 ((Zbc N aL1).bind fun o17 =>
 ((Zc1 N o12.2.1 o17.2.1).bind fun o18 =>
 (bif !o18.2.1 then
 (some ((), (false, ())))
 else
 ((Zag N aRegs2).bind fun o19 =>
 ((Zax N o13.2.1 o19.2.1).bind fun o20 =>
 (bif !o20.2.1 then
 (some ((), (false, ())))
 else
 ((Zag N aCells3).bind fun o21 =>
 ((Zax N o14.2.1 o21.2.1).bind fun o22 =>
 (bif !o22.2.1 then
 (some ((), (false, ())))
 else
 ((Zbb N aRows4).bind fun o23 =>
 ((Zbz N o15.2.1 o23.2.1).bind fun o24 =>
 (bif !o24.2.1 then
 (some ((), (false, ())))
 else
 (some ((), (true, ()))))))))))))))))))))))))))))))))
end Go.Sx
