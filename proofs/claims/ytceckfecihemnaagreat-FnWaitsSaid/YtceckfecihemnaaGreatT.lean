/- What each Go function computes, as a Lean function. -/
import Derived.Test.YtceckfecihemnaaGreatM3
namespace Go.Sx
set_option linter.unusedVariables false
noncomputable def Ze (N : Nat) (x1 : Int) (low2 : Int) (high3 : Int) : Option (Unit × (Bool × Unit)) :=
    (bif decide (x1 ≥ low2) then
 (some ((), (decide (x1 ≤ high3), ())))
 else
 (some ((), (false, ()))))
noncomputable def Za1 (N : Nat) (x1 : Int) (lo2 : Int) (hi3 : Int) : Option (Unit × (Bool × Unit)) :=
    (bif decide (x1 ≥ lo2) then
 (some ((), (decide (x1 ≤ hi3), ())))
 else
 (some ((), (false, ()))))
noncomputable def Zd7 {R : Type} (N : Nat) (a2 : List Int) (K0 : Int → Bool → (List Int) → Option R) : Nat → Int → (List Int) → Option R
  | 0, _, _ => none
  | n + 1, i3, l4 =>
    (bif decide (i3 < (ilen a2)) then
 (bif inb i3 (List.length a2) then
 (bif inb i3 (List.length l4) then
 (Zd7 N a2 K0 n (iadd .i64 i3 1) (List.set l4 (Int.toNat i3) (List.getD a2 (Int.toNat i3) 0))) else none) else none)
 else
 (K0 i3 (decide (i3 < (ilen a2))) l4))
noncomputable def Zm6 (N : Nat) (a1 : List Int) : Option (Unit × ((List Int) × Unit)) :=
    (bif ((decide ((0 : Int) ≤ (ilen a1))) && (decide ((ilen a1) ≤ (ilen a1)))) && (room (Int.toNat (ilen a1))) then
 (Zd7 N a1
 (fun i8 t9 l10 =>
   (some ((), (l10, ()))))
  N 0 (List.replicate (Int.toNat (ilen a1)) 0)) else none)
noncomputable def Zd8 {R : Type} (N : Nat) (a3 : List Int) (b4 : List Int) (K0 : Option R) (K1 : Int → Bool → Option R) : Nat → Int → Option R
  | 0, _ => none
  | n + 1, i5 =>
    (bif decide (i5 < (ilen a3)) then
 (bif inb i5 (List.length a3) then
 (bif inb i5 (List.length b4) then
 (bif (List.getD a3 (Int.toNat i5) 0) != (List.getD b4 (Int.toNat i5) 0) then
 K0
 else
 (Zd8 N a3 b4 K0 K1 n (iadd .i64 i5 1))) else none) else none)
 else
 (K1 i5 (decide (i5 < (ilen a3)))))
noncomputable def Zm7 (N : Nat) (a1 : List Int) (b2 : List Int) : Option (Unit × (Bool × Unit)) :=
    (bif (ilen a1) != (ilen b2) then
 (some ((), (false, ())))
 else
 (Zd8 N a1 b2
 (some ((), (false, ())))
 (fun i8 t9 =>
   (some ((), (true, ()))))
  N 0))
noncomputable def Zdt (N : Nat) (v1 : Int) : Option (Unit × (Bool × Unit)) :=
    ((Ze N v1 0 65535).bind fun o2 =>
 (some ((), (o2.2.1, ()))))
noncomputable def Zdk (N : Nat) (v1 : Int) : Option (Unit × (Bool × Unit)) :=
    ((Za1 N v1 0 65535).bind fun o2 =>
 (some ((), (o2.2.1, ()))))
noncomputable def Zh8 (N : Nat) (code1 : List Int) : Option (Unit × (Bool × Unit)) :=
    (some ((), (decide ((ilen code1) > 1048576), ())))
noncomputable def Zbo {R : Type} (N : Nat) (code2 : List Int) (K0 : Int → Int → Bool → Option R) : Nat → Int → Int → Option R
  | 0, _, _ => none
  | n + 1, h3, i4 =>
    (bif decide (i4 < (ilen code2)) then
 (bif decide (i4 < 4000) then
 (bif inb i4 (List.length code2) then
 (Zbo N code2 K0 n (iand .i64 (iadd .i64 (iadd .i64 (imul .i64 h3 131) (IntKind.wrap .i64 (List.getD code2 (Int.toNat i4) 0))) 7) 1073741823) (iadd .i64 i4 1)) else none)
 else
 (K0 h3 i4 (decide (i4 < 4000))))
 else
 (K0 h3 i4 false))
noncomputable def Zcf (N : Nat) (code1 : List Int) : Option (Unit × ((List Int × Int × Int) × Unit)) :=
    (Zbo N code1
 (fun h8 i9 t10 =>
   (some ((), ((code1, (0, h8)), ()))))
  N (iadd .i64 10101 (ilen code1)) 0)
noncomputable def Zdc (N : Nat) (c1 : List Int × Int × Int) : Option (((List Int × Int × Int) × Unit) × (Int × Unit)) :=
    (bif inn 33 then
 (bif inn 45 then
 (bif decide (c1.2.1 < (ilen c1.1)) then
 (bif inb c1.2.1 (List.length c1.1) then
 (some (((c1.1, (iadd .i64 c1.2.1 1, iadd .i64 (imul .i64 c1.2.2 6364136223846793005) 1442695040888963407)), ()), (iand .i64 (iadd .i64 (iand .i64 (ixor .i64 (ishr .i64 (iadd .i64 (imul .i64 c1.2.2 6364136223846793005) 1442695040888963407) 33) (ishr .i64 (iadd .i64 (imul .i64 c1.2.2 6364136223846793005) 1442695040888963407) 45)) 255) (IntKind.wrap .i64 (List.getD c1.1 (Int.toNat c1.2.1) 0))) 255, ()))) else none)
 else
 (some (((c1.1, (c1.2.1, iadd .i64 (imul .i64 c1.2.2 6364136223846793005) 1442695040888963407)), ()), (iand .i64 (ixor .i64 (ishr .i64 (iadd .i64 (imul .i64 c1.2.2 6364136223846793005) 1442695040888963407) 33) (ishr .i64 (iadd .i64 (imul .i64 c1.2.2 6364136223846793005) 1442695040888963407) 45)) 255, ())))) else none) else none)
noncomputable def Zf (N : Nat) (c1 : List Int × Int × Int) (n2 : Int) : Option (((List Int × Int × Int) × Unit) × (Int × Unit)) :=
    (bif decide (n2 ≤ 0) then
 (some ((c1, ()), (0, ())))
 else
 (bif decide (n2 ≤ 256) then
 ((Zdc N c1).bind fun o3 =>
 (bif inz n2 then
 (some ((o3.1.1, ()), (irem o3.2.1 n2, ()))) else none))
 else
 ((Zdc N c1).bind fun o4 =>
 ((Zdc N o4.1.1).bind fun o5 =>
 ((Zdc N o5.1.1).bind fun o6 =>
 ((Zdc N o6.1.1).bind fun o7 =>
 (bif inz n2 then
 (some ((o7.1.1, ()), (irem (iadd .i64 (iadd .i64 (iadd .i64 (imul .i64 o4.2.1 16777216) (imul .i64 o5.2.1 65536)) (imul .i64 o6.2.1 256)) o7.2.1) n2, ()))) else none)))))))
noncomputable def Zv (N : Nat) (c1 : List Int × Int × Int) (n2 : Int) : Option (((List Int × Int × Int) × Unit) × (Bool × Unit)) :=
    ((Zf N c1 n2).bind fun o3 =>
 (some ((o3.1.1, ()), (o3.2.1 == 0, ()))))
noncomputable def Zav (N : Nat) (c1 : List Int × Int × Int) (list2 : List Int) : Option (((List Int × Int × Int) × Unit) × (Int × Unit)) :=
    ((Zf N c1 (ilen list2)).bind fun o3 =>
 (bif inb o3.2.1 (List.length list2) then
 (some ((o3.1.1, ()), (List.getD list2 (Int.toNat o3.2.1) 0, ()))) else none))
noncomputable def Zbx {R : Type} (N : Nat) (l2 : List Int) (K0 : Option R) (K1 : Int → Bool → Option R) : Nat → Int → Option R
  | 0, _ => none
  | n + 1, i3 =>
    (bif decide (i3 < (ilen l2)) then
 (bif inb i3 (List.length l2) then
 ((Zdt N (List.getD l2 (Int.toNat i3) 0)).bind fun o7 =>
 (bif !o7.2.1 then
 K0
 else
 (Zbx N l2 K0 K1 n (iadd .i64 i3 1)))) else none)
 else
 (K1 i3 (decide (i3 < (ilen l2)))))
noncomputable def Zas (N : Nat) (l1 : List Int) : Option (Unit × (Bool × Unit)) :=
    (bif (ilen l1) != 8 then
 (some ((), (false, ())))
 else
 (Zbx N l1
 (some ((), (false, ())))
 (fun i8 t9 =>
   (some ((), (true, ()))))
  N 0))
noncomputable def Za2 (N : Nat) (i1 : Int) : Option (Unit × (Bool × Unit)) :=
    ((Ze N i1 0 7).bind fun o2 =>
 (some ((), (o2.2.1, ()))))
noncomputable def Zby {R : Type} (N : Nat) (l2 : List (Int × Int)) (K0 : Option R) (K1 : Int → Bool → Option R) : Nat → Int → Option R
  | 0, _ => none
  | n + 1, i3 =>
    (bif decide (i3 < (ilen l2)) then
 (bif inb i3 (List.length l2) then
 ((Za2 N (List.getD l2 (Int.toNat i3) (0, 0)).1).bind fun o8 =>
 (bif !o8.2.1 then
 K0
 else
 (bif inb i3 (List.length l2) then
 ((Zdt N (List.getD l2 (Int.toNat i3) (0, 0)).2).bind fun o9 =>
 (bif !o9.2.1 then
 K0
 else
 (Zby N l2 K0 K1 n (iadd .i64 i3 1)))) else none))) else none)
 else
 (K1 i3 (decide (i3 < (ilen l2)))))
noncomputable def Zbb (N : Nat) (l1 : List (Int × Int)) : Option (Unit × (Bool × Unit)) :=
    (bif decide ((ilen l1) > 300) then
 (some ((), (false, ())))
 else
 (Zby N l1
 (some ((), (false, ())))
 (fun i10 t11 =>
   (some ((), (true, ()))))
  N 0))
noncomputable def Zw (N : Nat) (l1 : List Int) : Option (Unit × ((List Int) × Unit)) :=
    (bif room ((List.length ([] : List Int)) + (List.length l1)) then
 (some ((), (List.append ([] : List Int) l1, ()))) else none)
noncomputable def Zll (N : Nat) (l1 : List (Int × Int)) (n2 : Int) : Option (Unit × ((List (Int × Int)) × Unit)) :=
    ((Zbb N l1).bind fun o3 =>
 (bif !o3.2.1 then
 (some ((), (([] : List (Int × Int)), ())))
 else
 (bif decide (n2 ≤ 0) then
 (some ((), (([] : List (Int × Int)), ())))
 else
 (bif decide (n2 > (ilen l1)) then
 (bif (decide ((0 : Int) ≤ (ilen l1))) && (decide ((ilen l1) ≤ ((List.length l1) : Int))) then
 (bif room ((List.length ([] : List (Int × Int))) + (List.length (List.take (Int.toNat (ilen l1)) l1))) then
 (some ((), (List.append ([] : List (Int × Int)) (List.take (Int.toNat (ilen l1)) l1), ()))) else none) else none)
 else
 (bif (decide ((0 : Int) ≤ n2)) && (decide (n2 ≤ ((List.length l1) : Int))) then
 (bif room ((List.length ([] : List (Int × Int))) + (List.length (List.take (Int.toNat n2) l1))) then
 (some ((), (List.append ([] : List (Int × Int)) (List.take (Int.toNat n2) l1), ()))) else none) else none)))))
noncomputable def Zek {R : Type} (N : Nat) (log7 : List (Int × Int)) (n8 : Int) (K0 : Int → Bool → (List Int) → Option R) : Nat → Int → (List Int) → Option R
  | 0, _, _ => none
  | n + 1, i9, l10 =>
    (bif decide (i9 ≥ n8) then
 (bif inb i9 (List.length log7) then
 (bif inb i9 (List.length log7) then
 (bif inb (List.getD log7 (Int.toNat i9) (0, 0)).1 (List.length l10) then
 (Zek N log7 n8 K0 n (isub .i64 i9 1) (List.set l10 (Int.toNat (List.getD log7 (Int.toNat i9) (0, 0)).1) (List.getD log7 (Int.toNat i9) (0, 0)).2)) else none) else none) else none)
 else
 (K0 i9 (decide (i9 ≥ n8)) l10))
noncomputable def Zeo (N : Nat) (cells1 : List Int) (log2 : List (Int × Int)) (n3 : Int) : Option (Unit × ((List Int) × ((List (Int × Int)) × Unit))) :=
    ((Zas N cells1).bind fun o4 =>
 (bif !o4.2.1 then
 (some ((), (([] : List Int), (([] : List (Int × Int)), ()))))
 else
 ((Zbb N log2).bind fun o5 =>
 (bif !o5.2.1 then
 (some ((), (([] : List Int), (([] : List (Int × Int)), ()))))
 else
 (bif decide (n3 < 0) then
 (some ((), (([] : List Int), (([] : List (Int × Int)), ()))))
 else
 ((Zw N cells1).bind fun o6 =>
 (Zek N log2 n3
 (fun i14 t15 l16 =>
   ((Zll N log2 n3).bind fun o17 =>
 (some ((), (l16, (o17.2.1, ()))))))
  N (isub .i64 (ilen log2) 1) o6.2.1)))))))
noncomputable def Zad {R : Type} (N : Nat) (l3 : List Int) (n4 : Int) (K0 : Option R) (K1 : Int → Bool → Option R) : Nat → Int → Option R
  | 0, _ => none
  | n + 1, t7 =>
    (bif decide (t7 < (ilen l3)) then
 (bif inb t7 (List.length l3) then
 ((Zdk N (List.getD l3 (Int.toNat t7) 0)).bind fun o12 =>
 (bif !o12.2.1 then
 K0
 else
 (Zad N l3 n4 K0 K1 n (iadd .i64 t7 1)))) else none)
 else
 (K1 t7 (decide (t7 < (ilen l3)))))
noncomputable def Zx (N : Nat) (l1 : List Int) (n2 : Int) : Option (Unit × (Bool × Unit)) :=
    (Zad N l1 n2
 (some ((), (false, ())))
 (fun t13 t14 =>
   (some ((), ((ilen l1) == n2, ()))))
  N 0)
noncomputable def Za3 (N : Nat) (i1 : Int) : Option (Unit × (Bool × Unit)) :=
    ((Za1 N i1 0 7).bind fun o2 =>
 (some ((), (o2.2.1, ()))))
noncomputable def Zbz {R : Type} (N : Nat) (l2 : List (Int × Int)) (K0 : Option R) (K1 : Int → Bool → Option R) : Nat → Int → Option R
  | 0, _ => none
  | n + 1, t5 =>
    (bif decide (t5 < (ilen l2)) then
 (bif inb t5 (List.length l2) then
 ((Za3 N (List.getD l2 (Int.toNat t5) (0, 0)).1).bind fun o12 =>
 (bif !o12.2.1 then
 K0
 else
 ((Zdk N (List.getD l2 (Int.toNat t5) (0, 0)).2).bind fun o13 =>
 (bif !o13.2.1 then
 K0
 else
 (Zbz N l2 K0 K1 n (iadd .i64 t5 1)))))) else none)
 else
 (K1 t5 (decide (t5 < (ilen l2)))))
noncomputable def Zbc (N : Nat) (l1 : List (Int × Int)) : Option (Unit × (Bool × Unit)) :=
    (Zbz N l1
 (some ((), (false, ())))
 (fun t14 t15 =>
   (some ((), (decide ((ilen l1) ≤ 300), ()))))
  N 0)
noncomputable def Zl (N : Nat) (l1 : List Int) : Option (Unit × ((List Int) × Unit)) :=
    (bif room (List.length l1) then
 (some ((), (l1, ()))) else none)
noncomputable def Zh9 (N : Nat) (l1 : List (Int × Int)) : Option (Unit × ((List (Int × Int)) × Unit)) :=
    (bif room (List.length l1) then
 (some ((), (l1, ()))) else none)
noncomputable def Zaq {R : Type} (N : Nat) (log7 : List (Int × Int)) (n8 : Int) (K0 : Int → Bool → (List Int) → Option R) : Nat → Int → (List Int) → Option R
  | 0, _, _ => none
  | n + 1, i9, l10 =>
    (bif decide (i9 ≥ n8) then
 (bif inb i9 (List.length log7) then
 (bif inb i9 (List.length log7) then
 (bif inb (List.getD log7 (Int.toNat i9) (0, 0)).1 (List.length l10) then
 (Zaq N log7 n8 K0 n (isub .i64 i9 1) (List.set l10 (Int.toNat (List.getD log7 (Int.toNat i9) (0, 0)).1) (List.getD log7 (Int.toNat i9) (0, 0)).2)) else none) else none) else none)
 else
 (K0 i9 (decide (i9 ≥ n8)) l10))
noncomputable def Zbk (N : Nat) (cells1 : List Int) (log2 : List (Int × Int)) (n3 : Int) : Option (Unit × ((List Int) × ((List (Int × Int)) × Unit))) :=
    ((Zx N cells1 8).bind fun o4 =>
 (bif !o4.2.1 then
 (some ((), (([] : List Int), (([] : List (Int × Int)), ()))))
 else
 ((Zbc N log2).bind fun o5 =>
 (bif !o5.2.1 then
 (some ((), (([] : List Int), (([] : List (Int × Int)), ()))))
 else
 (bif decide (n3 < 0) then
 (some ((), (([] : List Int), (([] : List (Int × Int)), ()))))
 else
 ((Zl N cells1).bind fun o6 =>
 (Zaq N log2 n3
 (fun i14 t15 l16 =>
   (bif (decide ((0 : Int) ≤ (minI n3 (ilen log2)))) && (decide ((minI n3 (ilen log2)) ≤ ((List.length log2) : Int))) then
 ((Zh9 N (List.take (Int.toNat (minI n3 (ilen log2))) log2)).bind fun o17 =>
 (some ((), (l16, (o17.2.1, ()))))) else none))
  N (isub .i64 (ilen log2) 1) o6.2.1)))))))
noncomputable def Zd4 (N : Nat) (c1 : List Int × Int × Int) : Option (((List Int × Int × Int) × Unit) × (Int × Unit)) :=
    ((Zv N c1 6).bind fun o2 =>
 (bif o2.2.1 then
 ((Zav N o2.1.1 ([0, 65535, 65534, 256])).bind fun o3 =>
 (some ((o3.1.1, ()), (o3.2.1, ()))))
 else
 ((Zf N o2.1.1 9).bind fun o4 =>
 (some ((o4.1.1, ()), (o4.2.1, ()))))))
noncomputable def Zbm {R : Type} (N : Nat) (s3 : List Int) (v4 : Int) (K0 : Int → Option R) (K1 : Int → Bool → Option R) : Nat → Int → Option R
  | 0, _ => none
  | n + 1, t6 =>
    (bif decide (t6 < (ilen s3)) then
 (bif inb t6 (List.length s3) then
 (bif v4 == (List.getD s3 (Int.toNat t6) 0) then
 (K0 t6)
 else
 (Zbm N s3 v4 K0 K1 n (iadd .i64 t6 1))) else none)
 else
 (K1 t6 (decide (t6 < (ilen s3)))))
noncomputable def Zaw (N : Nat) (s1 : List Int) (v2 : Int) : Option (Unit × (Int × Unit)) :=
    (Zbm N s1 v2
 (fun t10 =>
   (some ((), (t10, ()))))
 (fun t11 t12 =>
   (some ((), ((-1 : Int), ()))))
  N 0)
noncomputable def Ze4 (N : Nat) (s1 : List Int) (v2 : Int) : Option (Unit × (Bool × Unit)) :=
    ((Zaw N s1 v2).bind fun o3 =>
 (some ((), (decide (o3.2.1 ≥ 0), ()))))
noncomputable def Zjj (N : Nat) (a1 : List (Int × Int × Int × Int)) (left2 : Int) : Option (Unit × (Int × Unit)) :=
    (bif decide ((isub .i64 left2 (ilen a1)) < 0) then
 (some ((), ((-1 : Int), ())))
 else
 (some ((), (isub .i64 left2 (ilen a1), ()))))
noncomputable def Zjk (N : Nat) (a1 : List (Int × Int × Int × Int)) (left2 : Int) : Option (Unit × (Int × Unit)) :=
    ((Zjj N a1 left2).bind fun o3 =>
 (bif decide (o3.2.1 < 0) then
 (some ((), ((-1 : Int), ())))
 else
 (some ((), (o3.2.1, ())))))
noncomputable def Zd9 {R : Type} (N : Nat) (a3 : List (List (Int × Int × Int × Int))) (K0 : Option R) (K1 : Int → Int → Bool → Option R) : Nat → Int → Int → Option R
  | 0, _, _ => none
  | n + 1, left4, i5 =>
    (bif decide (i5 < (ilen a3)) then
 (bif inb i5 (List.length a3) then
 ((Zjk N (List.getD a3 (Int.toNat i5) ([] : List (Int × Int × Int × Int))) left4).bind fun o10 =>
 (bif decide (o10.2.1 < 0) then
 K0
 else
 (Zd9 N a3 K0 K1 n o10.2.1 (iadd .i64 i5 1)))) else none)
 else
 (K1 left4 i5 (decide (i5 < (ilen a3)))))
noncomputable def Zm8 (N : Nat) (a1 : List (List (Int × Int × Int × Int))) (left2 : Int) : Option (Unit × (Int × Unit)) :=
    (bif decide ((isub .i64 left2 (ilen a1)) < 0) then
 (some ((), ((-1 : Int), ())))
 else
 (Zd9 N a1
 (some ((), ((-1 : Int), ())))
 (fun left11 i12 t13 =>
   (some ((), (left11, ()))))
  N (isub .i64 left2 (ilen a1)) 0))
noncomputable def Zkw (N : Nat) (a1 : Int × Int × Int × Int) : Option (Unit × ((Int × Int × Int × Int) × Unit)) :=
    (some ((), (a1, ())))
noncomputable def Zef {R : Type} (N : Nat) (a2 : List (Int × Int × Int × Int)) (K0 : Int → Bool → (List (Int × Int × Int × Int)) → Option R) : Nat → Int → (List (Int × Int × Int × Int)) → Option R
  | 0, _, _ => none
  | n + 1, i3, l4 =>
    (bif decide (i3 < (ilen a2)) then
 (bif inb i3 (List.length a2) then
 ((Zkw N (List.getD a2 (Int.toNat i3) (0, 0, 0, 0))).bind fun o9 =>
 (bif inb i3 (List.length l4) then
 (Zef N a2 K0 n (iadd .i64 i3 1) (List.set l4 (Int.toNat i3) o9.2.1)) else none)) else none)
 else
 (K0 i3 (decide (i3 < (ilen a2))) l4))
noncomputable def Zjl (N : Nat) (a1 : List (Int × Int × Int × Int)) : Option (Unit × ((List (Int × Int × Int × Int)) × Unit)) :=
    (bif ((decide ((0 : Int) ≤ (ilen a1))) && (decide ((ilen a1) ≤ (ilen a1)))) && (room (Int.toNat (ilen a1))) then
 (Zef N a1
 (fun i10 t11 l12 =>
   (some ((), (l12, ()))))
  N 0 (List.replicate (Int.toNat (ilen a1)) (0, 0, 0, 0))) else none)
noncomputable def Zjm (N : Nat) (a1 : List (Int × Int × Int × Int)) : Option (Unit × ((List (Int × Int × Int × Int)) × Unit)) :=
    ((Zjl N a1).bind fun o2 =>
 (some ((), (o2.2.1, ()))))
noncomputable def Zea {R : Type} (N : Nat) (a2 : List (List (Int × Int × Int × Int))) (K0 : Int → Bool → (List (List (Int × Int × Int × Int))) → Option R) : Nat → Int → (List (List (Int × Int × Int × Int))) → Option R
  | 0, _, _ => none
  | n + 1, i3, l4 =>
    (bif decide (i3 < (ilen a2)) then
 (bif inb i3 (List.length a2) then
 ((Zjm N (List.getD a2 (Int.toNat i3) ([] : List (Int × Int × Int × Int)))).bind fun o9 =>
 (bif inb i3 (List.length l4) then
 (Zea N a2 K0 n (iadd .i64 i3 1) (List.set l4 (Int.toNat i3) o9.2.1)) else none)) else none)
 else
 (K0 i3 (decide (i3 < (ilen a2))) l4))
noncomputable def Zm9 (N : Nat) (a1 : List (List (Int × Int × Int × Int))) : Option (Unit × ((List (List (Int × Int × Int × Int))) × Unit)) :=
    (bif ((decide ((0 : Int) ≤ (ilen a1))) && (decide ((ilen a1) ≤ (ilen a1)))) && (room (Int.toNat (ilen a1))) then
 (Zea N a1
 (fun i10 t11 l12 =>
   (some ((), (l12, ()))))
  N 0 (List.replicate (Int.toNat (ilen a1)) ([] : List (Int × Int × Int × Int)))) else none)
noncomputable def Zb0 {R : Type} (N : Nat) (l2 : List Int) (K0 : Option R) (K1 : Int → Bool → Option R) : Nat → Int → Option R
  | 0, _ => none
  | n + 1, i3 =>
    (bif decide (i3 < (ilen l2)) then
 (bif inb i3 (List.length l2) then
 ((Zdt N (List.getD l2 (Int.toNat i3) 0)).bind fun o7 =>
 (bif !o7.2.1 then
 K0
 else
 (Zb0 N l2 K0 K1 n (iadd .i64 i3 1)))) else none)
 else
 (K1 i3 (decide (i3 < (ilen l2)))))
noncomputable def Za4 (N : Nat) (l1 : List Int) : Option (Unit × (Bool × Unit)) :=
    (bif (ilen l1) != 4 then
 (some ((), (false, ())))
 else
 (Zb0 N l1
 (some ((), (false, ())))
 (fun i8 t9 =>
   (some ((), (true, ()))))
  N 0))
noncomputable def Za (N : Nat) (i1 : Int) : Option (Unit × (Bool × Unit)) :=
    ((Ze N i1 0 3).bind fun o2 =>
 (some ((), (o2.2.1, ()))))
noncomputable def Zp (N : Nat) (o1 : Int × Int × Int × Int) : Option (Unit × (Bool × Unit)) :=
    (bif o1.1 == 1 then
 ((Za N o1.2.1).bind fun o2 =>
 (bif o2.2.1 then
 ((Zdt N o1.2.2.1).bind fun o3 =>
 (bif o3.2.1 then
 (some ((), (o1.2.2.2 == 0, ())))
 else
 (some ((), (false, ())))))
 else
 (some ((), (false, ())))))
 else
 (bif o1.1 == 2 then
 (bif o1.1 == 2 then
 ((Za N o1.2.1).bind fun o4 =>
 (bif o4.2.1 then
 ((Za N o1.2.2.1).bind fun o5 =>
 (bif o5.2.1 then
 ((Za N o1.2.2.2).bind fun o6 =>
 (some ((), (o6.2.1, ()))))
 else
 (some ((), (false, ())))))
 else
 (some ((), (false, ())))))
 else
 (bif o1.1 == 5 then
 ((Za N o1.2.1).bind fun o7 =>
 (bif o7.2.1 then
 ((Za2 N o1.2.2.1).bind fun o8 =>
 (bif o8.2.1 then
 (some ((), (o1.2.2.2 == 0, ())))
 else
 (some ((), (false, ())))))
 else
 (some ((), (false, ())))))
 else
 (bif o1.1 == 6 then
 ((Za2 N o1.2.1).bind fun o9 =>
 (bif o9.2.1 then
 ((Za N o1.2.2.1).bind fun o10 =>
 (bif o10.2.1 then
 (some ((), (o1.2.2.2 == 0, ())))
 else
 (some ((), (false, ())))))
 else
 (some ((), (false, ())))))
 else
 (bif o1.1 == 7 then
 ((Za N o1.2.1).bind fun o11 =>
 (bif o11.2.1 then
 ((Ze N o1.2.2.1 1 20).bind fun o12 =>
 (bif o12.2.1 then
 (some ((), (o1.2.2.2 == 0, ())))
 else
 (some ((), (false, ())))))
 else
 (some ((), (false, ())))))
 else
 (bif o1.1 == 8 then
 (bif o1.1 == 8 then
 ((Za N o1.2.1).bind fun o13 =>
 (bif o13.2.1 then
 (bif o1.2.2.1 == 0 then
 (some ((), (o1.2.2.2 == 0, ())))
 else
 (some ((), (false, ()))))
 else
 (some ((), (false, ())))))
 else
 (bif o1.1 == 9 then
 (bif o1.1 == 9 then
 (bif o1.2.1 == 0 then
 (bif o1.2.2.1 == 0 then
 (some ((), (o1.2.2.2 == 0, ())))
 else
 (some ((), (false, ()))))
 else
 (some ((), (false, ()))))
 else
 (bif o1.1 == 12 then
 ((Ze N o1.2.1 0 7).bind fun o14 =>
 (bif o14.2.1 then
 ((Za N o1.2.2.1).bind fun o15 =>
 (bif o15.2.1 then
 ((Za N o1.2.2.2).bind fun o16 =>
 (some ((), (o16.2.1, ()))))
 else
 (some ((), (false, ())))))
 else
 (some ((), (false, ())))))
 else
 (bif o1.1 == 13 then
 ((Za N o1.2.1).bind fun o17 =>
 (bif o17.2.1 then
 ((Ze N o1.2.2.1 0 7).bind fun o18 =>
 (bif o18.2.1 then
 (some ((), (o1.2.2.2 == 0, ())))
 else
 (some ((), (false, ())))))
 else
 (some ((), (false, ())))))
 else
 (bif o1.1 == 14 then
 ((Ze N o1.2.1 0 7).bind fun o19 =>
 (bif o19.2.1 then
 ((Za N o1.2.2.1).bind fun o20 =>
 (bif o20.2.1 then
 (some ((), (o1.2.2.2 == 0, ())))
 else
 (some ((), (false, ())))))
 else
 (some ((), (false, ())))))
 else
 (some ((), (false, ())))))))
 else
 (bif o1.1 == 10 then
 (bif o1.1 == 10 then
 (bif o1.2.1 == 0 then
 (bif o1.2.2.1 == 0 then
 (some ((), (o1.2.2.2 == 0, ())))
 else
 (some ((), (false, ()))))
 else
 (some ((), (false, ()))))
 else
 (bif o1.1 == 12 then
 ((Ze N o1.2.1 0 7).bind fun o21 =>
 (bif o21.2.1 then
 ((Za N o1.2.2.1).bind fun o22 =>
 (bif o22.2.1 then
 ((Za N o1.2.2.2).bind fun o23 =>
 (some ((), (o23.2.1, ()))))
 else
 (some ((), (false, ())))))
 else
 (some ((), (false, ())))))
 else
 (bif o1.1 == 13 then
 ((Za N o1.2.1).bind fun o24 =>
 (bif o24.2.1 then
 ((Ze N o1.2.2.1 0 7).bind fun o25 =>
 (bif o25.2.1 then
 (some ((), (o1.2.2.2 == 0, ())))
 else
 (some ((), (false, ())))))
 else
 (some ((), (false, ())))))
 else
 (bif o1.1 == 14 then
 ((Ze N o1.2.1 0 7).bind fun o26 =>
 (bif o26.2.1 then
 ((Za N o1.2.2.1).bind fun o27 =>
 (bif o27.2.1 then
 (some ((), (o1.2.2.2 == 0, ())))
 else
 (some ((), (false, ())))))
 else
 (some ((), (false, ())))))
 else
 (some ((), (false, ())))))))
 else
 (bif o1.1 == 11 then
 (bif o1.2.1 == 0 then
 (bif o1.2.2.1 == 0 then
 (some ((), (o1.2.2.2 == 0, ())))
 else
 (some ((), (false, ()))))
 else
 (some ((), (false, ()))))
 else
 (bif o1.1 == 12 then
 ((Ze N o1.2.1 0 7).bind fun o28 =>
 (bif o28.2.1 then
 ((Za N o1.2.2.1).bind fun o29 =>
 (bif o29.2.1 then
 ((Za N o1.2.2.2).bind fun o30 =>
 (some ((), (o30.2.1, ()))))
 else
 (some ((), (false, ())))))
 else
 (some ((), (false, ())))))
 else
 (bif o1.1 == 13 then
 ((Za N o1.2.1).bind fun o31 =>
 (bif o31.2.1 then
 ((Ze N o1.2.2.1 0 7).bind fun o32 =>
 (bif o32.2.1 then
 (some ((), (o1.2.2.2 == 0, ())))
 else
 (some ((), (false, ())))))
 else
 (some ((), (false, ())))))
 else
 (bif o1.1 == 14 then
 ((Ze N o1.2.1 0 7).bind fun o33 =>
 (bif o33.2.1 then
 ((Za N o1.2.2.1).bind fun o34 =>
 (bif o34.2.1 then
 (some ((), (o1.2.2.2 == 0, ())))
 else
 (some ((), (false, ())))))
 else
 (some ((), (false, ())))))
 else
 (some ((), (false, ()))))))))))
 else
 (bif o1.1 == 15 then
 (bif o1.1 == 15 then
 ((Za N o1.2.1).bind fun o35 =>
 (bif o35.2.1 then
 (bif o1.2.2.1 == 0 then
 (some ((), (o1.2.2.2 == 0, ())))
 else
 (some ((), (false, ()))))
 else
 (some ((), (false, ())))))
 else
 (bif o1.1 == 9 then
 (bif o1.1 == 9 then
 (bif o1.2.1 == 0 then
 (bif o1.2.2.1 == 0 then
 (some ((), (o1.2.2.2 == 0, ())))
 else
 (some ((), (false, ()))))
 else
 (some ((), (false, ()))))
 else
 (bif o1.1 == 12 then
 ((Ze N o1.2.1 0 7).bind fun o36 =>
 (bif o36.2.1 then
 ((Za N o1.2.2.1).bind fun o37 =>
 (bif o37.2.1 then
 ((Za N o1.2.2.2).bind fun o38 =>
 (some ((), (o38.2.1, ()))))
 else
 (some ((), (false, ())))))
 else
 (some ((), (false, ())))))
 else
 (bif o1.1 == 13 then
 ((Za N o1.2.1).bind fun o39 =>
 (bif o39.2.1 then
 ((Ze N o1.2.2.1 0 7).bind fun o40 =>
 (bif o40.2.1 then
 (some ((), (o1.2.2.2 == 0, ())))
 else
 (some ((), (false, ())))))
 else
 (some ((), (false, ())))))
 else
 (bif o1.1 == 14 then
 ((Ze N o1.2.1 0 7).bind fun o41 =>
 (bif o41.2.1 then
 ((Za N o1.2.2.1).bind fun o42 =>
 (bif o42.2.1 then
 (some ((), (o1.2.2.2 == 0, ())))
 else
 (some ((), (false, ())))))
 else
 (some ((), (false, ())))))
 else
 (some ((), (false, ())))))))
 else
 (bif o1.1 == 10 then
 (bif o1.1 == 10 then
 (bif o1.2.1 == 0 then
 (bif o1.2.2.1 == 0 then
 (some ((), (o1.2.2.2 == 0, ())))
 else
 (some ((), (false, ()))))
 else
 (some ((), (false, ()))))
 else
 (bif o1.1 == 12 then
 ((Ze N o1.2.1 0 7).bind fun o43 =>
 (bif o43.2.1 then
 ((Za N o1.2.2.1).bind fun o44 =>
 (bif o44.2.1 then
 ((Za N o1.2.2.2).bind fun o45 =>
 (some ((), (o45.2.1, ()))))
 else
 (some ((), (false, ())))))
 else
 (some ((), (false, ())))))
 else
 (bif o1.1 == 13 then
 ((Za N o1.2.1).bind fun o46 =>
 (bif o46.2.1 then
 ((Ze N o1.2.2.1 0 7).bind fun o47 =>
 (bif o47.2.1 then
 (some ((), (o1.2.2.2 == 0, ())))
 else
 (some ((), (false, ())))))
 else
 (some ((), (false, ())))))
 else
 (bif o1.1 == 14 then
 ((Ze N o1.2.1 0 7).bind fun o48 =>
 (bif o48.2.1 then
 ((Za N o1.2.2.1).bind fun o49 =>
 (bif o49.2.1 then
 (some ((), (o1.2.2.2 == 0, ())))
 else
 (some ((), (false, ())))))
 else
 (some ((), (false, ())))))
 else
 (some ((), (false, ())))))))
 else
 (bif o1.1 == 11 then
 (bif o1.2.1 == 0 then
 (bif o1.2.2.1 == 0 then
 (some ((), (o1.2.2.2 == 0, ())))
 else
 (some ((), (false, ()))))
 else
 (some ((), (false, ()))))
 else
 (bif o1.1 == 12 then
 ((Ze N o1.2.1 0 7).bind fun o50 =>
 (bif o50.2.1 then
 ((Za N o1.2.2.1).bind fun o51 =>
 (bif o51.2.1 then
 ((Za N o1.2.2.2).bind fun o52 =>
 (some ((), (o52.2.1, ()))))
 else
 (some ((), (false, ())))))
 else
 (some ((), (false, ())))))
 else
 (bif o1.1 == 13 then
 ((Za N o1.2.1).bind fun o53 =>
 (bif o53.2.1 then
 ((Ze N o1.2.2.1 0 7).bind fun o54 =>
 (bif o54.2.1 then
 (some ((), (o1.2.2.2 == 0, ())))
 else
 (some ((), (false, ())))))
 else
 (some ((), (false, ())))))
 else
 (bif o1.1 == 14 then
 ((Ze N o1.2.1 0 7).bind fun o55 =>
 (bif o55.2.1 then
 ((Za N o1.2.2.1).bind fun o56 =>
 (bif o56.2.1 then
 (some ((), (o1.2.2.2 == 0, ())))
 else
 (some ((), (false, ())))))
 else
 (some ((), (false, ())))))
 else
 (some ((), (false, ()))))))))))
 else
 (bif o1.1 == 16 then
 ((Za N o1.2.1).bind fun o57 =>
 (bif o57.2.1 then
 (bif o1.2.2.1 == 0 then
 (some ((), (o1.2.2.2 == 0, ())))
 else
 (some ((), (false, ()))))
 else
 (some ((), (false, ())))))
 else
 (bif o1.1 == 9 then
 (bif o1.1 == 9 then
 (bif o1.2.1 == 0 then
 (bif o1.2.2.1 == 0 then
 (some ((), (o1.2.2.2 == 0, ())))
 else
 (some ((), (false, ()))))
 else
 (some ((), (false, ()))))
 else
 (bif o1.1 == 12 then
 ((Ze N o1.2.1 0 7).bind fun o58 =>
 (bif o58.2.1 then
 ((Za N o1.2.2.1).bind fun o59 =>
 (bif o59.2.1 then
 ((Za N o1.2.2.2).bind fun o60 =>
 (some ((), (o60.2.1, ()))))
 else
 (some ((), (false, ())))))
 else
 (some ((), (false, ())))))
 else
 (bif o1.1 == 13 then
 ((Za N o1.2.1).bind fun o61 =>
 (bif o61.2.1 then
 ((Ze N o1.2.2.1 0 7).bind fun o62 =>
 (bif o62.2.1 then
 (some ((), (o1.2.2.2 == 0, ())))
 else
 (some ((), (false, ())))))
 else
 (some ((), (false, ())))))
 else
 (bif o1.1 == 14 then
 ((Ze N o1.2.1 0 7).bind fun o63 =>
 (bif o63.2.1 then
 ((Za N o1.2.2.1).bind fun o64 =>
 (bif o64.2.1 then
 (some ((), (o1.2.2.2 == 0, ())))
 else
 (some ((), (false, ())))))
 else
 (some ((), (false, ())))))
 else
 (some ((), (false, ())))))))
 else
 (bif o1.1 == 10 then
 (bif o1.1 == 10 then
 (bif o1.2.1 == 0 then
 (bif o1.2.2.1 == 0 then
 (some ((), (o1.2.2.2 == 0, ())))
 else
 (some ((), (false, ()))))
 else
 (some ((), (false, ()))))
 else
 (bif o1.1 == 12 then
 ((Ze N o1.2.1 0 7).bind fun o65 =>
 (bif o65.2.1 then
 ((Za N o1.2.2.1).bind fun o66 =>
 (bif o66.2.1 then
 ((Za N o1.2.2.2).bind fun o67 =>
 (some ((), (o67.2.1, ()))))
 else
 (some ((), (false, ())))))
 else
 (some ((), (false, ())))))
 else
 (bif o1.1 == 13 then
 ((Za N o1.2.1).bind fun o68 =>
 (bif o68.2.1 then
 ((Ze N o1.2.2.1 0 7).bind fun o69 =>
 (bif o69.2.1 then
 (some ((), (o1.2.2.2 == 0, ())))
 else
 (some ((), (false, ())))))
 else
 (some ((), (false, ())))))
 else
 (bif o1.1 == 14 then
 ((Ze N o1.2.1 0 7).bind fun o70 =>
 (bif o70.2.1 then
 ((Za N o1.2.2.1).bind fun o71 =>
 (bif o71.2.1 then
 (some ((), (o1.2.2.2 == 0, ())))
 else
 (some ((), (false, ())))))
 else
 (some ((), (false, ())))))
 else
 (some ((), (false, ())))))))
 else
 (bif o1.1 == 11 then
 (bif o1.2.1 == 0 then
 (bif o1.2.2.1 == 0 then
 (some ((), (o1.2.2.2 == 0, ())))
 else
 (some ((), (false, ()))))
 else
 (some ((), (false, ()))))
 else
 (bif o1.1 == 12 then
 ((Ze N o1.2.1 0 7).bind fun o72 =>
 (bif o72.2.1 then
 ((Za N o1.2.2.1).bind fun o73 =>
 (bif o73.2.1 then
 ((Za N o1.2.2.2).bind fun o74 =>
 (some ((), (o74.2.1, ()))))
 else
 (some ((), (false, ())))))
 else
 (some ((), (false, ())))))
 else
 (bif o1.1 == 13 then
 ((Za N o1.2.1).bind fun o75 =>
 (bif o75.2.1 then
 ((Ze N o1.2.2.1 0 7).bind fun o76 =>
 (bif o76.2.1 then
 (some ((), (o1.2.2.2 == 0, ())))
 else
 (some ((), (false, ())))))
 else
 (some ((), (false, ())))))
 else
 (bif o1.1 == 14 then
 ((Ze N o1.2.1 0 7).bind fun o77 =>
 (bif o77.2.1 then
 ((Za N o1.2.2.1).bind fun o78 =>
 (bif o78.2.1 then
 (some ((), (o1.2.2.2 == 0, ())))
 else
 (some ((), (false, ())))))
 else
 (some ((), (false, ())))))
 else
 (some ((), (false, ()))))))))))))))))
 else
 (bif o1.1 == 3 then
 (bif o1.1 == 3 then
 ((Za N o1.2.1).bind fun o79 =>
 (bif o79.2.1 then
 ((Za N o1.2.2.1).bind fun o80 =>
 (bif o80.2.1 then
 ((Za N o1.2.2.2).bind fun o81 =>
 (some ((), (o81.2.1, ()))))
 else
 (some ((), (false, ())))))
 else
 (some ((), (false, ())))))
 else
 (bif o1.1 == 5 then
 ((Za N o1.2.1).bind fun o82 =>
 (bif o82.2.1 then
 ((Za2 N o1.2.2.1).bind fun o83 =>
 (bif o83.2.1 then
 (some ((), (o1.2.2.2 == 0, ())))
 else
 (some ((), (false, ())))))
 else
 (some ((), (false, ())))))
 else
 (bif o1.1 == 6 then
 ((Za2 N o1.2.1).bind fun o84 =>
 (bif o84.2.1 then
 ((Za N o1.2.2.1).bind fun o85 =>
 (bif o85.2.1 then
 (some ((), (o1.2.2.2 == 0, ())))
 else
 (some ((), (false, ())))))
 else
 (some ((), (false, ())))))
 else
 (bif o1.1 == 7 then
 ((Za N o1.2.1).bind fun o86 =>
 (bif o86.2.1 then
 ((Ze N o1.2.2.1 1 20).bind fun o87 =>
 (bif o87.2.1 then
 (some ((), (o1.2.2.2 == 0, ())))
 else
 (some ((), (false, ())))))
 else
 (some ((), (false, ())))))
 else
 (bif o1.1 == 8 then
 (bif o1.1 == 8 then
 ((Za N o1.2.1).bind fun o88 =>
 (bif o88.2.1 then
 (bif o1.2.2.1 == 0 then
 (some ((), (o1.2.2.2 == 0, ())))
 else
 (some ((), (false, ()))))
 else
 (some ((), (false, ())))))
 else
 (bif o1.1 == 9 then
 (bif o1.1 == 9 then
 (bif o1.2.1 == 0 then
 (bif o1.2.2.1 == 0 then
 (some ((), (o1.2.2.2 == 0, ())))
 else
 (some ((), (false, ()))))
 else
 (some ((), (false, ()))))
 else
 (bif o1.1 == 12 then
 ((Ze N o1.2.1 0 7).bind fun o89 =>
 (bif o89.2.1 then
 ((Za N o1.2.2.1).bind fun o90 =>
 (bif o90.2.1 then
 ((Za N o1.2.2.2).bind fun o91 =>
 (some ((), (o91.2.1, ()))))
 else
 (some ((), (false, ())))))
 else
 (some ((), (false, ())))))
 else
 (bif o1.1 == 13 then
 ((Za N o1.2.1).bind fun o92 =>
 (bif o92.2.1 then
 ((Ze N o1.2.2.1 0 7).bind fun o93 =>
 (bif o93.2.1 then
 (some ((), (o1.2.2.2 == 0, ())))
 else
 (some ((), (false, ())))))
 else
 (some ((), (false, ())))))
 else
 (bif o1.1 == 14 then
 ((Ze N o1.2.1 0 7).bind fun o94 =>
 (bif o94.2.1 then
 ((Za N o1.2.2.1).bind fun o95 =>
 (bif o95.2.1 then
 (some ((), (o1.2.2.2 == 0, ())))
 else
 (some ((), (false, ())))))
 else
 (some ((), (false, ())))))
 else
 (some ((), (false, ())))))))
 else
 (bif o1.1 == 10 then
 (bif o1.1 == 10 then
 (bif o1.2.1 == 0 then
 (bif o1.2.2.1 == 0 then
 (some ((), (o1.2.2.2 == 0, ())))
 else
 (some ((), (false, ()))))
 else
 (some ((), (false, ()))))
 else
 (bif o1.1 == 12 then
 ((Ze N o1.2.1 0 7).bind fun o96 =>
 (bif o96.2.1 then
 ((Za N o1.2.2.1).bind fun o97 =>
 (bif o97.2.1 then
 ((Za N o1.2.2.2).bind fun o98 =>
 (some ((), (o98.2.1, ()))))
 else
 (some ((), (false, ())))))
 else
 (some ((), (false, ())))))
 else
 (bif o1.1 == 13 then
 ((Za N o1.2.1).bind fun o99 =>
 (bif o99.2.1 then
 ((Ze N o1.2.2.1 0 7).bind fun o100 =>
 (bif o100.2.1 then
 (some ((), (o1.2.2.2 == 0, ())))
 else
 (some ((), (false, ())))))
 else
 (some ((), (false, ())))))
 else
 (bif o1.1 == 14 then
 ((Ze N o1.2.1 0 7).bind fun o101 =>
 (bif o101.2.1 then
 ((Za N o1.2.2.1).bind fun o102 =>
 (bif o102.2.1 then
 (some ((), (o1.2.2.2 == 0, ())))
 else
 (some ((), (false, ())))))
 else
 (some ((), (false, ())))))
 else
 (some ((), (false, ())))))))
 else
 (bif o1.1 == 11 then
 (bif o1.2.1 == 0 then
 (bif o1.2.2.1 == 0 then
 (some ((), (o1.2.2.2 == 0, ())))
 else
 (some ((), (false, ()))))
 else
 (some ((), (false, ()))))
 else
 (bif o1.1 == 12 then
 ((Ze N o1.2.1 0 7).bind fun o103 =>
 (bif o103.2.1 then
 ((Za N o1.2.2.1).bind fun o104 =>
 (bif o104.2.1 then
 ((Za N o1.2.2.2).bind fun o105 =>
 (some ((), (o105.2.1, ()))))
 else
 (some ((), (false, ())))))
 else
 (some ((), (false, ())))))
 else
 (bif o1.1 == 13 then
 ((Za N o1.2.1).bind fun o106 =>
 (bif o106.2.1 then
 ((Ze N o1.2.2.1 0 7).bind fun o107 =>
 (bif o107.2.1 then
 (some ((), (o1.2.2.2 == 0, ())))
 else
 (some ((), (false, ())))))
 else
 (some ((), (false, ())))))
 else
 (bif o1.1 == 14 then
 ((Ze N o1.2.1 0 7).bind fun o108 =>
 (bif o108.2.1 then
 ((Za N o1.2.2.1).bind fun o109 =>
 (bif o109.2.1 then
 (some ((), (o1.2.2.2 == 0, ())))
 else
 (some ((), (false, ())))))
 else
 (some ((), (false, ())))))
 else
 (some ((), (false, ()))))))))))
 else
 (bif o1.1 == 15 then
 (bif o1.1 == 15 then
 ((Za N o1.2.1).bind fun o110 =>
 (bif o110.2.1 then
 (bif o1.2.2.1 == 0 then
 (some ((), (o1.2.2.2 == 0, ())))
 else
 (some ((), (false, ()))))
 else
 (some ((), (false, ())))))
 else
 (bif o1.1 == 9 then
 (bif o1.1 == 9 then
 (bif o1.2.1 == 0 then
 (bif o1.2.2.1 == 0 then
 (some ((), (o1.2.2.2 == 0, ())))
 else
 (some ((), (false, ()))))
 else
 (some ((), (false, ()))))
 else
 (bif o1.1 == 12 then
 ((Ze N o1.2.1 0 7).bind fun o111 =>
 (bif o111.2.1 then
 ((Za N o1.2.2.1).bind fun o112 =>
 (bif o112.2.1 then
 ((Za N o1.2.2.2).bind fun o113 =>
 (some ((), (o113.2.1, ()))))
 else
 (some ((), (false, ())))))
 else
 (some ((), (false, ())))))
 else
 (bif o1.1 == 13 then
 ((Za N o1.2.1).bind fun o114 =>
 (bif o114.2.1 then
 ((Ze N o1.2.2.1 0 7).bind fun o115 =>
 (bif o115.2.1 then
 (some ((), (o1.2.2.2 == 0, ())))
 else
 (some ((), (false, ())))))
 else
 (some ((), (false, ())))))
 else
 (bif o1.1 == 14 then
 ((Ze N o1.2.1 0 7).bind fun o116 =>
 (bif o116.2.1 then
 ((Za N o1.2.2.1).bind fun o117 =>
 (bif o117.2.1 then
 (some ((), (o1.2.2.2 == 0, ())))
 else
 (some ((), (false, ())))))
 else
 (some ((), (false, ())))))
 else
 (some ((), (false, ())))))))
 else
 (bif o1.1 == 10 then
 (bif o1.1 == 10 then
 (bif o1.2.1 == 0 then
 (bif o1.2.2.1 == 0 then
 (some ((), (o1.2.2.2 == 0, ())))
 else
 (some ((), (false, ()))))
 else
 (some ((), (false, ()))))
 else
 (bif o1.1 == 12 then
 ((Ze N o1.2.1 0 7).bind fun o118 =>
 (bif o118.2.1 then
 ((Za N o1.2.2.1).bind fun o119 =>
 (bif o119.2.1 then
 ((Za N o1.2.2.2).bind fun o120 =>
 (some ((), (o120.2.1, ()))))
 else
 (some ((), (false, ())))))
 else
 (some ((), (false, ())))))
 else
 (bif o1.1 == 13 then
 ((Za N o1.2.1).bind fun o121 =>
 (bif o121.2.1 then
 ((Ze N o1.2.2.1 0 7).bind fun o122 =>
 (bif o122.2.1 then
 (some ((), (o1.2.2.2 == 0, ())))
 else
 (some ((), (false, ())))))
 else
 (some ((), (false, ())))))
 else
 (bif o1.1 == 14 then
 ((Ze N o1.2.1 0 7).bind fun o123 =>
 (bif o123.2.1 then
 ((Za N o1.2.2.1).bind fun o124 =>
 (bif o124.2.1 then
 (some ((), (o1.2.2.2 == 0, ())))
 else
 (some ((), (false, ())))))
 else
 (some ((), (false, ())))))
 else
 (some ((), (false, ())))))))
 else
 (bif o1.1 == 11 then
 (bif o1.2.1 == 0 then
 (bif o1.2.2.1 == 0 then
 (some ((), (o1.2.2.2 == 0, ())))
 else
 (some ((), (false, ()))))
 else
 (some ((), (false, ()))))
 else
 (bif o1.1 == 12 then
 ((Ze N o1.2.1 0 7).bind fun o125 =>
 (bif o125.2.1 then
 ((Za N o1.2.2.1).bind fun o126 =>
 (bif o126.2.1 then
 ((Za N o1.2.2.2).bind fun o127 =>
 (some ((), (o127.2.1, ()))))
 else
 (some ((), (false, ())))))
 else
 (some ((), (false, ())))))
 else
 (bif o1.1 == 13 then
 ((Za N o1.2.1).bind fun o128 =>
 (bif o128.2.1 then
 ((Ze N o1.2.2.1 0 7).bind fun o129 =>
 (bif o129.2.1 then
 (some ((), (o1.2.2.2 == 0, ())))
 else
 (some ((), (false, ())))))
 else
 (some ((), (false, ())))))
 else
 (bif o1.1 == 14 then
 ((Ze N o1.2.1 0 7).bind fun o130 =>
 (bif o130.2.1 then
 ((Za N o1.2.2.1).bind fun o131 =>
 (bif o131.2.1 then
 (some ((), (o1.2.2.2 == 0, ())))
 else
 (some ((), (false, ())))))
 else
 (some ((), (false, ())))))
 else
 (some ((), (false, ()))))))))))
 else
 (bif o1.1 == 16 then
 ((Za N o1.2.1).bind fun o132 =>
 (bif o132.2.1 then
 (bif o1.2.2.1 == 0 then
 (some ((), (o1.2.2.2 == 0, ())))
 else
 (some ((), (false, ()))))
 else
 (some ((), (false, ())))))
 else
 (bif o1.1 == 9 then
 (bif o1.1 == 9 then
 (bif o1.2.1 == 0 then
 (bif o1.2.2.1 == 0 then
 (some ((), (o1.2.2.2 == 0, ())))
 else
 (some ((), (false, ()))))
 else
 (some ((), (false, ()))))
 else
 (bif o1.1 == 12 then
 ((Ze N o1.2.1 0 7).bind fun o133 =>
 (bif o133.2.1 then
 ((Za N o1.2.2.1).bind fun o134 =>
 (bif o134.2.1 then
 ((Za N o1.2.2.2).bind fun o135 =>
 (some ((), (o135.2.1, ()))))
 else
 (some ((), (false, ())))))
 else
 (some ((), (false, ())))))
 else
 (bif o1.1 == 13 then
 ((Za N o1.2.1).bind fun o136 =>
 (bif o136.2.1 then
 ((Ze N o1.2.2.1 0 7).bind fun o137 =>
 (bif o137.2.1 then
 (some ((), (o1.2.2.2 == 0, ())))
 else
 (some ((), (false, ())))))
 else
 (some ((), (false, ())))))
 else
 (bif o1.1 == 14 then
 ((Ze N o1.2.1 0 7).bind fun o138 =>
 (bif o138.2.1 then
 ((Za N o1.2.2.1).bind fun o139 =>
 (bif o139.2.1 then
 (some ((), (o1.2.2.2 == 0, ())))
 else
 (some ((), (false, ())))))
 else
 (some ((), (false, ())))))
 else
 (some ((), (false, ())))))))
 else
 (bif o1.1 == 10 then
 (bif o1.1 == 10 then
 (bif o1.2.1 == 0 then
 (bif o1.2.2.1 == 0 then
 (some ((), (o1.2.2.2 == 0, ())))
 else
 (some ((), (false, ()))))
 else
 (some ((), (false, ()))))
 else
 (bif o1.1 == 12 then
 ((Ze N o1.2.1 0 7).bind fun o140 =>
 (bif o140.2.1 then
 ((Za N o1.2.2.1).bind fun o141 =>
 (bif o141.2.1 then
 ((Za N o1.2.2.2).bind fun o142 =>
 (some ((), (o142.2.1, ()))))
 else
 (some ((), (false, ())))))
 else
 (some ((), (false, ())))))
 else
 (bif o1.1 == 13 then
 ((Za N o1.2.1).bind fun o143 =>
 (bif o143.2.1 then
 ((Ze N o1.2.2.1 0 7).bind fun o144 =>
 (bif o144.2.1 then
 (some ((), (o1.2.2.2 == 0, ())))
 else
 (some ((), (false, ())))))
 else
 (some ((), (false, ())))))
 else
 (bif o1.1 == 14 then
 ((Ze N o1.2.1 0 7).bind fun o145 =>
 (bif o145.2.1 then
 ((Za N o1.2.2.1).bind fun o146 =>
 (bif o146.2.1 then
 (some ((), (o1.2.2.2 == 0, ())))
 else
 (some ((), (false, ())))))
 else
 (some ((), (false, ())))))
 else
 (some ((), (false, ())))))))
 else
 (bif o1.1 == 11 then
 (bif o1.2.1 == 0 then
 (bif o1.2.2.1 == 0 then
 (some ((), (o1.2.2.2 == 0, ())))
 else
 (some ((), (false, ()))))
 else
 (some ((), (false, ()))))
 else
 (bif o1.1 == 12 then
 ((Ze N o1.2.1 0 7).bind fun o147 =>
 (bif o147.2.1 then
 ((Za N o1.2.2.1).bind fun o148 =>
 (bif o148.2.1 then
 ((Za N o1.2.2.2).bind fun o149 =>
 (some ((), (o149.2.1, ()))))
 else
 (some ((), (false, ())))))
 else
 (some ((), (false, ())))))
 else
 (bif o1.1 == 13 then
 ((Za N o1.2.1).bind fun o150 =>
 (bif o150.2.1 then
 ((Ze N o1.2.2.1 0 7).bind fun o151 =>
 (bif o151.2.1 then
 (some ((), (o1.2.2.2 == 0, ())))
 else
 (some ((), (false, ())))))
 else
 (some ((), (false, ())))))
 else
 (bif o1.1 == 14 then
 ((Ze N o1.2.1 0 7).bind fun o152 =>
 (bif o152.2.1 then
 ((Za N o1.2.2.1).bind fun o153 =>
 (bif o153.2.1 then
 (some ((), (o1.2.2.2 == 0, ())))
 else
 (some ((), (false, ())))))
 else
 (some ((), (false, ())))))
 else
 (some ((), (false, ()))))))))))))))))
 else
 (bif o1.1 == 4 then
 ((Za N o1.2.1).bind fun o154 =>
 (bif o154.2.1 then
 ((Za N o1.2.2.1).bind fun o155 =>
 (bif o155.2.1 then
 ((Za N o1.2.2.2).bind fun o156 =>
 (some ((), (o156.2.1, ()))))
 else
 (some ((), (false, ())))))
 else
 (some ((), (false, ())))))
 else
 (bif o1.1 == 5 then
 ((Za N o1.2.1).bind fun o157 =>
 (bif o157.2.1 then
 ((Za2 N o1.2.2.1).bind fun o158 =>
 (bif o158.2.1 then
 (some ((), (o1.2.2.2 == 0, ())))
 else
 (some ((), (false, ())))))
 else
 (some ((), (false, ())))))
 else
 (bif o1.1 == 6 then
 ((Za2 N o1.2.1).bind fun o159 =>
 (bif o159.2.1 then
 ((Za N o1.2.2.1).bind fun o160 =>
 (bif o160.2.1 then
 (some ((), (o1.2.2.2 == 0, ())))
 else
 (some ((), (false, ())))))
 else
 (some ((), (false, ())))))
 else
 (bif o1.1 == 7 then
 ((Za N o1.2.1).bind fun o161 =>
 (bif o161.2.1 then
 ((Ze N o1.2.2.1 1 20).bind fun o162 =>
 (bif o162.2.1 then
 (some ((), (o1.2.2.2 == 0, ())))
 else
 (some ((), (false, ())))))
 else
 (some ((), (false, ())))))
 else
 (bif o1.1 == 8 then
 (bif o1.1 == 8 then
 ((Za N o1.2.1).bind fun o163 =>
 (bif o163.2.1 then
 (bif o1.2.2.1 == 0 then
 (some ((), (o1.2.2.2 == 0, ())))
 else
 (some ((), (false, ()))))
 else
 (some ((), (false, ())))))
 else
 (bif o1.1 == 9 then
 (bif o1.1 == 9 then
 (bif o1.2.1 == 0 then
 (bif o1.2.2.1 == 0 then
 (some ((), (o1.2.2.2 == 0, ())))
 else
 (some ((), (false, ()))))
 else
 (some ((), (false, ()))))
 else
 (bif o1.1 == 12 then
 ((Ze N o1.2.1 0 7).bind fun o164 =>
 (bif o164.2.1 then
 ((Za N o1.2.2.1).bind fun o165 =>
 (bif o165.2.1 then
 ((Za N o1.2.2.2).bind fun o166 =>
 (some ((), (o166.2.1, ()))))
 else
 (some ((), (false, ())))))
 else
 (some ((), (false, ())))))
 else
 (bif o1.1 == 13 then
 ((Za N o1.2.1).bind fun o167 =>
 (bif o167.2.1 then
 ((Ze N o1.2.2.1 0 7).bind fun o168 =>
 (bif o168.2.1 then
 (some ((), (o1.2.2.2 == 0, ())))
 else
 (some ((), (false, ())))))
 else
 (some ((), (false, ())))))
 else
 (bif o1.1 == 14 then
 ((Ze N o1.2.1 0 7).bind fun o169 =>
 (bif o169.2.1 then
 ((Za N o1.2.2.1).bind fun o170 =>
 (bif o170.2.1 then
 (some ((), (o1.2.2.2 == 0, ())))
 else
 (some ((), (false, ())))))
 else
 (some ((), (false, ())))))
 else
 (some ((), (false, ())))))))
 else
 (bif o1.1 == 10 then
 (bif o1.1 == 10 then
 (bif o1.2.1 == 0 then
 (bif o1.2.2.1 == 0 then
 (some ((), (o1.2.2.2 == 0, ())))
 else
 (some ((), (false, ()))))
 else
 (some ((), (false, ()))))
 else
 (bif o1.1 == 12 then
 ((Ze N o1.2.1 0 7).bind fun o171 =>
 (bif o171.2.1 then
 ((Za N o1.2.2.1).bind fun o172 =>
 (bif o172.2.1 then
 ((Za N o1.2.2.2).bind fun o173 =>
 (some ((), (o173.2.1, ()))))
 else
 (some ((), (false, ())))))
 else
 (some ((), (false, ())))))
 else
 (bif o1.1 == 13 then
 ((Za N o1.2.1).bind fun o174 =>
 (bif o174.2.1 then
 ((Ze N o1.2.2.1 0 7).bind fun o175 =>
 (bif o175.2.1 then
 (some ((), (o1.2.2.2 == 0, ())))
 else
 (some ((), (false, ())))))
 else
 (some ((), (false, ())))))
 else
 (bif o1.1 == 14 then
 ((Ze N o1.2.1 0 7).bind fun o176 =>
 (bif o176.2.1 then
 ((Za N o1.2.2.1).bind fun o177 =>
 (bif o177.2.1 then
 (some ((), (o1.2.2.2 == 0, ())))
 else
 (some ((), (false, ())))))
 else
 (some ((), (false, ())))))
 else
 (some ((), (false, ())))))))
 else
 (bif o1.1 == 11 then
 (bif o1.2.1 == 0 then
 (bif o1.2.2.1 == 0 then
 (some ((), (o1.2.2.2 == 0, ())))
 else
 (some ((), (false, ()))))
 else
 (some ((), (false, ()))))
 else
 (bif o1.1 == 12 then
 ((Ze N o1.2.1 0 7).bind fun o178 =>
 (bif o178.2.1 then
 ((Za N o1.2.2.1).bind fun o179 =>
 (bif o179.2.1 then
 ((Za N o1.2.2.2).bind fun o180 =>
 (some ((), (o180.2.1, ()))))
 else
 (some ((), (false, ())))))
 else
 (some ((), (false, ())))))
 else
 (bif o1.1 == 13 then
 ((Za N o1.2.1).bind fun o181 =>
 (bif o181.2.1 then
 ((Ze N o1.2.2.1 0 7).bind fun o182 =>
 (bif o182.2.1 then
 (some ((), (o1.2.2.2 == 0, ())))
 else
 (some ((), (false, ())))))
 else
 (some ((), (false, ())))))
 else
 (bif o1.1 == 14 then
 ((Ze N o1.2.1 0 7).bind fun o183 =>
 (bif o183.2.1 then
 ((Za N o1.2.2.1).bind fun o184 =>
 (bif o184.2.1 then
 (some ((), (o1.2.2.2 == 0, ())))
 else
 (some ((), (false, ())))))
 else
 (some ((), (false, ())))))
 else
 (some ((), (false, ()))))))))))
 else
 (bif o1.1 == 15 then
 (bif o1.1 == 15 then
 ((Za N o1.2.1).bind fun o185 =>
 (bif o185.2.1 then
 (bif o1.2.2.1 == 0 then
 (some ((), (o1.2.2.2 == 0, ())))
 else
 (some ((), (false, ()))))
 else
 (some ((), (false, ())))))
 else
 (bif o1.1 == 9 then
 (bif o1.1 == 9 then
 (bif o1.2.1 == 0 then
 (bif o1.2.2.1 == 0 then
 (some ((), (o1.2.2.2 == 0, ())))
 else
 (some ((), (false, ()))))
 else
 (some ((), (false, ()))))
 else
 (bif o1.1 == 12 then
 ((Ze N o1.2.1 0 7).bind fun o186 =>
 (bif o186.2.1 then
 ((Za N o1.2.2.1).bind fun o187 =>
 (bif o187.2.1 then
 ((Za N o1.2.2.2).bind fun o188 =>
 (some ((), (o188.2.1, ()))))
 else
 (some ((), (false, ())))))
 else
 (some ((), (false, ())))))
 else
 (bif o1.1 == 13 then
 ((Za N o1.2.1).bind fun o189 =>
 (bif o189.2.1 then
 ((Ze N o1.2.2.1 0 7).bind fun o190 =>
 (bif o190.2.1 then
 (some ((), (o1.2.2.2 == 0, ())))
 else
 (some ((), (false, ())))))
 else
 (some ((), (false, ())))))
 else
 (bif o1.1 == 14 then
 ((Ze N o1.2.1 0 7).bind fun o191 =>
 (bif o191.2.1 then
 ((Za N o1.2.2.1).bind fun o192 =>
 (bif o192.2.1 then
 (some ((), (o1.2.2.2 == 0, ())))
 else
 (some ((), (false, ())))))
 else
 (some ((), (false, ())))))
 else
 (some ((), (false, ())))))))
 else
 (bif o1.1 == 10 then
 (bif o1.1 == 10 then
 (bif o1.2.1 == 0 then
 (bif o1.2.2.1 == 0 then
 (some ((), (o1.2.2.2 == 0, ())))
 else
 (some ((), (false, ()))))
 else
 (some ((), (false, ()))))
 else
 (bif o1.1 == 12 then
 ((Ze N o1.2.1 0 7).bind fun o193 =>
 (bif o193.2.1 then
 ((Za N o1.2.2.1).bind fun o194 =>
 (bif o194.2.1 then
 ((Za N o1.2.2.2).bind fun o195 =>
 (some ((), (o195.2.1, ()))))
 else
 (some ((), (false, ())))))
 else
 (some ((), (false, ())))))
 else
 (bif o1.1 == 13 then
 ((Za N o1.2.1).bind fun o196 =>
 (bif o196.2.1 then
 ((Ze N o1.2.2.1 0 7).bind fun o197 =>
 (bif o197.2.1 then
 (some ((), (o1.2.2.2 == 0, ())))
 else
 (some ((), (false, ())))))
 else
 (some ((), (false, ())))))
 else
 (bif o1.1 == 14 then
 ((Ze N o1.2.1 0 7).bind fun o198 =>
 (bif o198.2.1 then
 ((Za N o1.2.2.1).bind fun o199 =>
 (bif o199.2.1 then
 (some ((), (o1.2.2.2 == 0, ())))
 else
 (some ((), (false, ())))))
 else
 (some ((), (false, ())))))
 else
 (some ((), (false, ())))))))
 else
 (bif o1.1 == 11 then
 (bif o1.2.1 == 0 then
 (bif o1.2.2.1 == 0 then
 (some ((), (o1.2.2.2 == 0, ())))
 else
 (some ((), (false, ()))))
 else
 (some ((), (false, ()))))
 else
 (bif o1.1 == 12 then
 ((Ze N o1.2.1 0 7).bind fun o200 =>
 (bif o200.2.1 then
 ((Za N o1.2.2.1).bind fun o201 =>
 (bif o201.2.1 then
 ((Za N o1.2.2.2).bind fun o202 =>
 (some ((), (o202.2.1, ()))))
 else
 (some ((), (false, ())))))
 else
 (some ((), (false, ())))))
 else
 (bif o1.1 == 13 then
 ((Za N o1.2.1).bind fun o203 =>
 (bif o203.2.1 then
 ((Ze N o1.2.2.1 0 7).bind fun o204 =>
 (bif o204.2.1 then
 (some ((), (o1.2.2.2 == 0, ())))
 else
 (some ((), (false, ())))))
 else
 (some ((), (false, ())))))
 else
 (bif o1.1 == 14 then
 ((Ze N o1.2.1 0 7).bind fun o205 =>
 (bif o205.2.1 then
 ((Za N o1.2.2.1).bind fun o206 =>
 (bif o206.2.1 then
 (some ((), (o1.2.2.2 == 0, ())))
 else
 (some ((), (false, ())))))
 else
 (some ((), (false, ())))))
 else
 (some ((), (false, ()))))))))))
 else
 (bif o1.1 == 16 then
 ((Za N o1.2.1).bind fun o207 =>
 (bif o207.2.1 then
 (bif o1.2.2.1 == 0 then
 (some ((), (o1.2.2.2 == 0, ())))
 else
 (some ((), (false, ()))))
 else
 (some ((), (false, ())))))
 else
 (bif o1.1 == 9 then
 (bif o1.1 == 9 then
 (bif o1.2.1 == 0 then
 (bif o1.2.2.1 == 0 then
 (some ((), (o1.2.2.2 == 0, ())))
 else
 (some ((), (false, ()))))
 else
 (some ((), (false, ()))))
 else
 (bif o1.1 == 12 then
 ((Ze N o1.2.1 0 7).bind fun o208 =>
 (bif o208.2.1 then
 ((Za N o1.2.2.1).bind fun o209 =>
 (bif o209.2.1 then
 ((Za N o1.2.2.2).bind fun o210 =>
 (some ((), (o210.2.1, ()))))
 else
 (some ((), (false, ())))))
 else
 (some ((), (false, ())))))
 else
 (bif o1.1 == 13 then
 ((Za N o1.2.1).bind fun o211 =>
 (bif o211.2.1 then
 ((Ze N o1.2.2.1 0 7).bind fun o212 =>
 (bif o212.2.1 then
 (some ((), (o1.2.2.2 == 0, ())))
 else
 (some ((), (false, ())))))
 else
 (some ((), (false, ())))))
 else
 (bif o1.1 == 14 then
 ((Ze N o1.2.1 0 7).bind fun o213 =>
 (bif o213.2.1 then
 ((Za N o1.2.2.1).bind fun o214 =>
 (bif o214.2.1 then
 (some ((), (o1.2.2.2 == 0, ())))
 else
 (some ((), (false, ())))))
 else
 (some ((), (false, ())))))
 else
 (some ((), (false, ())))))))
 else
 (bif o1.1 == 10 then
 (bif o1.1 == 10 then
 (bif o1.2.1 == 0 then
 (bif o1.2.2.1 == 0 then
 (some ((), (o1.2.2.2 == 0, ())))
 else
 (some ((), (false, ()))))
 else
 (some ((), (false, ()))))
 else
 (bif o1.1 == 12 then
 ((Ze N o1.2.1 0 7).bind fun o215 =>
 (bif o215.2.1 then
 ((Za N o1.2.2.1).bind fun o216 =>
 (bif o216.2.1 then
 ((Za N o1.2.2.2).bind fun o217 =>
 (some ((), (o217.2.1, ()))))
 else
 (some ((), (false, ())))))
 else
 (some ((), (false, ())))))
 else
 (bif o1.1 == 13 then
 ((Za N o1.2.1).bind fun o218 =>
 (bif o218.2.1 then
 ((Ze N o1.2.2.1 0 7).bind fun o219 =>
 (bif o219.2.1 then
 (some ((), (o1.2.2.2 == 0, ())))
 else
 (some ((), (false, ())))))
 else
 (some ((), (false, ())))))
 else
 (bif o1.1 == 14 then
 ((Ze N o1.2.1 0 7).bind fun o220 =>
 (bif o220.2.1 then
 ((Za N o1.2.2.1).bind fun o221 =>
 (bif o221.2.1 then
 (some ((), (o1.2.2.2 == 0, ())))
 else
 (some ((), (false, ())))))
 else
 (some ((), (false, ())))))
 else
 (some ((), (false, ())))))))
 else
 (bif o1.1 == 11 then
 (bif o1.2.1 == 0 then
 (bif o1.2.2.1 == 0 then
 (some ((), (o1.2.2.2 == 0, ())))
 else
 (some ((), (false, ()))))
 else
 (some ((), (false, ()))))
 else
 (bif o1.1 == 12 then
 ((Ze N o1.2.1 0 7).bind fun o222 =>
 (bif o222.2.1 then
 ((Za N o1.2.2.1).bind fun o223 =>
 (bif o223.2.1 then
 ((Za N o1.2.2.2).bind fun o224 =>
 (some ((), (o224.2.1, ()))))
 else
 (some ((), (false, ())))))
 else
 (some ((), (false, ())))))
 else
 (bif o1.1 == 13 then
 ((Za N o1.2.1).bind fun o225 =>
 (bif o225.2.1 then
 ((Ze N o1.2.2.1 0 7).bind fun o226 =>
 (bif o226.2.1 then
 (some ((), (o1.2.2.2 == 0, ())))
 else
 (some ((), (false, ())))))
 else
 (some ((), (false, ())))))
 else
 (bif o1.1 == 14 then
 ((Ze N o1.2.1 0 7).bind fun o227 =>
 (bif o227.2.1 then
 ((Za N o1.2.2.1).bind fun o228 =>
 (bif o228.2.1 then
 (some ((), (o1.2.2.2 == 0, ())))
 else
 (some ((), (false, ())))))
 else
 (some ((), (false, ())))))
 else
 (some ((), (false, ())))))))))))))))))))
noncomputable def Zah {R : Type} (N : Nat) (code3 : List (Int × Int × Int × Int)) (to4 : Int) (K0 : Option R) (K1 : Int → Int → Bool → Option R) : Nat → Int → Int → Option R
  | 0, _, _ => none
  | n + 1, d5, k6 =>
    (bif decide (k6 < to4) then
 (bif inb k6 (List.length code3) then
 (bif (List.getD code3 (Int.toNat k6) (0, 0, 0, 0)).1 == 8 then
 (bif inb k6 (List.length code3) then
 (bif (List.getD code3 (Int.toNat k6) (0, 0, 0, 0)).1 == 9 then
 (bif decide ((isub .i64 (iadd .i64 d5 1) 1) < 0) then
 K0
 else
 (Zah N code3 to4 K0 K1 n (isub .i64 (iadd .i64 d5 1) 1) (iadd .i64 k6 1)))
 else
 (bif decide ((iadd .i64 d5 1) < 0) then
 K0
 else
 (Zah N code3 to4 K0 K1 n (iadd .i64 d5 1) (iadd .i64 k6 1)))) else none)
 else
 (bif inb k6 (List.length code3) then
 (bif (List.getD code3 (Int.toNat k6) (0, 0, 0, 0)).1 == 9 then
 (bif decide ((isub .i64 d5 1) < 0) then
 K0
 else
 (Zah N code3 to4 K0 K1 n (isub .i64 d5 1) (iadd .i64 k6 1)))
 else
 (bif decide (d5 < 0) then
 K0
 else
 (Zah N code3 to4 K0 K1 n d5 (iadd .i64 k6 1)))) else none)) else none)
 else
 (K1 d5 k6 (decide (k6 < to4))))
noncomputable def Zdd (N : Nat) (code1 : List (Int × Int × Int × Int)) (i2 : Int) : Option (Unit × (Bool × Unit)) :=
    (bif inb i2 (List.length code1) then
 (bif decide ((iadd .i64 (iadd .i64 i2 1) (List.getD code1 (Int.toNat i2) (0, 0, 0, 0)).2.2.1) > (ilen code1)) then
 (some ((), (false, ())))
 else
 (Zah N code1 (iadd .i64 (iadd .i64 i2 1) (List.getD code1 (Int.toNat i2) (0, 0, 0, 0)).2.2.1)
 (some ((), (false, ())))
 (fun d10 k11 t12 =>
   (some ((), (d10 == 0, ()))))
  N 0 (iadd .i64 i2 1))) else none)
noncomputable def Zai {R : Type} (N : Nat) (code2 : List (Int × Int × Int × Int)) (K0 : Option R) (K1 : Int → Int → Int → Bool → Option R) : Nat → Int → Int → Int → Option R
  | 0, _, _, _ => none
  | n + 1, d3, forks4, i5 =>
    (bif decide (i5 < (ilen code2)) then
 (bif inb i5 (List.length code2) then
 ((Zp N (List.getD code2 (Int.toNat i5) (0, 0, 0, 0))).bind fun o12 =>
 (bif !o12.2.1 then
 K0
 else
 (bif inb i5 (List.length code2) then
 (bif (List.getD code2 (Int.toNat i5) (0, 0, 0, 0)).1 == 8 then
 (bif decide ((iadd .i64 d3 1) < 0) then
 K0
 else
 (Zai N code2 K0 K1 n (iadd .i64 d3 1) forks4 (iadd .i64 i5 1)))
 else
 (bif (List.getD code2 (Int.toNat i5) (0, 0, 0, 0)).1 == 9 then
 (bif decide ((isub .i64 d3 1) < 0) then
 K0
 else
 (Zai N code2 K0 K1 n (isub .i64 d3 1) forks4 (iadd .i64 i5 1)))
 else
 (bif (List.getD code2 (Int.toNat i5) (0, 0, 0, 0)).1 == 7 then
 ((Zdd N code2 i5).bind fun o13 =>
 (bif !o13.2.1 then
 K0
 else
 (bif decide (d3 < 0) then
 K0
 else
 (Zai N code2 K0 K1 n d3 forks4 (iadd .i64 i5 1)))))
 else
 (bif (List.getD code2 (Int.toNat i5) (0, 0, 0, 0)).1 == 11 then
 (bif decide (d3 > 0) then
 K0
 else
 (bif decide ((iadd .i64 forks4 1) > 1) then
 K0
 else
 (bif decide (d3 < 0) then
 K0
 else
 (Zai N code2 K0 K1 n d3 (iadd .i64 forks4 1) (iadd .i64 i5 1)))))
 else
 (bif decide (d3 < 0) then
 K0
 else
 (Zai N code2 K0 K1 n d3 forks4 (iadd .i64 i5 1))))))) else none))) else none)
 else
 (K1 d3 forks4 i5 (decide (i5 < (ilen code2)))))
noncomputable def Zde (N : Nat) (code1 : List (Int × Int × Int × Int)) : Option (Unit × (Bool × Unit)) :=
    (bif decide ((ilen code1) > 24) then
 (some ((), (false, ())))
 else
 (Zai N code1
 (some ((), (false, ())))
 (fun d14 forks15 i16 t17 =>
   (some ((), (d14 == 0, ()))))
  N 0 0 0))
noncomputable def Zbp {R : Type} (N : Nat) (code2 : List (Int × Int × Int × Int)) (K0 : Option R) (K1 : Int → Bool → Option R) : Nat → Int → Option R
  | 0, _ => none
  | n + 1, i3 =>
    (bif decide (i3 < (ilen code2)) then
 (bif inb i3 (List.length code2) then
 (bif (List.getD code2 (Int.toNat i3) (0, 0, 0, 0)).1 == 11 then
 K0
 else
 (Zbp N code2 K0 K1 n (iadd .i64 i3 1))) else none)
 else
 (K1 i3 (decide (i3 < (ilen code2)))))
noncomputable def Zco (N : Nat) (code1 : List (Int × Int × Int × Int)) : Option (Unit × (Bool × Unit)) :=
    (Zbp N code1
 (some ((), (true, ())))
 (fun i6 t7 =>
   (some ((), (false, ()))))
  N 0)
noncomputable def Zbe (N : Nat) (o1 : Int × Int × Int × Int) : Option (Unit × (Int × Unit)) :=
    ((Zp N o1).bind fun o2 =>
 (bif !o2.2.1 then
 (some ((), (0, ())))
 else
 (bif o1.1 == 5 then
 (bif o1.1 == 5 then
 (some ((), (1, ())))
 else
 (bif o1.1 == 12 then
 (bif o1.1 == 12 then
 (some ((), (2, ())))
 else
 (some ((), (0, ()))))
 else
 (bif o1.1 == 13 then
 (bif o1.1 == 13 then
 (some ((), (2, ())))
 else
 (some ((), (0, ()))))
 else
 (bif o1.1 == 14 then
 (bif o1.1 == 14 then
 (some ((), (2, ())))
 else
 (some ((), (0, ()))))
 else
 (bif o1.1 == 15 then
 (bif o1.1 == 15 then
 (some ((), (2, ())))
 else
 (some ((), (0, ()))))
 else
 (bif o1.1 == 16 then
 (some ((), (2, ())))
 else
 (some ((), (0, ())))))))))
 else
 (bif o1.1 == 6 then
 (some ((), (1, ())))
 else
 (bif o1.1 == 12 then
 (bif o1.1 == 12 then
 (some ((), (2, ())))
 else
 (some ((), (0, ()))))
 else
 (bif o1.1 == 13 then
 (bif o1.1 == 13 then
 (some ((), (2, ())))
 else
 (some ((), (0, ()))))
 else
 (bif o1.1 == 14 then
 (bif o1.1 == 14 then
 (some ((), (2, ())))
 else
 (some ((), (0, ()))))
 else
 (bif o1.1 == 15 then
 (bif o1.1 == 15 then
 (some ((), (2, ())))
 else
 (some ((), (0, ()))))
 else
 (bif o1.1 == 16 then
 (some ((), (2, ())))
 else
 (some ((), (0, ()))))))))))))
noncomputable def Zcj {R : Type} (N : Nat) (code4 : List (Int × Int × Int × Int)) (K0 : Option R) (K1 : Int → Bool → Option R) : Nat → Int → Option R
  | 0, _ => none
  | n + 1, i5 =>
    (bif decide (i5 < (ilen code4)) then
 (bif inb i5 (List.length code4) then
 ((Zbe N (List.getD code4 (Int.toNat i5) (0, 0, 0, 0))).bind fun o9 =>
 (bif o9.2.1 == 2 then
 K0
 else
 (Zcj N code4 K0 K1 n (iadd .i64 i5 1)))) else none)
 else
 (K1 i5 (decide (i5 < (ilen code4)))))
noncomputable def Zbq (N : Nat) (code1 : List (Int × Int × Int × Int)) : Option (Unit × (Bool × Unit)) :=
    ((Zde N code1).bind fun o2 =>
 (bif !o2.2.1 then
 (some ((), (false, ())))
 else
 ((Zco N code1).bind fun o3 =>
 (bif o3.2.1 then
 (some ((), (false, ())))
 else
 (Zcj N code1
 (some ((), (false, ())))
 (fun i10 t11 =>
   (some ((), (true, ()))))
  N 0)))))
noncomputable def Zb1 {R : Type} (N : Nat) (l6 : List (List (Int × Int × Int × Int))) (K0 : Option R) (K1 : Int → Bool → Option R) : Nat → Int → Option R
  | 0, _ => none
  | n + 1, i7 =>
    (bif decide (i7 < (ilen l6)) then
 (bif inb i7 (List.length l6) then
 ((Zbq N (List.getD l6 (Int.toNat i7) ([] : List (Int × Int × Int × Int)))).bind fun o11 =>
 (bif !o11.2.1 then
 K0
 else
 (Zb1 N l6 K0 K1 n (iadd .i64 i7 1)))) else none)
 else
 (K1 i7 (decide (i7 < (ilen l6)))))
noncomputable def Zbv (N : Nat) (l1 : List (List (Int × Int × Int × Int))) (regs2 : List Int) (cells3 : List Int) : Option (Unit × (Bool × Unit)) :=
    (bif decide ((ilen l1) > 4) then
 (some ((), (false, ())))
 else
 ((Za4 N regs2).bind fun o4 =>
 (bif !o4.2.1 then
 (some ((), (false, ())))
 else
 ((Zas N cells3).bind fun o5 =>
 (bif !o5.2.1 then
 (some ((), (false, ())))
 else
 (Zb1 N l1
 (some ((), (false, ())))
 (fun i12 t13 =>
   (some ((), (true, ()))))
  N 0))))))
noncomputable def Zb (N : Nat) (r1 : Int) : Option (Unit × (Bool × Unit)) :=
    ((Za1 N r1 0 3).bind fun o2 =>
 (some ((), (o2.2.1, ()))))
noncomputable def Zd (N : Nat) (k1 : Int) : Option (Unit × (Bool × Unit)) :=
    ((Za1 N k1 0 7).bind fun o2 =>
 (some ((), (o2.2.1, ()))))
noncomputable def Zq (N : Nat) (o1 : Int × Int × Int × Int) : Option (Unit × (Bool × Unit)) :=
    (bif o1.1 == 1 then
 ((Zb N o1.2.1).bind fun o2 =>
 (bif o2.2.1 then
 ((Zdk N o1.2.2.1).bind fun o3 =>
 (bif o3.2.1 then
 (some ((), (o1.2.2.2 == 0, ())))
 else
 (some ((), (false, ())))))
 else
 (some ((), (false, ())))))
 else
 (bif o1.1 == 2 then
 (bif o1.1 == 2 then
 ((Zb N o1.2.1).bind fun o4 =>
 (bif o4.2.1 then
 ((Zb N o1.2.2.1).bind fun o5 =>
 (bif o5.2.1 then
 ((Zb N o1.2.2.2).bind fun o6 =>
 (some ((), (o6.2.1, ()))))
 else
 (some ((), (false, ())))))
 else
 (some ((), (false, ())))))
 else
 (bif o1.1 == 5 then
 ((Zb N o1.2.1).bind fun o7 =>
 (bif o7.2.1 then
 ((Za3 N o1.2.2.1).bind fun o8 =>
 (bif o8.2.1 then
 (some ((), (o1.2.2.2 == 0, ())))
 else
 (some ((), (false, ())))))
 else
 (some ((), (false, ())))))
 else
 (bif o1.1 == 6 then
 ((Za3 N o1.2.1).bind fun o9 =>
 (bif o9.2.1 then
 ((Zb N o1.2.2.1).bind fun o10 =>
 (bif o10.2.1 then
 (some ((), (o1.2.2.2 == 0, ())))
 else
 (some ((), (false, ())))))
 else
 (some ((), (false, ())))))
 else
 (bif o1.1 == 7 then
 ((Zb N o1.2.1).bind fun o11 =>
 (bif o11.2.1 then
 ((Za1 N o1.2.2.1 1 20).bind fun o12 =>
 (bif o12.2.1 then
 (some ((), (o1.2.2.2 == 0, ())))
 else
 (some ((), (false, ())))))
 else
 (some ((), (false, ())))))
 else
 (bif o1.1 == 8 then
 (bif o1.1 == 8 then
 ((Zb N o1.2.1).bind fun o13 =>
 (bif o13.2.1 then
 (bif o1.2.2.1 == 0 then
 (some ((), (o1.2.2.2 == 0, ())))
 else
 (some ((), (false, ()))))
 else
 (some ((), (false, ())))))
 else
 (bif o1.1 == 9 then
 (bif o1.1 == 9 then
 (bif o1.2.1 == 0 then
 (bif o1.2.2.1 == 0 then
 (some ((), (o1.2.2.2 == 0, ())))
 else
 (some ((), (false, ()))))
 else
 (some ((), (false, ()))))
 else
 (bif o1.1 == 12 then
 ((Zd N o1.2.1).bind fun o14 =>
 (bif o14.2.1 then
 ((Zb N o1.2.2.1).bind fun o15 =>
 (bif o15.2.1 then
 ((Zb N o1.2.2.2).bind fun o16 =>
 (some ((), (o16.2.1, ()))))
 else
 (some ((), (false, ())))))
 else
 (some ((), (false, ())))))
 else
 (bif o1.1 == 13 then
 ((Zb N o1.2.1).bind fun o17 =>
 (bif o17.2.1 then
 ((Zd N o1.2.2.1).bind fun o18 =>
 (bif o18.2.1 then
 (some ((), (o1.2.2.2 == 0, ())))
 else
 (some ((), (false, ())))))
 else
 (some ((), (false, ())))))
 else
 (bif o1.1 == 14 then
 ((Zd N o1.2.1).bind fun o19 =>
 (bif o19.2.1 then
 ((Zb N o1.2.2.1).bind fun o20 =>
 (bif o20.2.1 then
 (some ((), (o1.2.2.2 == 0, ())))
 else
 (some ((), (false, ())))))
 else
 (some ((), (false, ())))))
 else
 (some ((), (false, ())))))))
 else
 (bif o1.1 == 10 then
 (bif o1.1 == 10 then
 (bif o1.2.1 == 0 then
 (bif o1.2.2.1 == 0 then
 (some ((), (o1.2.2.2 == 0, ())))
 else
 (some ((), (false, ()))))
 else
 (some ((), (false, ()))))
 else
 (bif o1.1 == 12 then
 ((Zd N o1.2.1).bind fun o21 =>
 (bif o21.2.1 then
 ((Zb N o1.2.2.1).bind fun o22 =>
 (bif o22.2.1 then
 ((Zb N o1.2.2.2).bind fun o23 =>
 (some ((), (o23.2.1, ()))))
 else
 (some ((), (false, ())))))
 else
 (some ((), (false, ())))))
 else
 (bif o1.1 == 13 then
 ((Zb N o1.2.1).bind fun o24 =>
 (bif o24.2.1 then
 ((Zd N o1.2.2.1).bind fun o25 =>
 (bif o25.2.1 then
 (some ((), (o1.2.2.2 == 0, ())))
 else
 (some ((), (false, ())))))
 else
 (some ((), (false, ())))))
 else
 (bif o1.1 == 14 then
 ((Zd N o1.2.1).bind fun o26 =>
 (bif o26.2.1 then
 ((Zb N o1.2.2.1).bind fun o27 =>
 (bif o27.2.1 then
 (some ((), (o1.2.2.2 == 0, ())))
 else
 (some ((), (false, ())))))
 else
 (some ((), (false, ())))))
 else
 (some ((), (false, ())))))))
 else
 (bif o1.1 == 11 then
 (bif o1.2.1 == 0 then
 (bif o1.2.2.1 == 0 then
 (some ((), (o1.2.2.2 == 0, ())))
 else
 (some ((), (false, ()))))
 else
 (some ((), (false, ()))))
 else
 (bif o1.1 == 12 then
 ((Zd N o1.2.1).bind fun o28 =>
 (bif o28.2.1 then
 ((Zb N o1.2.2.1).bind fun o29 =>
 (bif o29.2.1 then
 ((Zb N o1.2.2.2).bind fun o30 =>
 (some ((), (o30.2.1, ()))))
 else
 (some ((), (false, ())))))
 else
 (some ((), (false, ())))))
 else
 (bif o1.1 == 13 then
 ((Zb N o1.2.1).bind fun o31 =>
 (bif o31.2.1 then
 ((Zd N o1.2.2.1).bind fun o32 =>
 (bif o32.2.1 then
 (some ((), (o1.2.2.2 == 0, ())))
 else
 (some ((), (false, ())))))
 else
 (some ((), (false, ())))))
 else
 (bif o1.1 == 14 then
 ((Zd N o1.2.1).bind fun o33 =>
 (bif o33.2.1 then
 ((Zb N o1.2.2.1).bind fun o34 =>
 (bif o34.2.1 then
 (some ((), (o1.2.2.2 == 0, ())))
 else
 (some ((), (false, ())))))
 else
 (some ((), (false, ())))))
 else
 (some ((), (false, ()))))))))))
 else
 (bif o1.1 == 15 then
 (bif o1.1 == 15 then
 ((Zb N o1.2.1).bind fun o35 =>
 (bif o35.2.1 then
 (bif o1.2.2.1 == 0 then
 (some ((), (o1.2.2.2 == 0, ())))
 else
 (some ((), (false, ()))))
 else
 (some ((), (false, ())))))
 else
 (bif o1.1 == 9 then
 (bif o1.1 == 9 then
 (bif o1.2.1 == 0 then
 (bif o1.2.2.1 == 0 then
 (some ((), (o1.2.2.2 == 0, ())))
 else
 (some ((), (false, ()))))
 else
 (some ((), (false, ()))))
 else
 (bif o1.1 == 12 then
 ((Zd N o1.2.1).bind fun o36 =>
 (bif o36.2.1 then
 ((Zb N o1.2.2.1).bind fun o37 =>
 (bif o37.2.1 then
 ((Zb N o1.2.2.2).bind fun o38 =>
 (some ((), (o38.2.1, ()))))
 else
 (some ((), (false, ())))))
 else
 (some ((), (false, ())))))
 else
 (bif o1.1 == 13 then
 ((Zb N o1.2.1).bind fun o39 =>
 (bif o39.2.1 then
 ((Zd N o1.2.2.1).bind fun o40 =>
 (bif o40.2.1 then
 (some ((), (o1.2.2.2 == 0, ())))
 else
 (some ((), (false, ())))))
 else
 (some ((), (false, ())))))
 else
 (bif o1.1 == 14 then
 ((Zd N o1.2.1).bind fun o41 =>
 (bif o41.2.1 then
 ((Zb N o1.2.2.1).bind fun o42 =>
 (bif o42.2.1 then
 (some ((), (o1.2.2.2 == 0, ())))
 else
 (some ((), (false, ())))))
 else
 (some ((), (false, ())))))
 else
 (some ((), (false, ())))))))
 else
 (bif o1.1 == 10 then
 (bif o1.1 == 10 then
 (bif o1.2.1 == 0 then
 (bif o1.2.2.1 == 0 then
 (some ((), (o1.2.2.2 == 0, ())))
 else
 (some ((), (false, ()))))
 else
 (some ((), (false, ()))))
 else
 (bif o1.1 == 12 then
 ((Zd N o1.2.1).bind fun o43 =>
 (bif o43.2.1 then
 ((Zb N o1.2.2.1).bind fun o44 =>
 (bif o44.2.1 then
 ((Zb N o1.2.2.2).bind fun o45 =>
 (some ((), (o45.2.1, ()))))
 else
 (some ((), (false, ())))))
 else
 (some ((), (false, ())))))
 else
 (bif o1.1 == 13 then
 ((Zb N o1.2.1).bind fun o46 =>
 (bif o46.2.1 then
 ((Zd N o1.2.2.1).bind fun o47 =>
 (bif o47.2.1 then
 (some ((), (o1.2.2.2 == 0, ())))
 else
 (some ((), (false, ())))))
 else
 (some ((), (false, ())))))
 else
 (bif o1.1 == 14 then
 ((Zd N o1.2.1).bind fun o48 =>
 (bif o48.2.1 then
 ((Zb N o1.2.2.1).bind fun o49 =>
 (bif o49.2.1 then
 (some ((), (o1.2.2.2 == 0, ())))
 else
 (some ((), (false, ())))))
 else
 (some ((), (false, ())))))
 else
 (some ((), (false, ())))))))
 else
 (bif o1.1 == 11 then
 (bif o1.2.1 == 0 then
 (bif o1.2.2.1 == 0 then
 (some ((), (o1.2.2.2 == 0, ())))
 else
 (some ((), (false, ()))))
 else
 (some ((), (false, ()))))
 else
 (bif o1.1 == 12 then
 ((Zd N o1.2.1).bind fun o50 =>
 (bif o50.2.1 then
 ((Zb N o1.2.2.1).bind fun o51 =>
 (bif o51.2.1 then
 ((Zb N o1.2.2.2).bind fun o52 =>
 (some ((), (o52.2.1, ()))))
 else
 (some ((), (false, ())))))
 else
 (some ((), (false, ())))))
 else
 (bif o1.1 == 13 then
 ((Zb N o1.2.1).bind fun o53 =>
 (bif o53.2.1 then
 ((Zd N o1.2.2.1).bind fun o54 =>
 (bif o54.2.1 then
 (some ((), (o1.2.2.2 == 0, ())))
 else
 (some ((), (false, ())))))
 else
 (some ((), (false, ())))))
 else
 (bif o1.1 == 14 then
 ((Zd N o1.2.1).bind fun o55 =>
 (bif o55.2.1 then
 ((Zb N o1.2.2.1).bind fun o56 =>
 (bif o56.2.1 then
 (some ((), (o1.2.2.2 == 0, ())))
 else
 (some ((), (false, ())))))
 else
 (some ((), (false, ())))))
 else
 (some ((), (false, ()))))))))))
 else
 (bif o1.1 == 16 then
 ((Zb N o1.2.1).bind fun o57 =>
 (bif o57.2.1 then
 (bif o1.2.2.1 == 0 then
 (some ((), (o1.2.2.2 == 0, ())))
 else
 (some ((), (false, ()))))
 else
 (some ((), (false, ())))))
 else
 (bif o1.1 == 9 then
 (bif o1.1 == 9 then
 (bif o1.2.1 == 0 then
 (bif o1.2.2.1 == 0 then
 (some ((), (o1.2.2.2 == 0, ())))
 else
 (some ((), (false, ()))))
 else
 (some ((), (false, ()))))
 else
 (bif o1.1 == 12 then
 ((Zd N o1.2.1).bind fun o58 =>
 (bif o58.2.1 then
 ((Zb N o1.2.2.1).bind fun o59 =>
 (bif o59.2.1 then
 ((Zb N o1.2.2.2).bind fun o60 =>
 (some ((), (o60.2.1, ()))))
 else
 (some ((), (false, ())))))
 else
 (some ((), (false, ())))))
 else
 (bif o1.1 == 13 then
 ((Zb N o1.2.1).bind fun o61 =>
 (bif o61.2.1 then
 ((Zd N o1.2.2.1).bind fun o62 =>
 (bif o62.2.1 then
 (some ((), (o1.2.2.2 == 0, ())))
 else
 (some ((), (false, ())))))
 else
 (some ((), (false, ())))))
 else
 (bif o1.1 == 14 then
 ((Zd N o1.2.1).bind fun o63 =>
 (bif o63.2.1 then
 ((Zb N o1.2.2.1).bind fun o64 =>
 (bif o64.2.1 then
 (some ((), (o1.2.2.2 == 0, ())))
 else
 (some ((), (false, ())))))
 else
 (some ((), (false, ())))))
 else
 (some ((), (false, ())))))))
 else
 (bif o1.1 == 10 then
 (bif o1.1 == 10 then
 (bif o1.2.1 == 0 then
 (bif o1.2.2.1 == 0 then
 (some ((), (o1.2.2.2 == 0, ())))
 else
 (some ((), (false, ()))))
 else
 (some ((), (false, ()))))
 else
 (bif o1.1 == 12 then
 ((Zd N o1.2.1).bind fun o65 =>
 (bif o65.2.1 then
 ((Zb N o1.2.2.1).bind fun o66 =>
 (bif o66.2.1 then
 ((Zb N o1.2.2.2).bind fun o67 =>
 (some ((), (o67.2.1, ()))))
 else
 (some ((), (false, ())))))
 else
 (some ((), (false, ())))))
 else
 (bif o1.1 == 13 then
 ((Zb N o1.2.1).bind fun o68 =>
 (bif o68.2.1 then
 ((Zd N o1.2.2.1).bind fun o69 =>
 (bif o69.2.1 then
 (some ((), (o1.2.2.2 == 0, ())))
 else
 (some ((), (false, ())))))
 else
 (some ((), (false, ())))))
 else
 (bif o1.1 == 14 then
 ((Zd N o1.2.1).bind fun o70 =>
 (bif o70.2.1 then
 ((Zb N o1.2.2.1).bind fun o71 =>
 (bif o71.2.1 then
 (some ((), (o1.2.2.2 == 0, ())))
 else
 (some ((), (false, ())))))
 else
 (some ((), (false, ())))))
 else
 (some ((), (false, ())))))))
 else
 (bif o1.1 == 11 then
 (bif o1.2.1 == 0 then
 (bif o1.2.2.1 == 0 then
 (some ((), (o1.2.2.2 == 0, ())))
 else
 (some ((), (false, ()))))
 else
 (some ((), (false, ()))))
 else
 (bif o1.1 == 12 then
 ((Zd N o1.2.1).bind fun o72 =>
 (bif o72.2.1 then
 ((Zb N o1.2.2.1).bind fun o73 =>
 (bif o73.2.1 then
 ((Zb N o1.2.2.2).bind fun o74 =>
 (some ((), (o74.2.1, ()))))
 else
 (some ((), (false, ())))))
 else
 (some ((), (false, ())))))
 else
 (bif o1.1 == 13 then
 ((Zb N o1.2.1).bind fun o75 =>
 (bif o75.2.1 then
 ((Zd N o1.2.2.1).bind fun o76 =>
 (bif o76.2.1 then
 (some ((), (o1.2.2.2 == 0, ())))
 else
 (some ((), (false, ())))))
 else
 (some ((), (false, ())))))
 else
 (bif o1.1 == 14 then
 ((Zd N o1.2.1).bind fun o77 =>
 (bif o77.2.1 then
 ((Zb N o1.2.2.1).bind fun o78 =>
 (bif o78.2.1 then
 (some ((), (o1.2.2.2 == 0, ())))
 else
 (some ((), (false, ())))))
 else
 (some ((), (false, ())))))
 else
 (some ((), (false, ()))))))))))))))))
 else
 (bif o1.1 == 3 then
 (bif o1.1 == 3 then
 ((Zb N o1.2.1).bind fun o79 =>
 (bif o79.2.1 then
 ((Zb N o1.2.2.1).bind fun o80 =>
 (bif o80.2.1 then
 ((Zb N o1.2.2.2).bind fun o81 =>
 (some ((), (o81.2.1, ()))))
 else
 (some ((), (false, ())))))
 else
 (some ((), (false, ())))))
 else
 (bif o1.1 == 5 then
 ((Zb N o1.2.1).bind fun o82 =>
 (bif o82.2.1 then
 ((Za3 N o1.2.2.1).bind fun o83 =>
 (bif o83.2.1 then
 (some ((), (o1.2.2.2 == 0, ())))
 else
 (some ((), (false, ())))))
 else
 (some ((), (false, ())))))
 else
 (bif o1.1 == 6 then
 ((Za3 N o1.2.1).bind fun o84 =>
 (bif o84.2.1 then
 ((Zb N o1.2.2.1).bind fun o85 =>
 (bif o85.2.1 then
 (some ((), (o1.2.2.2 == 0, ())))
 else
 (some ((), (false, ())))))
 else
 (some ((), (false, ())))))
 else
 (bif o1.1 == 7 then
 ((Zb N o1.2.1).bind fun o86 =>
 (bif o86.2.1 then
 ((Za1 N o1.2.2.1 1 20).bind fun o87 =>
 (bif o87.2.1 then
 (some ((), (o1.2.2.2 == 0, ())))
 else
 (some ((), (false, ())))))
 else
 (some ((), (false, ())))))
 else
 (bif o1.1 == 8 then
 (bif o1.1 == 8 then
 ((Zb N o1.2.1).bind fun o88 =>
 (bif o88.2.1 then
 (bif o1.2.2.1 == 0 then
 (some ((), (o1.2.2.2 == 0, ())))
 else
 (some ((), (false, ()))))
 else
 (some ((), (false, ())))))
 else
 (bif o1.1 == 9 then
 (bif o1.1 == 9 then
 (bif o1.2.1 == 0 then
 (bif o1.2.2.1 == 0 then
 (some ((), (o1.2.2.2 == 0, ())))
 else
 (some ((), (false, ()))))
 else
 (some ((), (false, ()))))
 else
 (bif o1.1 == 12 then
 ((Zd N o1.2.1).bind fun o89 =>
 (bif o89.2.1 then
 ((Zb N o1.2.2.1).bind fun o90 =>
 (bif o90.2.1 then
 ((Zb N o1.2.2.2).bind fun o91 =>
 (some ((), (o91.2.1, ()))))
 else
 (some ((), (false, ())))))
 else
 (some ((), (false, ())))))
 else
 (bif o1.1 == 13 then
 ((Zb N o1.2.1).bind fun o92 =>
 (bif o92.2.1 then
 ((Zd N o1.2.2.1).bind fun o93 =>
 (bif o93.2.1 then
 (some ((), (o1.2.2.2 == 0, ())))
 else
 (some ((), (false, ())))))
 else
 (some ((), (false, ())))))
 else
 (bif o1.1 == 14 then
 ((Zd N o1.2.1).bind fun o94 =>
 (bif o94.2.1 then
 ((Zb N o1.2.2.1).bind fun o95 =>
 (bif o95.2.1 then
 (some ((), (o1.2.2.2 == 0, ())))
 else
 (some ((), (false, ())))))
 else
 (some ((), (false, ())))))
 else
 (some ((), (false, ())))))))
 else
 (bif o1.1 == 10 then
 (bif o1.1 == 10 then
 (bif o1.2.1 == 0 then
 (bif o1.2.2.1 == 0 then
 (some ((), (o1.2.2.2 == 0, ())))
 else
 (some ((), (false, ()))))
 else
 (some ((), (false, ()))))
 else
 (bif o1.1 == 12 then
 ((Zd N o1.2.1).bind fun o96 =>
 (bif o96.2.1 then
 ((Zb N o1.2.2.1).bind fun o97 =>
 (bif o97.2.1 then
 ((Zb N o1.2.2.2).bind fun o98 =>
 (some ((), (o98.2.1, ()))))
 else
 (some ((), (false, ())))))
 else
 (some ((), (false, ())))))
 else
 (bif o1.1 == 13 then
 ((Zb N o1.2.1).bind fun o99 =>
 (bif o99.2.1 then
 ((Zd N o1.2.2.1).bind fun o100 =>
 (bif o100.2.1 then
 (some ((), (o1.2.2.2 == 0, ())))
 else
 (some ((), (false, ())))))
 else
 (some ((), (false, ())))))
 else
 (bif o1.1 == 14 then
 ((Zd N o1.2.1).bind fun o101 =>
 (bif o101.2.1 then
 ((Zb N o1.2.2.1).bind fun o102 =>
 (bif o102.2.1 then
 (some ((), (o1.2.2.2 == 0, ())))
 else
 (some ((), (false, ())))))
 else
 (some ((), (false, ())))))
 else
 (some ((), (false, ())))))))
 else
 (bif o1.1 == 11 then
 (bif o1.2.1 == 0 then
 (bif o1.2.2.1 == 0 then
 (some ((), (o1.2.2.2 == 0, ())))
 else
 (some ((), (false, ()))))
 else
 (some ((), (false, ()))))
 else
 (bif o1.1 == 12 then
 ((Zd N o1.2.1).bind fun o103 =>
 (bif o103.2.1 then
 ((Zb N o1.2.2.1).bind fun o104 =>
 (bif o104.2.1 then
 ((Zb N o1.2.2.2).bind fun o105 =>
 (some ((), (o105.2.1, ()))))
 else
 (some ((), (false, ())))))
 else
 (some ((), (false, ())))))
 else
 (bif o1.1 == 13 then
 ((Zb N o1.2.1).bind fun o106 =>
 (bif o106.2.1 then
 ((Zd N o1.2.2.1).bind fun o107 =>
 (bif o107.2.1 then
 (some ((), (o1.2.2.2 == 0, ())))
 else
 (some ((), (false, ())))))
 else
 (some ((), (false, ())))))
 else
 (bif o1.1 == 14 then
 ((Zd N o1.2.1).bind fun o108 =>
 (bif o108.2.1 then
 ((Zb N o1.2.2.1).bind fun o109 =>
 (bif o109.2.1 then
 (some ((), (o1.2.2.2 == 0, ())))
 else
 (some ((), (false, ())))))
 else
 (some ((), (false, ())))))
 else
 (some ((), (false, ()))))))))))
 else
 (bif o1.1 == 15 then
 (bif o1.1 == 15 then
 ((Zb N o1.2.1).bind fun o110 =>
 (bif o110.2.1 then
 (bif o1.2.2.1 == 0 then
 (some ((), (o1.2.2.2 == 0, ())))
 else
 (some ((), (false, ()))))
 else
 (some ((), (false, ())))))
 else
 (bif o1.1 == 9 then
 (bif o1.1 == 9 then
 (bif o1.2.1 == 0 then
 (bif o1.2.2.1 == 0 then
 (some ((), (o1.2.2.2 == 0, ())))
 else
 (some ((), (false, ()))))
 else
 (some ((), (false, ()))))
 else
 (bif o1.1 == 12 then
 ((Zd N o1.2.1).bind fun o111 =>
 (bif o111.2.1 then
 ((Zb N o1.2.2.1).bind fun o112 =>
 (bif o112.2.1 then
 ((Zb N o1.2.2.2).bind fun o113 =>
 (some ((), (o113.2.1, ()))))
 else
 (some ((), (false, ())))))
 else
 (some ((), (false, ())))))
 else
 (bif o1.1 == 13 then
 ((Zb N o1.2.1).bind fun o114 =>
 (bif o114.2.1 then
 ((Zd N o1.2.2.1).bind fun o115 =>
 (bif o115.2.1 then
 (some ((), (o1.2.2.2 == 0, ())))
 else
 (some ((), (false, ())))))
 else
 (some ((), (false, ())))))
 else
 (bif o1.1 == 14 then
 ((Zd N o1.2.1).bind fun o116 =>
 (bif o116.2.1 then
 ((Zb N o1.2.2.1).bind fun o117 =>
 (bif o117.2.1 then
 (some ((), (o1.2.2.2 == 0, ())))
 else
 (some ((), (false, ())))))
 else
 (some ((), (false, ())))))
 else
 (some ((), (false, ())))))))
 else
 (bif o1.1 == 10 then
 (bif o1.1 == 10 then
 (bif o1.2.1 == 0 then
 (bif o1.2.2.1 == 0 then
 (some ((), (o1.2.2.2 == 0, ())))
 else
 (some ((), (false, ()))))
 else
 (some ((), (false, ()))))
 else
 (bif o1.1 == 12 then
 ((Zd N o1.2.1).bind fun o118 =>
 (bif o118.2.1 then
 ((Zb N o1.2.2.1).bind fun o119 =>
 (bif o119.2.1 then
 ((Zb N o1.2.2.2).bind fun o120 =>
 (some ((), (o120.2.1, ()))))
 else
 (some ((), (false, ())))))
 else
 (some ((), (false, ())))))
 else
 (bif o1.1 == 13 then
 ((Zb N o1.2.1).bind fun o121 =>
 (bif o121.2.1 then
 ((Zd N o1.2.2.1).bind fun o122 =>
 (bif o122.2.1 then
 (some ((), (o1.2.2.2 == 0, ())))
 else
 (some ((), (false, ())))))
 else
 (some ((), (false, ())))))
 else
 (bif o1.1 == 14 then
 ((Zd N o1.2.1).bind fun o123 =>
 (bif o123.2.1 then
 ((Zb N o1.2.2.1).bind fun o124 =>
 (bif o124.2.1 then
 (some ((), (o1.2.2.2 == 0, ())))
 else
 (some ((), (false, ())))))
 else
 (some ((), (false, ())))))
 else
 (some ((), (false, ())))))))
 else
 (bif o1.1 == 11 then
 (bif o1.2.1 == 0 then
 (bif o1.2.2.1 == 0 then
 (some ((), (o1.2.2.2 == 0, ())))
 else
 (some ((), (false, ()))))
 else
 (some ((), (false, ()))))
 else
 (bif o1.1 == 12 then
 ((Zd N o1.2.1).bind fun o125 =>
 (bif o125.2.1 then
 ((Zb N o1.2.2.1).bind fun o126 =>
 (bif o126.2.1 then
 ((Zb N o1.2.2.2).bind fun o127 =>
 (some ((), (o127.2.1, ()))))
 else
 (some ((), (false, ())))))
 else
 (some ((), (false, ())))))
 else
 (bif o1.1 == 13 then
 ((Zb N o1.2.1).bind fun o128 =>
 (bif o128.2.1 then
 ((Zd N o1.2.2.1).bind fun o129 =>
 (bif o129.2.1 then
 (some ((), (o1.2.2.2 == 0, ())))
 else
 (some ((), (false, ())))))
 else
 (some ((), (false, ())))))
 else
 (bif o1.1 == 14 then
 ((Zd N o1.2.1).bind fun o130 =>
 (bif o130.2.1 then
 ((Zb N o1.2.2.1).bind fun o131 =>
 (bif o131.2.1 then
 (some ((), (o1.2.2.2 == 0, ())))
 else
 (some ((), (false, ())))))
 else
 (some ((), (false, ())))))
 else
 (some ((), (false, ()))))))))))
 else
 (bif o1.1 == 16 then
 ((Zb N o1.2.1).bind fun o132 =>
 (bif o132.2.1 then
 (bif o1.2.2.1 == 0 then
 (some ((), (o1.2.2.2 == 0, ())))
 else
 (some ((), (false, ()))))
 else
 (some ((), (false, ())))))
 else
 (bif o1.1 == 9 then
 (bif o1.1 == 9 then
 (bif o1.2.1 == 0 then
 (bif o1.2.2.1 == 0 then
 (some ((), (o1.2.2.2 == 0, ())))
 else
 (some ((), (false, ()))))
 else
 (some ((), (false, ()))))
 else
 (bif o1.1 == 12 then
 ((Zd N o1.2.1).bind fun o133 =>
 (bif o133.2.1 then
 ((Zb N o1.2.2.1).bind fun o134 =>
 (bif o134.2.1 then
 ((Zb N o1.2.2.2).bind fun o135 =>
 (some ((), (o135.2.1, ()))))
 else
 (some ((), (false, ())))))
 else
 (some ((), (false, ())))))
 else
 (bif o1.1 == 13 then
 ((Zb N o1.2.1).bind fun o136 =>
 (bif o136.2.1 then
 ((Zd N o1.2.2.1).bind fun o137 =>
 (bif o137.2.1 then
 (some ((), (o1.2.2.2 == 0, ())))
 else
 (some ((), (false, ())))))
 else
 (some ((), (false, ())))))
 else
 (bif o1.1 == 14 then
 ((Zd N o1.2.1).bind fun o138 =>
 (bif o138.2.1 then
 ((Zb N o1.2.2.1).bind fun o139 =>
 (bif o139.2.1 then
 (some ((), (o1.2.2.2 == 0, ())))
 else
 (some ((), (false, ())))))
 else
 (some ((), (false, ())))))
 else
 (some ((), (false, ())))))))
 else
 (bif o1.1 == 10 then
 (bif o1.1 == 10 then
 (bif o1.2.1 == 0 then
 (bif o1.2.2.1 == 0 then
 (some ((), (o1.2.2.2 == 0, ())))
 else
 (some ((), (false, ()))))
 else
 (some ((), (false, ()))))
 else
 (bif o1.1 == 12 then
 ((Zd N o1.2.1).bind fun o140 =>
 (bif o140.2.1 then
 ((Zb N o1.2.2.1).bind fun o141 =>
 (bif o141.2.1 then
 ((Zb N o1.2.2.2).bind fun o142 =>
 (some ((), (o142.2.1, ()))))
 else
 (some ((), (false, ())))))
 else
 (some ((), (false, ())))))
 else
 (bif o1.1 == 13 then
 ((Zb N o1.2.1).bind fun o143 =>
 (bif o143.2.1 then
 ((Zd N o1.2.2.1).bind fun o144 =>
 (bif o144.2.1 then
 (some ((), (o1.2.2.2 == 0, ())))
 else
 (some ((), (false, ())))))
 else
 (some ((), (false, ())))))
 else
 (bif o1.1 == 14 then
 ((Zd N o1.2.1).bind fun o145 =>
 (bif o145.2.1 then
 ((Zb N o1.2.2.1).bind fun o146 =>
 (bif o146.2.1 then
 (some ((), (o1.2.2.2 == 0, ())))
 else
 (some ((), (false, ())))))
 else
 (some ((), (false, ())))))
 else
 (some ((), (false, ())))))))
 else
 (bif o1.1 == 11 then
 (bif o1.2.1 == 0 then
 (bif o1.2.2.1 == 0 then
 (some ((), (o1.2.2.2 == 0, ())))
 else
 (some ((), (false, ()))))
 else
 (some ((), (false, ()))))
 else
 (bif o1.1 == 12 then
 ((Zd N o1.2.1).bind fun o147 =>
 (bif o147.2.1 then
 ((Zb N o1.2.2.1).bind fun o148 =>
 (bif o148.2.1 then
 ((Zb N o1.2.2.2).bind fun o149 =>
 (some ((), (o149.2.1, ()))))
 else
 (some ((), (false, ())))))
 else
 (some ((), (false, ())))))
 else
 (bif o1.1 == 13 then
 ((Zb N o1.2.1).bind fun o150 =>
 (bif o150.2.1 then
 ((Zd N o1.2.2.1).bind fun o151 =>
 (bif o151.2.1 then
 (some ((), (o1.2.2.2 == 0, ())))
 else
 (some ((), (false, ())))))
 else
 (some ((), (false, ())))))
 else
 (bif o1.1 == 14 then
 ((Zd N o1.2.1).bind fun o152 =>
 (bif o152.2.1 then
 ((Zb N o1.2.2.1).bind fun o153 =>
 (bif o153.2.1 then
 (some ((), (o1.2.2.2 == 0, ())))
 else
 (some ((), (false, ())))))
 else
 (some ((), (false, ())))))
 else
 (some ((), (false, ()))))))))))))))))
 else
 (bif o1.1 == 4 then
 ((Zb N o1.2.1).bind fun o154 =>
 (bif o154.2.1 then
 ((Zb N o1.2.2.1).bind fun o155 =>
 (bif o155.2.1 then
 ((Zb N o1.2.2.2).bind fun o156 =>
 (some ((), (o156.2.1, ()))))
 else
 (some ((), (false, ())))))
 else
 (some ((), (false, ())))))
 else
 (bif o1.1 == 5 then
 ((Zb N o1.2.1).bind fun o157 =>
 (bif o157.2.1 then
 ((Za3 N o1.2.2.1).bind fun o158 =>
 (bif o158.2.1 then
 (some ((), (o1.2.2.2 == 0, ())))
 else
 (some ((), (false, ())))))
 else
 (some ((), (false, ())))))
 else
 (bif o1.1 == 6 then
 ((Za3 N o1.2.1).bind fun o159 =>
 (bif o159.2.1 then
 ((Zb N o1.2.2.1).bind fun o160 =>
 (bif o160.2.1 then
 (some ((), (o1.2.2.2 == 0, ())))
 else
 (some ((), (false, ())))))
 else
 (some ((), (false, ())))))
 else
 (bif o1.1 == 7 then
 ((Zb N o1.2.1).bind fun o161 =>
 (bif o161.2.1 then
 ((Za1 N o1.2.2.1 1 20).bind fun o162 =>
 (bif o162.2.1 then
 (some ((), (o1.2.2.2 == 0, ())))
 else
 (some ((), (false, ())))))
 else
 (some ((), (false, ())))))
 else
 (bif o1.1 == 8 then
 (bif o1.1 == 8 then
 ((Zb N o1.2.1).bind fun o163 =>
 (bif o163.2.1 then
 (bif o1.2.2.1 == 0 then
 (some ((), (o1.2.2.2 == 0, ())))
 else
 (some ((), (false, ()))))
 else
 (some ((), (false, ())))))
 else
 (bif o1.1 == 9 then
 (bif o1.1 == 9 then
 (bif o1.2.1 == 0 then
 (bif o1.2.2.1 == 0 then
 (some ((), (o1.2.2.2 == 0, ())))
 else
 (some ((), (false, ()))))
 else
 (some ((), (false, ()))))
 else
 (bif o1.1 == 12 then
 ((Zd N o1.2.1).bind fun o164 =>
 (bif o164.2.1 then
 ((Zb N o1.2.2.1).bind fun o165 =>
 (bif o165.2.1 then
 ((Zb N o1.2.2.2).bind fun o166 =>
 (some ((), (o166.2.1, ()))))
 else
 (some ((), (false, ())))))
 else
 (some ((), (false, ())))))
 else
 (bif o1.1 == 13 then
 ((Zb N o1.2.1).bind fun o167 =>
 (bif o167.2.1 then
 ((Zd N o1.2.2.1).bind fun o168 =>
 (bif o168.2.1 then
 (some ((), (o1.2.2.2 == 0, ())))
 else
 (some ((), (false, ())))))
 else
 (some ((), (false, ())))))
 else
 (bif o1.1 == 14 then
 ((Zd N o1.2.1).bind fun o169 =>
 (bif o169.2.1 then
 ((Zb N o1.2.2.1).bind fun o170 =>
 (bif o170.2.1 then
 (some ((), (o1.2.2.2 == 0, ())))
 else
 (some ((), (false, ())))))
 else
 (some ((), (false, ())))))
 else
 (some ((), (false, ())))))))
 else
 (bif o1.1 == 10 then
 (bif o1.1 == 10 then
 (bif o1.2.1 == 0 then
 (bif o1.2.2.1 == 0 then
 (some ((), (o1.2.2.2 == 0, ())))
 else
 (some ((), (false, ()))))
 else
 (some ((), (false, ()))))
 else
 (bif o1.1 == 12 then
 ((Zd N o1.2.1).bind fun o171 =>
 (bif o171.2.1 then
 ((Zb N o1.2.2.1).bind fun o172 =>
 (bif o172.2.1 then
 ((Zb N o1.2.2.2).bind fun o173 =>
 (some ((), (o173.2.1, ()))))
 else
 (some ((), (false, ())))))
 else
 (some ((), (false, ())))))
 else
 (bif o1.1 == 13 then
 ((Zb N o1.2.1).bind fun o174 =>
 (bif o174.2.1 then
 ((Zd N o1.2.2.1).bind fun o175 =>
 (bif o175.2.1 then
 (some ((), (o1.2.2.2 == 0, ())))
 else
 (some ((), (false, ())))))
 else
 (some ((), (false, ())))))
 else
 (bif o1.1 == 14 then
 ((Zd N o1.2.1).bind fun o176 =>
 (bif o176.2.1 then
 ((Zb N o1.2.2.1).bind fun o177 =>
 (bif o177.2.1 then
 (some ((), (o1.2.2.2 == 0, ())))
 else
 (some ((), (false, ())))))
 else
 (some ((), (false, ())))))
 else
 (some ((), (false, ())))))))
 else
 (bif o1.1 == 11 then
 (bif o1.2.1 == 0 then
 (bif o1.2.2.1 == 0 then
 (some ((), (o1.2.2.2 == 0, ())))
 else
 (some ((), (false, ()))))
 else
 (some ((), (false, ()))))
 else
 (bif o1.1 == 12 then
 ((Zd N o1.2.1).bind fun o178 =>
 (bif o178.2.1 then
 ((Zb N o1.2.2.1).bind fun o179 =>
 (bif o179.2.1 then
 ((Zb N o1.2.2.2).bind fun o180 =>
 (some ((), (o180.2.1, ()))))
 else
 (some ((), (false, ())))))
 else
 (some ((), (false, ())))))
 else
 (bif o1.1 == 13 then
 ((Zb N o1.2.1).bind fun o181 =>
 (bif o181.2.1 then
 ((Zd N o1.2.2.1).bind fun o182 =>
 (bif o182.2.1 then
 (some ((), (o1.2.2.2 == 0, ())))
 else
 (some ((), (false, ())))))
 else
 (some ((), (false, ())))))
 else
 (bif o1.1 == 14 then
 ((Zd N o1.2.1).bind fun o183 =>
 (bif o183.2.1 then
 ((Zb N o1.2.2.1).bind fun o184 =>
 (bif o184.2.1 then
 (some ((), (o1.2.2.2 == 0, ())))
 else
 (some ((), (false, ())))))
 else
 (some ((), (false, ())))))
 else
 (some ((), (false, ()))))))))))
 else
 (bif o1.1 == 15 then
 (bif o1.1 == 15 then
 ((Zb N o1.2.1).bind fun o185 =>
 (bif o185.2.1 then
 (bif o1.2.2.1 == 0 then
 (some ((), (o1.2.2.2 == 0, ())))
 else
 (some ((), (false, ()))))
 else
 (some ((), (false, ())))))
 else
 (bif o1.1 == 9 then
 (bif o1.1 == 9 then
 (bif o1.2.1 == 0 then
 (bif o1.2.2.1 == 0 then
 (some ((), (o1.2.2.2 == 0, ())))
 else
 (some ((), (false, ()))))
 else
 (some ((), (false, ()))))
 else
 (bif o1.1 == 12 then
 ((Zd N o1.2.1).bind fun o186 =>
 (bif o186.2.1 then
 ((Zb N o1.2.2.1).bind fun o187 =>
 (bif o187.2.1 then
 ((Zb N o1.2.2.2).bind fun o188 =>
 (some ((), (o188.2.1, ()))))
 else
 (some ((), (false, ())))))
 else
 (some ((), (false, ())))))
 else
 (bif o1.1 == 13 then
 ((Zb N o1.2.1).bind fun o189 =>
 (bif o189.2.1 then
 ((Zd N o1.2.2.1).bind fun o190 =>
 (bif o190.2.1 then
 (some ((), (o1.2.2.2 == 0, ())))
 else
 (some ((), (false, ())))))
 else
 (some ((), (false, ())))))
 else
 (bif o1.1 == 14 then
 ((Zd N o1.2.1).bind fun o191 =>
 (bif o191.2.1 then
 ((Zb N o1.2.2.1).bind fun o192 =>
 (bif o192.2.1 then
 (some ((), (o1.2.2.2 == 0, ())))
 else
 (some ((), (false, ())))))
 else
 (some ((), (false, ())))))
 else
 (some ((), (false, ())))))))
 else
 (bif o1.1 == 10 then
 (bif o1.1 == 10 then
 (bif o1.2.1 == 0 then
 (bif o1.2.2.1 == 0 then
 (some ((), (o1.2.2.2 == 0, ())))
 else
 (some ((), (false, ()))))
 else
 (some ((), (false, ()))))
 else
 (bif o1.1 == 12 then
 ((Zd N o1.2.1).bind fun o193 =>
 (bif o193.2.1 then
 ((Zb N o1.2.2.1).bind fun o194 =>
 (bif o194.2.1 then
 ((Zb N o1.2.2.2).bind fun o195 =>
 (some ((), (o195.2.1, ()))))
 else
 (some ((), (false, ())))))
 else
 (some ((), (false, ())))))
 else
 (bif o1.1 == 13 then
 ((Zb N o1.2.1).bind fun o196 =>
 (bif o196.2.1 then
 ((Zd N o1.2.2.1).bind fun o197 =>
 (bif o197.2.1 then
 (some ((), (o1.2.2.2 == 0, ())))
 else
 (some ((), (false, ())))))
 else
 (some ((), (false, ())))))
 else
 (bif o1.1 == 14 then
 ((Zd N o1.2.1).bind fun o198 =>
 (bif o198.2.1 then
 ((Zb N o1.2.2.1).bind fun o199 =>
 (bif o199.2.1 then
 (some ((), (o1.2.2.2 == 0, ())))
 else
 (some ((), (false, ())))))
 else
 (some ((), (false, ())))))
 else
 (some ((), (false, ())))))))
 else
 (bif o1.1 == 11 then
 (bif o1.2.1 == 0 then
 (bif o1.2.2.1 == 0 then
 (some ((), (o1.2.2.2 == 0, ())))
 else
 (some ((), (false, ()))))
 else
 (some ((), (false, ()))))
 else
 (bif o1.1 == 12 then
 ((Zd N o1.2.1).bind fun o200 =>
 (bif o200.2.1 then
 ((Zb N o1.2.2.1).bind fun o201 =>
 (bif o201.2.1 then
 ((Zb N o1.2.2.2).bind fun o202 =>
 (some ((), (o202.2.1, ()))))
 else
 (some ((), (false, ())))))
 else
 (some ((), (false, ())))))
 else
 (bif o1.1 == 13 then
 ((Zb N o1.2.1).bind fun o203 =>
 (bif o203.2.1 then
 ((Zd N o1.2.2.1).bind fun o204 =>
 (bif o204.2.1 then
 (some ((), (o1.2.2.2 == 0, ())))
 else
 (some ((), (false, ())))))
 else
 (some ((), (false, ())))))
 else
 (bif o1.1 == 14 then
 ((Zd N o1.2.1).bind fun o205 =>
 (bif o205.2.1 then
 ((Zb N o1.2.2.1).bind fun o206 =>
 (bif o206.2.1 then
 (some ((), (o1.2.2.2 == 0, ())))
 else
 (some ((), (false, ())))))
 else
 (some ((), (false, ())))))
 else
 (some ((), (false, ()))))))))))
 else
 (bif o1.1 == 16 then
 ((Zb N o1.2.1).bind fun o207 =>
 (bif o207.2.1 then
 (bif o1.2.2.1 == 0 then
 (some ((), (o1.2.2.2 == 0, ())))
 else
 (some ((), (false, ()))))
 else
 (some ((), (false, ())))))
 else
 (bif o1.1 == 9 then
 (bif o1.1 == 9 then
 (bif o1.2.1 == 0 then
 (bif o1.2.2.1 == 0 then
 (some ((), (o1.2.2.2 == 0, ())))
 else
 (some ((), (false, ()))))
 else
 (some ((), (false, ()))))
 else
 (bif o1.1 == 12 then
 ((Zd N o1.2.1).bind fun o208 =>
 (bif o208.2.1 then
 ((Zb N o1.2.2.1).bind fun o209 =>
 (bif o209.2.1 then
 ((Zb N o1.2.2.2).bind fun o210 =>
 (some ((), (o210.2.1, ()))))
 else
 (some ((), (false, ())))))
 else
 (some ((), (false, ())))))
 else
 (bif o1.1 == 13 then
 ((Zb N o1.2.1).bind fun o211 =>
 (bif o211.2.1 then
 ((Zd N o1.2.2.1).bind fun o212 =>
 (bif o212.2.1 then
 (some ((), (o1.2.2.2 == 0, ())))
 else
 (some ((), (false, ())))))
 else
 (some ((), (false, ())))))
 else
 (bif o1.1 == 14 then
 ((Zd N o1.2.1).bind fun o213 =>
 (bif o213.2.1 then
 ((Zb N o1.2.2.1).bind fun o214 =>
 (bif o214.2.1 then
 (some ((), (o1.2.2.2 == 0, ())))
 else
 (some ((), (false, ())))))
 else
 (some ((), (false, ())))))
 else
 (some ((), (false, ())))))))
 else
 (bif o1.1 == 10 then
 (bif o1.1 == 10 then
 (bif o1.2.1 == 0 then
 (bif o1.2.2.1 == 0 then
 (some ((), (o1.2.2.2 == 0, ())))
 else
 (some ((), (false, ()))))
 else
 (some ((), (false, ()))))
 else
 (bif o1.1 == 12 then
 ((Zd N o1.2.1).bind fun o215 =>
 (bif o215.2.1 then
 ((Zb N o1.2.2.1).bind fun o216 =>
 (bif o216.2.1 then
 ((Zb N o1.2.2.2).bind fun o217 =>
 (some ((), (o217.2.1, ()))))
 else
 (some ((), (false, ())))))
 else
 (some ((), (false, ())))))
 else
 (bif o1.1 == 13 then
 ((Zb N o1.2.1).bind fun o218 =>
 (bif o218.2.1 then
 ((Zd N o1.2.2.1).bind fun o219 =>
 (bif o219.2.1 then
 (some ((), (o1.2.2.2 == 0, ())))
 else
 (some ((), (false, ())))))
 else
 (some ((), (false, ())))))
 else
 (bif o1.1 == 14 then
 ((Zd N o1.2.1).bind fun o220 =>
 (bif o220.2.1 then
 ((Zb N o1.2.2.1).bind fun o221 =>
 (bif o221.2.1 then
 (some ((), (o1.2.2.2 == 0, ())))
 else
 (some ((), (false, ())))))
 else
 (some ((), (false, ())))))
 else
 (some ((), (false, ())))))))
 else
 (bif o1.1 == 11 then
 (bif o1.2.1 == 0 then
 (bif o1.2.2.1 == 0 then
 (some ((), (o1.2.2.2 == 0, ())))
 else
 (some ((), (false, ()))))
 else
 (some ((), (false, ()))))
 else
 (bif o1.1 == 12 then
 ((Zd N o1.2.1).bind fun o222 =>
 (bif o222.2.1 then
 ((Zb N o1.2.2.1).bind fun o223 =>
 (bif o223.2.1 then
 ((Zb N o1.2.2.2).bind fun o224 =>
 (some ((), (o224.2.1, ()))))
 else
 (some ((), (false, ())))))
 else
 (some ((), (false, ())))))
 else
 (bif o1.1 == 13 then
 ((Zb N o1.2.1).bind fun o225 =>
 (bif o225.2.1 then
 ((Zd N o1.2.2.1).bind fun o226 =>
 (bif o226.2.1 then
 (some ((), (o1.2.2.2 == 0, ())))
 else
 (some ((), (false, ())))))
 else
 (some ((), (false, ())))))
 else
 (bif o1.1 == 14 then
 ((Zd N o1.2.1).bind fun o227 =>
 (bif o227.2.1 then
 ((Zb N o1.2.2.1).bind fun o228 =>
 (bif o228.2.1 then
 (some ((), (o1.2.2.2 == 0, ())))
 else
 (some ((), (false, ())))))
 else
 (some ((), (false, ())))))
 else
 (some ((), (false, ())))))))))))))))))))
noncomputable def Ze5 (N : Nat) (o1 : Int × Int × Int × Int) : Option (Unit × (Int × Unit)) :=
    ((Zq N o1).bind fun o2 =>
 (bif !o2.2.1 then
 (some ((), (0, ())))
 else
 (bif o1.1 == 5 then
 (bif o1.1 == 5 then
 (some ((), (1, ())))
 else
 (bif o1.1 == 12 then
 (bif o1.1 == 12 then
 (some ((), (2, ())))
 else
 (some ((), (0, ()))))
 else
 (bif o1.1 == 13 then
 (bif o1.1 == 13 then
 (some ((), (2, ())))
 else
 (some ((), (0, ()))))
 else
 (bif o1.1 == 14 then
 (bif o1.1 == 14 then
 (some ((), (2, ())))
 else
 (some ((), (0, ()))))
 else
 (bif o1.1 == 15 then
 (bif o1.1 == 15 then
 (some ((), (2, ())))
 else
 (some ((), (0, ()))))
 else
 (bif o1.1 == 16 then
 (some ((), (2, ())))
 else
 (some ((), (0, ())))))))))
 else
 (bif o1.1 == 6 then
 (some ((), (1, ())))
 else
 (bif o1.1 == 12 then
 (bif o1.1 == 12 then
 (some ((), (2, ())))
 else
 (some ((), (0, ()))))
 else
 (bif o1.1 == 13 then
 (bif o1.1 == 13 then
 (some ((), (2, ())))
 else
 (some ((), (0, ()))))
 else
 (bif o1.1 == 14 then
 (bif o1.1 == 14 then
 (some ((), (2, ())))
 else
 (some ((), (0, ()))))
 else
 (bif o1.1 == 15 then
 (bif o1.1 == 15 then
 (some ((), (2, ())))
 else
 (some ((), (0, ()))))
 else
 (bif o1.1 == 16 then
 (some ((), (2, ())))
 else
 (some ((), (0, ()))))))))))))
noncomputable def Ze6 (N : Nat) (o1 : Int × Int × Int × Int) : Option (Unit × (Int × Unit)) :=
    (bif o1.1 == 8 then
 (some ((), (1, ())))
 else
 (bif o1.1 == 9 then
 (some ((), ((-1 : Int), ())))
 else
 (some ((), (0, ())))))
noncomputable def Za5 {R : Type} (N : Nat) (t3 : List (Int × Int × Int × Int)) (K0 : Option R) (K1 : Int → Int → Bool → Option R) : Nat → Int → Int → Option R
  | 0, _, _ => none
  | n + 1, n2, t5 =>
    (bif decide (t5 < (ilen t3)) then
 (bif inb t5 (List.length t3) then
 ((Ze6 N (List.getD t3 (Int.toNat t5) (0, 0, 0, 0))).bind fun o11 =>
 (bif decide ((iadd .i64 n2 o11.2.1) < 0) then
 K0
 else
 (Za5 N t3 K0 K1 n (iadd .i64 n2 o11.2.1) (iadd .i64 t5 1)))) else none)
 else
 (K1 n2 t5 (decide (t5 < (ilen t3)))))
noncomputable def Zax (N : Nat) (code1 : List (Int × Int × Int × Int)) : Option (Unit × (Bool × Unit)) :=
    (Za5 N code1
 (some ((), (false, ())))
 (fun n12 t13 t14 =>
   (some ((), (n12 == 0, ()))))
  N 0 0)
noncomputable def Za7 {R : Type} (N : Nat) (i3 : Int) (t5 : List (Int × Int × Int × Int)) (K0 : Int → Int → Bool → Option R) : Nat → Int → Int → Option R
  | 0, _, _ => none
  | n + 1, n4, t7 =>
    (bif decide (t7 < (ilen t5)) then
 (bif inb t7 (List.length t5) then
 (bif decide (t7 < i3) then
 ((Ze6 N (List.getD t5 (Int.toNat t7) (0, 0, 0, 0))).bind fun o13 =>
 (Za7 N i3 t5 K0 n (iadd .i64 n4 o13.2.1) (iadd .i64 t7 1)))
 else
 (Za7 N i3 t5 K0 n n4 (iadd .i64 t7 1))) else none)
 else
 (K0 n4 t7 (decide (t7 < (ilen t5)))))
noncomputable def Zcp (N : Nat) (code1 : List (Int × Int × Int × Int)) (i2 : Int) : Option (Unit × (Int × Unit)) :=
    (Za7 N i2 code1
 (fun n14 t15 t16 =>
   (some ((), (n14, ()))))
  N 0 0)
noncomputable def Zay {R : Type} (N : Nat) (code3 : List (Int × Int × Int × Int)) (K0 : Option R) (K1 : Int → Int → Bool → Option R) : Nat → Int → Int → Option R
  | 0, _, _ => none
  | n + 1, forks4, t7 =>
    (bif decide (t7 < (ilen code3)) then
 (bif inb t7 (List.length code3) then
 ((Zq N (List.getD code3 (Int.toNat t7) (0, 0, 0, 0))).bind fun o17 =>
 (bif !o17.2.1 then
 K0
 else
 (bif (List.getD code3 (Int.toNat t7) (0, 0, 0, 0)).1 == 7 then
 (bif decide ((iadd .i64 (iadd .i64 t7 1) (List.getD code3 (Int.toNat t7) (0, 0, 0, 0)).2.2.1) > (ilen code3)) then
 K0
 else
 (bif (((decide ((0 : Int) ≤ (iadd .i64 (iadd .i64 t7 1) (List.getD code3 (Int.toNat t7) (0, 0, 0, 0)).2.2.1))) && (decide ((iadd .i64 (iadd .i64 t7 1) (List.getD code3 (Int.toNat t7) (0, 0, 0, 0)).2.2.1) ≤ ((List.length code3) : Int)))) && (decide ((0 : Int) ≤ (iadd .i64 t7 1)))) && (decide ((iadd .i64 t7 1) ≤ (iadd .i64 (iadd .i64 t7 1) (List.getD code3 (Int.toNat t7) (0, 0, 0, 0)).2.2.1))) then
 ((Zax N (List.drop (Int.toNat (iadd .i64 t7 1)) (List.take (Int.toNat (iadd .i64 (iadd .i64 t7 1) (List.getD code3 (Int.toNat t7) (0, 0, 0, 0)).2.2.1)) code3))).bind fun o18 =>
 (bif !o18.2.1 then
 K0
 else
 (Zay N code3 K0 K1 n forks4 (iadd .i64 t7 1)))) else none))
 else
 (bif (List.getD code3 (Int.toNat t7) (0, 0, 0, 0)).1 == 11 then
 (bif decide ((iadd .i64 forks4 1) > 1) then
 K0
 else
 ((Zcp N code3 t7).bind fun o19 =>
 (bif o19.2.1 != 0 then
 K0
 else
 (Zay N code3 K0 K1 n (iadd .i64 forks4 1) (iadd .i64 t7 1)))))
 else
 (Zay N code3 K0 K1 n forks4 (iadd .i64 t7 1)))))) else none)
 else
 (K1 forks4 t7 (decide (t7 < (ilen code3)))))
noncomputable def Zch (N : Nat) (code1 : List (Int × Int × Int × Int)) : Option (Unit × (Bool × Unit)) :=
    (bif decide ((ilen code1) > 24) then
 (some ((), (false, ())))
 else
 ((Zax N code1).bind fun o2 =>
 (bif !o2.2.1 then
 (some ((), (false, ())))
 else
 (Zay N code1
 (some ((), (false, ())))
 (fun forks20 t21 t22 =>
   (some ((), (true, ()))))
  N 0 0))))
noncomputable def Zck {R : Type} (N : Nat) (code2 : List (Int × Int × Int × Int)) (K0 : Option R) (K1 : Int → Bool → Option R) : Nat → Int → Option R
  | 0, _ => none
  | n + 1, t5 =>
    (bif decide (t5 < (ilen code2)) then
 (bif inb t5 (List.length code2) then
 (bif (List.getD code2 (Int.toNat t5) (0, 0, 0, 0)).1 == 11 then
 K0
 else
 ((Ze5 N (List.getD code2 (Int.toNat t5) (0, 0, 0, 0))).bind fun o10 =>
 (bif o10.2.1 == 2 then
 K0
 else
 (Zck N code2 K0 K1 n (iadd .i64 t5 1))))) else none)
 else
 (K1 t5 (decide (t5 < (ilen code2)))))
noncomputable def Zcg (N : Nat) (code1 : List (Int × Int × Int × Int)) : Option (Unit × (Bool × Unit)) :=
    (Zck N code1
 (some ((), (false, ())))
 (fun t11 t12 =>
   ((Zch N code1).bind fun o13 =>
 (some ((), (o13.2.1, ())))))
  N 0)
noncomputable def Zia (N : Nat) (k1 : List (Int × Int × Int × Int)) : Option (Unit × (Bool × Unit)) :=
    ((Zcg N k1).bind fun o2 =>
 (some ((), (!o2.2.1, ()))))
noncomputable def Zm {R : Type} (N : Nat) (s2 : List (List (Int × Int × Int × Int))) (K0 : Int → Option R) (K1 : Int → Bool → Option R) : Nat → Int → Option R
  | 0, _ => none
  | n + 1, t4 =>
    (bif decide (t4 < (ilen s2)) then
 (bif inb t4 (List.length s2) then
 ((Zia N (List.getD s2 (Int.toNat t4) ([] : List (Int × Int × Int × Int)))).bind fun o10 =>
 (bif o10.2.1 then
 (K0 t4)
 else
 (Zm N s2 K0 K1 n (iadd .i64 t4 1)))) else none)
 else
 (K1 t4 (decide (t4 < (ilen s2)))))
noncomputable def Zo (N : Nat) (s1 : List (List (Int × Int × Int × Int))) : Option (Unit × (Int × Unit)) :=
    (Zm N s1
 (fun t11 =>
   (some ((), (t11, ()))))
 (fun t12 t13 =>
   (some ((), ((-1 : Int), ()))))
  N 0)
noncomputable def Z0 (N : Nat) (s1 : List (List (Int × Int × Int × Int))) : Option (Unit × (Bool × Unit)) :=
    ((Zo N s1).bind fun o2 =>
 (some ((), (decide (o2.2.1 ≥ 0), ()))))
noncomputable def Zfn (N : Nat) (l1 : List (List (Int × Int × Int × Int))) (regs2 : List Int) (cells3 : List Int) : Option (Unit × (Bool × Unit)) :=
    (bif decide ((ilen l1) ≤ 4) then
 ((Zx N regs2 4).bind fun o4 =>
 (bif o4.2.1 then
 ((Zx N cells3 8).bind fun o5 =>
 (bif o5.2.1 then
 ((Z0 N l1).bind fun o6 =>
 (some ((), (!o6.2.1, ()))))
 else
 (some ((), (false, ())))))
 else
 (some ((), (false, ())))))
 else
 (some ((), (false, ()))))
noncomputable def Zkx (N : Nat) (a1 : Int × Int × Int × Int) (b2 : Int × Int × Int × Int) : Option (Unit × (Bool × Unit)) :=
    (bif a1.1 != b2.1 then
 (some ((), (false, ())))
 else
 (bif a1.2.1 != b2.2.1 then
 (some ((), (false, ())))
 else
 (bif a1.2.2.1 != b2.2.2.1 then
 (some ((), (false, ())))
 else
 (bif a1.2.2.2 != b2.2.2.2 then
 (some ((), (false, ())))
 else
 (some ((), (true, ())))))))
noncomputable def Zeg {R : Type} (N : Nat) (a3 : List (Int × Int × Int × Int)) (b4 : List (Int × Int × Int × Int)) (K0 : Option R) (K1 : Int → Bool → Option R) : Nat → Int → Option R
  | 0, _ => none
  | n + 1, i5 =>
    (bif decide (i5 < (ilen a3)) then
 (bif inb i5 (List.length a3) then
 (bif inb i5 (List.length b4) then
 ((Zkx N (List.getD a3 (Int.toNat i5) (0, 0, 0, 0)) (List.getD b4 (Int.toNat i5) (0, 0, 0, 0))).bind fun o9 =>
 (bif !o9.2.1 then
 K0
 else
 (Zeg N a3 b4 K0 K1 n (iadd .i64 i5 1)))) else none) else none)
 else
 (K1 i5 (decide (i5 < (ilen a3)))))
noncomputable def Zjn (N : Nat) (a1 : List (Int × Int × Int × Int)) (b2 : List (Int × Int × Int × Int)) : Option (Unit × (Bool × Unit)) :=
    (bif (ilen a1) != (ilen b2) then
 (some ((), (false, ())))
 else
 (Zeg N a1 b2
 (some ((), (false, ())))
 (fun i10 t11 =>
   (some ((), (true, ()))))
  N 0))
noncomputable def Zjo (N : Nat) (a1 : List (Int × Int × Int × Int)) (b2 : List (Int × Int × Int × Int)) : Option (Unit × (Bool × Unit)) :=
    ((Zjn N a1 b2).bind fun o3 =>
 (bif !o3.2.1 then
 (some ((), (false, ())))
 else
 (some ((), (true, ())))))
noncomputable def Zeb {R : Type} (N : Nat) (a3 : List (List (Int × Int × Int × Int))) (b4 : List (List (Int × Int × Int × Int))) (K0 : Option R) (K1 : Int → Bool → Option R) : Nat → Int → Option R
  | 0, _ => none
  | n + 1, i5 =>
    (bif decide (i5 < (ilen a3)) then
 (bif inb i5 (List.length a3) then
 (bif inb i5 (List.length b4) then
 ((Zjo N (List.getD a3 (Int.toNat i5) ([] : List (Int × Int × Int × Int))) (List.getD b4 (Int.toNat i5) ([] : List (Int × Int × Int × Int)))).bind fun o9 =>
 (bif !o9.2.1 then
 K0
 else
 (Zeb N a3 b4 K0 K1 n (iadd .i64 i5 1)))) else none) else none)
 else
 (K1 i5 (decide (i5 < (ilen a3)))))
noncomputable def Zna (N : Nat) (a1 : List (List (Int × Int × Int × Int))) (b2 : List (List (Int × Int × Int × Int))) : Option (Unit × (Bool × Unit)) :=
    (bif (ilen a1) != (ilen b2) then
 (some ((), (false, ())))
 else
 (Zeb N a1 b2
 (some ((), (false, ())))
 (fun i10 t11 =>
   (some ((), (true, ()))))
  N 0))
noncomputable def Zaj (N : Nat) (c1 : List Int × Int × Int) : Option (((List Int × Int × Int) × Unit) × (Int × Unit)) :=
    ((Zv N c1 8).bind fun o2 =>
 (bif o2.2.1 then
 ((Zf N o2.1.1 8).bind fun o3 =>
 (some ((o3.1.1, ()), (o3.2.1, ()))))
 else
 ((Zf N o2.1.1 3).bind fun o4 =>
 (some ((o4.1.1, ()), (o4.2.1, ()))))))
noncomputable def Zc5 {R : Type} (N : Nat) (K0 : Int → Bool → (List Int × Int × Int) → (List (Int × Int)) → Option R) : Nat → Int → (List Int × Int × Int) → (List (Int × Int)) → Option R
  | 0, _, _, _ => none
  | n + 1, n4, b5, l6 =>
    (bif decide (n4 > 0) then
 ((Zaj N b5).bind fun o13 =>
 ((Zd4 N o13.1.1).bind fun o14 =>
 (bif room ((List.length l6) + (List.length ([(o13.2.1, o14.2.1)]))) then
 (Zc5 N K0 n (isub .i64 n4 1) o14.1.1 (List.append l6 ([(o13.2.1, o14.2.1)]))) else none)))
 else
 (K0 n4 (decide (n4 > 0)) b5 l6))
noncomputable def Zci (N : Nat) (c1 : List Int × Int × Int) (most2 : Int) : Option (((List Int × Int × Int) × Unit) × ((List (Int × Int)) × Unit)) :=
    ((Zf N c1 (iadd .i64 most2 1)).bind fun o3 =>
 (Zc5 N
 (fun n15 t16 b17 l18 =>
   (some ((b17, ()), (l18, ()))))
  N o3.2.1 o3.1.1 ([] : List (Int × Int))))
noncomputable def Zpd (N : Nat) (code1 : List Int) (i2 : Int) : Option (Unit × (Int × Unit)) :=
    (bif decide (i2 < (ilen code1)) then
 (bif inb i2 (List.length code1) then
 (some ((), (IntKind.wrap .i64 (List.getD code1 (Int.toNat i2) 0), ()))) else none)
 else
 (bif inz 256 then
 (some ((), (irem (iadd .i64 (imul .i64 i2 37) (imul .i64 (ilen code1) 11)) 256, ()))) else none))
noncomputable def Zbl {R : Type} (N : Nat) (K0 : Int → Bool → (List Int × Int × Int) → (List Int) → Option R) : Nat → Int → (List Int × Int × Int) → (List Int) → Option R
  | 0, _, _, _ => none
  | n + 1, i2, b3, l4 =>
    (bif decide (i2 < 8) then
 ((Zd4 N b3).bind fun o10 =>
 (bif room ((List.length l4) + (List.length ([o10.2.1]))) then
 (Zbl N K0 n (iadd .i64 i2 1) o10.1.1 (List.append l4 ([o10.2.1]))) else none))
 else
 (K0 i2 (decide (i2 < 8)) b3 l4))
noncomputable def Zbh (N : Nat) (c1 : List Int × Int × Int) : Option (((List Int × Int × Int) × Unit) × ((List Int) × Unit)) :=
    (Zbl N
 (fun i11 t12 b13 l14 =>
   (some ((b13, ()), (l14, ()))))
  N 0 c1 ([] : List Int))
noncomputable def Zbr {R : Type} (N : Nat) (t6 : List (Int × Int)) (K0 : Int → Bool → (List Int) → Option R) : Nat → Int → (List Int) → Option R
  | 0, _, _ => none
  | n + 1, t8, l9 =>
    (bif decide (t8 < (ilen t6)) then
 (bif inb t8 (List.length t6) then
 (bif inb (List.getD t6 (Int.toNat t8) (0, 0)).1 (List.length l9) then
 (Zbr N t6 K0 n (iadd .i64 t8 1) (List.set l9 (Int.toNat (List.getD t6 (Int.toNat t8) (0, 0)).1) (List.getD t6 (Int.toNat t8) (0, 0)).2)) else none) else none)
 else
 (K0 t8 (decide (t8 < (ilen t6))) l9))
noncomputable def Zcq (N : Nat) (cells1 : List Int) (l2 : List (Int × Int)) : Option (Unit × ((List Int) × Unit)) :=
    ((Zx N cells1 8).bind fun o3 =>
 (bif !o3.2.1 then
 (some ((), (([] : List Int), ())))
 else
 ((Zbc N l2).bind fun o4 =>
 (bif !o4.2.1 then
 (some ((), (([] : List Int), ())))
 else
 ((Zl N cells1).bind fun o5 =>
 (Zbr N l2
 (fun t13 t14 l15 =>
   (some ((), (l15, ()))))
  N 0 o5.2.1))))))
noncomputable def Zbs {R : Type} (N : Nat) (l5 : List (Int × Int)) (K0 : Int → Bool → (List Int) → Option R) : Nat → Int → (List Int) → Option R
  | 0, _, _ => none
  | n + 1, i6, l7 =>
    (bif decide (i6 < (ilen l5)) then
 (bif inb i6 (List.length l5) then
 (bif inb i6 (List.length l5) then
 (bif inb (List.getD l5 (Int.toNat i6) (0, 0)).1 (List.length l7) then
 (Zbs N l5 K0 n (iadd .i64 i6 1) (List.set l7 (Int.toNat (List.getD l5 (Int.toNat i6) (0, 0)).1) (List.getD l5 (Int.toNat i6) (0, 0)).2)) else none) else none) else none)
 else
 (K0 i6 (decide (i6 < (ilen l5))) l7))
noncomputable def Zbf (N : Nat) (cells1 : List Int) (l2 : List (Int × Int)) : Option (Unit × ((List Int) × Unit)) :=
    ((Zas N cells1).bind fun o3 =>
 (bif !o3.2.1 then
 (some ((), (([] : List Int), ())))
 else
 ((Zbb N l2).bind fun o4 =>
 (bif !o4.2.1 then
 (some ((), (([] : List Int), ())))
 else
 (bif room ((List.length ([] : List Int)) + (List.length cells1)) then
 (Zbs N l2
 (fun i11 t12 l13 =>
   (some ((), (l13, ()))))
  N 0 (List.append ([] : List Int) cells1)) else none)))))
noncomputable def Zdi {R : Type} (N : Nat) (a3 : List Int) (b4 : List Int) (K0 : Option R) (K1 : Int → Bool → Option R) : Nat → Int → Option R
  | 0, _ => none
  | n + 1, i5 =>
    (bif decide (i5 < (ilen a3)) then
 (bif inb i5 (List.length a3) then
 (bif inb i5 (List.length b4) then
 (bif (List.getD a3 (Int.toNat i5) 0) != (List.getD b4 (Int.toNat i5) 0) then
 K0
 else
 (Zdi N a3 b4 K0 K1 n (iadd .i64 i5 1))) else none) else none)
 else
 (K1 i5 (decide (i5 < (ilen a3)))))
noncomputable def Zam (N : Nat) (a1 : List Int) (b2 : List Int) : Option (Unit × (Bool × Unit)) :=
    (bif (ilen a1) != (ilen b2) then
 (some ((), (false, ())))
 else
 (Zdi N a1 b2
 (some ((), (false, ())))
 (fun i8 t9 =>
   (some ((), (true, ()))))
  N 0))
noncomputable def Zao {R : Type} (N : Nat) (code3 : List (Int × Int × Int × Int)) (K0 : Int → Option R) (K1 : Int → Int → Bool → Option R) : Nat → Int → Int → Option R
  | 0, _, _ => none
  | n + 1, d4, k5 =>
    (bif decide (k5 < (ilen code3)) then
 (bif inb k5 (List.length code3) then
 (bif (List.getD code3 (Int.toNat k5) (0, 0, 0, 0)).1 == 8 then
 (bif inb k5 (List.length code3) then
 (bif (List.getD code3 (Int.toNat k5) (0, 0, 0, 0)).1 == 9 then
 (bif (isub .i64 (iadd .i64 d4 1) 1) == 0 then
 (K0 k5)
 else
 (Zao N code3 K0 K1 n (isub .i64 (iadd .i64 d4 1) 1) (iadd .i64 k5 1)))
 else
 (bif (iadd .i64 d4 1) == 0 then
 (K0 k5)
 else
 (Zao N code3 K0 K1 n (iadd .i64 d4 1) (iadd .i64 k5 1)))) else none)
 else
 (bif inb k5 (List.length code3) then
 (bif (List.getD code3 (Int.toNat k5) (0, 0, 0, 0)).1 == 9 then
 (bif (isub .i64 d4 1) == 0 then
 (K0 k5)
 else
 (Zao N code3 K0 K1 n (isub .i64 d4 1) (iadd .i64 k5 1)))
 else
 (bif d4 == 0 then
 (K0 k5)
 else
 (Zao N code3 K0 K1 n d4 (iadd .i64 k5 1)))) else none)) else none)
 else
 (K1 d4 k5 (decide (k5 < (ilen code3)))))
noncomputable def Zbt (N : Nat) (code1 : List (Int × Int × Int × Int)) (i2 : Int) : Option (Unit × (Int × Unit)) :=
    (bif decide (i2 < 0) then
 (some ((), ((-1 : Int), ())))
 else
 (bif decide (i2 ≥ (ilen code1)) then
 (some ((), ((-1 : Int), ())))
 else
 (bif inb i2 (List.length code1) then
 (bif (List.getD code1 (Int.toNat i2) (0, 0, 0, 0)).1 != 8 then
 (some ((), ((-1 : Int), ())))
 else
 (Zao N code1
 (fun t10 =>
   (some ((), (t10, ()))))
 (fun d11 k12 t13 =>
   (some ((), ((-1 : Int), ()))))
  N 0 i2)) else none)))
noncomputable def Zfs (N : Nat) (o1 : Int × Int × Int × Int) (regs2 : List Int) : Option (Unit × ((List Int) × (Bool × Unit))) :=
    (bif room ((List.length ([] : List Int)) + (List.length regs2)) then
 ((Zp N o1).bind fun o3 =>
 (bif !o3.2.1 then
 (some ((), (List.append ([] : List Int) regs2, (false, ()))))
 else
 ((Za4 N regs2).bind fun o4 =>
 (bif !o4.2.1 then
 (some ((), (List.append ([] : List Int) regs2, (false, ()))))
 else
 (bif decide (o1.1 > 4) then
 (some ((), (List.append ([] : List Int) regs2, (false, ()))))
 else
 (bif o1.1 == 1 then
 (bif inb o1.2.1 (List.length (List.append ([] : List Int) regs2)) then
 (some ((), (List.set (List.append ([] : List Int) regs2) (Int.toNat o1.2.1) o1.2.2.1, (true, ())))) else none)
 else
 (bif inb o1.2.2.1 (List.length regs2) then
 (bif inb o1.2.2.2 (List.length regs2) then
 (bif o1.1 == 2 then
 (bif inz 65536 then
 (bif inb o1.2.1 (List.length (List.append ([] : List Int) regs2)) then
 (some ((), (List.set (List.append ([] : List Int) regs2) (Int.toNat o1.2.1) (irem (iadd .i64 (List.getD regs2 (Int.toNat o1.2.2.1) 0) (List.getD regs2 (Int.toNat o1.2.2.2) 0)) 65536), (true, ())))) else none) else none)
 else
 (bif o1.1 == 3 then
 (bif inz 65536 then
 (bif inb o1.2.1 (List.length (List.append ([] : List Int) regs2)) then
 (some ((), (List.set (List.append ([] : List Int) regs2) (Int.toNat o1.2.1) (irem (iadd .i64 (isub .i64 (List.getD regs2 (Int.toNat o1.2.2.1) 0) (List.getD regs2 (Int.toNat o1.2.2.2) 0)) 65536) 65536), (true, ())))) else none) else none)
 else
 (bif inb o1.2.1 (List.length (List.append ([] : List Int) regs2)) then
 (bif decide ((List.getD regs2 (Int.toNat o1.2.2.1) 0) < (List.getD regs2 (Int.toNat o1.2.2.2) 0)) then
 (bif inb o1.2.1 (List.length (List.set (List.append ([] : List Int) regs2) (Int.toNat o1.2.1) 0)) then
 (share (List.set (List.append ([] : List Int) regs2) (Int.toNat o1.2.1) 0) fun s5 =>
 (some ((), (List.set s5 (Int.toNat o1.2.1) 1, (true, ()))))) else none)
 else
 (some ((), (List.set (List.append ([] : List Int) regs2) (Int.toNat o1.2.1) 0, (true, ()))))) else none))) else none) else none))))))) else none)
noncomputable def Z1 {R : Type} (N : Nat) (code9 : List (Int × Int × Int × Int)) (K0 : Int → (List Int) → (List Int) → (List (Int × Int)) → Option R) (K1 : Int → Bool → Int → (List (Int × List Int × Int)) → (List Int) → (List Int) → (List (Int × Int)) → Option R) : Nat → Int → Int → (List (Int × List Int × Int)) → (List Int) → (List Int) → (List (Int × Int)) → Option R
  | 0, _, _, _, _, _, _ => none
  | n + 1, pc10, b14, l15, l16, l17, l18 =>
    (bif decide (pc10 < (ilen code9)) then
 (bif inb pc10 (List.length code9) then
 (bif (List.getD code9 (Int.toNat pc10) (0, 0, 0, 0)).1 == 5 then
 (bif inb (List.getD code9 (Int.toNat pc10) (0, 0, 0, 0)).2.2.1 (List.length l17) then
 (bif inb (List.getD code9 (Int.toNat pc10) (0, 0, 0, 0)).2.1 (List.length l16) then
 (Z1 N code9 K0 K1 n (iadd .i64 pc10 1) b14 l15 (List.set l16 (Int.toNat (List.getD code9 (Int.toNat pc10) (0, 0, 0, 0)).2.1) (List.getD l17 (Int.toNat (List.getD code9 (Int.toNat pc10) (0, 0, 0, 0)).2.2.1) 0)) l17 l18) else none) else none)
 else
 (bif (List.getD code9 (Int.toNat pc10) (0, 0, 0, 0)).1 == 6 then
 (bif inb (List.getD code9 (Int.toNat pc10) (0, 0, 0, 0)).2.1 (List.length l17) then
 (bif room ((List.length l18) + (List.length ([((List.getD code9 (Int.toNat pc10) ((0 : Int), ((0 : Int), ((0 : Int), (0 : Int))))).2.1, List.getD l17 (Int.toNat (List.getD code9 (Int.toNat pc10) ((0 : Int), ((0 : Int), ((0 : Int), (0 : Int))))).2.1) (0 : Int))]))) then
 (bif inb (List.getD code9 (Int.toNat pc10) (0, 0, 0, 0)).2.2.1 (List.length l16) then
 (bif inb (List.getD code9 (Int.toNat pc10) (0, 0, 0, 0)).2.1 (List.length l17) then
 (Z1 N code9 K0 K1 n (iadd .i64 pc10 1) b14 l15 l16 (List.set l17 (Int.toNat (List.getD code9 (Int.toNat pc10) (0, 0, 0, 0)).2.1) (List.getD l16 (Int.toNat (List.getD code9 (Int.toNat pc10) (0, 0, 0, 0)).2.2.1) 0)) (List.append l18 ([((List.getD code9 (Int.toNat pc10) (0, 0, 0, 0)).2.1, List.getD l17 (Int.toNat (List.getD code9 (Int.toNat pc10) (0, 0, 0, 0)).2.1) 0)]))) else none) else none) else none) else none)
 else
 (bif (List.getD code9 (Int.toNat pc10) (0, 0, 0, 0)).1 == 7 then
 (bif inb (List.getD code9 (Int.toNat pc10) (0, 0, 0, 0)).2.1 (List.length l16) then
 (bif (List.getD l16 (Int.toNat (List.getD code9 (Int.toNat pc10) (0, 0, 0, 0)).2.1) 0) == 0 then
 (Z1 N code9 K0 K1 n (iadd .i64 (iadd .i64 pc10 1) (List.getD code9 (Int.toNat pc10) (0, 0, 0, 0)).2.2.1) b14 l15 l16 l17 l18)
 else
 (Z1 N code9 K0 K1 n (iadd .i64 pc10 1) b14 l15 l16 l17 l18)) else none)
 else
 (bif (List.getD code9 (Int.toNat pc10) (0, 0, 0, 0)).1 == 8 then
 ((Zw N l16).bind fun o46 =>
 (bif room ((List.length l15) + (List.length ([(pc10, (o46.2.1, ilen l18))]))) then
 (Z1 N code9 K0 K1 n (iadd .i64 pc10 1) b14 (List.append l15 ([(pc10, (o46.2.1, ilen l18))])) l16 l17 l18) else none))
 else
 (bif (List.getD code9 (Int.toNat pc10) (0, 0, 0, 0)).1 == 9 then
 (bif inb (isub .i64 (ilen l15) 1) (List.length l15) then
 (bif (decide ((0 : Int) ≤ (isub .i64 (ilen l15) 1))) && (decide ((isub .i64 (ilen l15) 1) ≤ ((List.length l15) : Int))) then
 (bif inb (List.getD l15 (Int.toNat (isub .i64 (ilen l15) 1)) (0, (([] : List Int), 0))).1 (List.length code9) then
 (bif inb (List.getD code9 (Int.toNat (List.getD l15 (Int.toNat (isub .i64 (ilen l15) 1)) (0, (([] : List Int), 0))).1) (0, 0, 0, 0)).2.1 (List.length l16) then
 (Z1 N code9 K0 K1 n (iadd .i64 pc10 1) b14 (List.take (Int.toNat (isub .i64 (ilen l15) 1)) l15) (List.set l16 (Int.toNat (List.getD code9 (Int.toNat (List.getD l15 (Int.toNat (isub .i64 (ilen l15) 1)) (0, (([] : List Int), 0))).1) (0, 0, 0, 0)).2.1) 1) l17 l18) else none) else none) else none) else none)
 else
 (bif (List.getD code9 (Int.toNat pc10) (0, 0, 0, 0)).1 == 10 then
 (bif decide ((ilen l15) > 0) then
 (bif inb (isub .i64 (ilen l15) 1) (List.length l15) then
 ((Zeo N l17 l18 (List.getD l15 (Int.toNat (isub .i64 (ilen l15) 1)) (0, (([] : List Int), 0))).2.2).bind fun o47 =>
 (bif (ilen l15) == 0 then
 (K0 (isub .i64 (iadd .i64 b14 (ilen l18)) (List.getD l15 (Int.toNat (isub .i64 (ilen l15) 1)) (0, (([] : List Int), 0))).2.2) l16 o47.2.1 o47.2.2.1)
 else
 (bif inb (isub .i64 (ilen l15) 1) (List.length l15) then
 (bif (decide ((0 : Int) ≤ (isub .i64 (ilen l15) 1))) && (decide ((isub .i64 (ilen l15) 1) ≤ ((List.length l15) : Int))) then
 ((Zw N (List.getD l15 (Int.toNat (isub .i64 (ilen l15) 1)) (0, (([] : List Int), 0))).2.1).bind fun o48 =>
 (bif inb (List.getD l15 (Int.toNat (isub .i64 (ilen l15) 1)) (0, (([] : List Int), 0))).1 (List.length code9) then
 (bif inb (List.getD code9 (Int.toNat (List.getD l15 (Int.toNat (isub .i64 (ilen l15) 1)) (0, (([] : List Int), 0))).1) (0, 0, 0, 0)).2.1 (List.length o48.2.1) then
 ((Zbt N code9 (List.getD l15 (Int.toNat (isub .i64 (ilen l15) 1)) (0, (([] : List Int), 0))).1).bind fun o49 =>
 (Z1 N code9 K0 K1 n (iadd .i64 o49.2.1 1) (isub .i64 (iadd .i64 b14 (ilen l18)) (List.getD l15 (Int.toNat (isub .i64 (ilen l15) 1)) (0, (([] : List Int), 0))).2.2) (List.take (Int.toNat (isub .i64 (ilen l15) 1)) l15) (List.set o48.2.1 (Int.toNat (List.getD code9 (Int.toNat (List.getD l15 (Int.toNat (isub .i64 (ilen l15) 1)) (0, (([] : List Int), 0))).1) (0, 0, 0, 0)).2.1) 0) o47.2.1 o47.2.2.1)) else none) else none)) else none) else none))) else none)
 else
 ((Zeo N l17 l18 0).bind fun o50 =>
 (bif (ilen l15) == 0 then
 (K0 (isub .i64 (iadd .i64 b14 (ilen l18)) 0) l16 o50.2.1 o50.2.2.1)
 else
 (bif inb (isub .i64 (ilen l15) 1) (List.length l15) then
 (bif (decide ((0 : Int) ≤ (isub .i64 (ilen l15) 1))) && (decide ((isub .i64 (ilen l15) 1) ≤ ((List.length l15) : Int))) then
 ((Zw N (List.getD l15 (Int.toNat (isub .i64 (ilen l15) 1)) (0, (([] : List Int), 0))).2.1).bind fun o51 =>
 (bif inb (List.getD l15 (Int.toNat (isub .i64 (ilen l15) 1)) (0, (([] : List Int), 0))).1 (List.length code9) then
 (bif inb (List.getD code9 (Int.toNat (List.getD l15 (Int.toNat (isub .i64 (ilen l15) 1)) (0, (([] : List Int), 0))).1) (0, 0, 0, 0)).2.1 (List.length o51.2.1) then
 ((Zbt N code9 (List.getD l15 (Int.toNat (isub .i64 (ilen l15) 1)) (0, (([] : List Int), 0))).1).bind fun o52 =>
 (Z1 N code9 K0 K1 n (iadd .i64 o52.2.1 1) (isub .i64 (iadd .i64 b14 (ilen l18)) 0) (List.take (Int.toNat (isub .i64 (ilen l15) 1)) l15) (List.set o51.2.1 (Int.toNat (List.getD code9 (Int.toNat (List.getD l15 (Int.toNat (isub .i64 (ilen l15) 1)) (0, (([] : List Int), 0))).1) (0, 0, 0, 0)).2.1) 0) o50.2.1 o50.2.2.1)) else none) else none)) else none) else none))))
 else
 ((Zfs N (List.getD code9 (Int.toNat pc10) (0, 0, 0, 0)) l16).bind fun o53 =>
 (Z1 N code9 K0 K1 n (iadd .i64 pc10 1) b14 l15 o53.2.1 l17 l18)))))))) else none)
 else
 (K1 pc10 (decide (pc10 < (ilen code9))) b14 l15 l16 l17 l18))
noncomputable def Zkb (N : Nat) (code1 : List (Int × Int × Int × Int)) (regs2 : List Int) (cells3 : List Int) : Option (Unit × ((Int × List Int × List Int × List (Int × Int) × Int) × Unit)) :=
    ((Zbq N code1).bind fun o4 =>
 (bif !o4.2.1 then
 (some ((), ((0, (([] : List Int), (([] : List Int), (([] : List (Int × Int)), 0)))), ())))
 else
 ((Za4 N regs2).bind fun o5 =>
 (bif !o5.2.1 then
 (some ((), ((0, (([] : List Int), (([] : List Int), (([] : List (Int × Int)), 0)))), ())))
 else
 ((Zas N cells3).bind fun o6 =>
 (bif !o6.2.1 then
 (some ((), ((0, (([] : List Int), (([] : List Int), (([] : List (Int × Int)), 0)))), ())))
 else
 ((Zw N regs2).bind fun o7 =>
 ((Zw N cells3).bind fun o8 =>
 (Z1 N code1
 (fun b54 l55 l56 l57 =>
   (some ((), ((2, (l55, (l56, (l57, b54)))), ()))))
 (fun pc58 t59 b60 l61 l62 l63 l64 =>
   (some ((), ((1, (l62, (l63, (l64, b60)))), ()))))
  N 0 0 ([] : List (Int × List Int × Int)) o7.2.1 o8.2.1 ([] : List (Int × Int)))))))))))
noncomputable def Zgq (N : Nat) (code1 : List (Int × Int × Int × Int)) (regs2 : List Int) (cells3 : List Int) : Option (Unit × ((List Int × List Int × List (Int × Int) × Int × List (Int × Int × List Int) × List Int) × (Bool × Unit))) :=
    ((Zcg N code1).bind fun o4 =>
 (bif o4.2.1 then
 ((Zx N regs2 4).bind fun o5 =>
 (bif o5.2.1 then
 ((Zx N cells3 8).bind fun o6 =>
 ((Zl N regs2).bind fun o7 =>
 ((Zl N cells3).bind fun o8 =>
 (some ((), ((o7.2.1, (o8.2.1, (([] : List (Int × Int)), (0, (([] : List (Int × Int × List Int)), ([] : List Int)))))), (o6.2.1, ())))))))
 else
 ((Zl N regs2).bind fun o9 =>
 ((Zl N cells3).bind fun o10 =>
 (some ((), ((o9.2.1, (o10.2.1, (([] : List (Int × Int)), (0, (([] : List (Int × Int × List Int)), ([] : List Int)))))), (false, ()))))))))
 else
 ((Zl N regs2).bind fun o11 =>
 ((Zl N cells3).bind fun o12 =>
 (some ((), ((o11.2.1, (o12.2.1, (([] : List (Int × Int)), (0, (([] : List (Int × Int × List Int)), ([] : List Int)))))), (false, ()))))))))
noncomputable def Zgr (N : Nat) (r1 : Int × Int) (a2 : Int × Int × Int × Int) : Option (((Int × Int × Int × Int) × Unit) × (Bool × Unit)) :=
    (some ((a2, ()), (r1.1 == a2.2.2.1, ())))
noncomputable def Zk {R : Type} (N : Nat) (s3 : List (Int × Int)) (K0 : Int → (Int × Int × Int × Int) → Option R) (K1 : Int → Bool → (Int × Int × Int × Int) → Option R) : Nat → Int → (Int × Int × Int × Int) → Option R
  | 0, _, _ => none
  | n + 1, t5, b6 =>
    (bif decide (t5 < (ilen s3)) then
 (bif inb t5 (List.length s3) then
 ((Zgr N (List.getD s3 (Int.toNat t5) (0, 0)) b6).bind fun o14 =>
 (bif o14.2.1 then
 (K0 t5 o14.1.1)
 else
 (Zk N s3 K0 K1 n (iadd .i64 t5 1) o14.1.1))) else none)
 else
 (K1 t5 (decide (t5 < (ilen s3))) b6))
noncomputable def Zn (N : Nat) (s1 : List (Int × Int)) (cap2 : Int × Int × Int × Int) : Option (((Int × Int × Int × Int) × Unit) × (Int × Unit)) :=
    (Zk N s1
 (fun t15 b16 =>
   (some ((b16, ()), (t15, ()))))
 (fun t17 t18 b19 =>
   (some ((b19, ()), ((-1 : Int), ()))))
  N 0 cap2)
noncomputable def Zy (N : Nat) (s1 : List (Int × Int)) (cap2 : Int × Int × Int × Int) : Option (((Int × Int × Int × Int) × Unit) × (Bool × Unit)) :=
    ((Zn N s1 cap2).bind fun o3 =>
 (some ((o3.1.1, ()), (decide (o3.2.1 ≥ 0), ()))))
noncomputable def Zeh (N : Nat) (e1 : List Int × List Int × List (Int × Int) × Int × List (Int × Int × List Int) × List Int) (n2 : Int) : Option (((List Int × List Int × List (Int × Int) × Int × List (Int × Int × List Int) × List Int) × Unit) × Unit) :=
    ((Zbk N e1.2.1 e1.2.2.1 n2).bind fun o3 =>
 (some (((e1.1, (o3.2.1, (o3.2.2.1, (isub .i64 (iadd .i64 e1.2.2.2.1 (ilen e1.2.2.1)) n2, e1.2.2.2.2)))), ()), ())))
noncomputable def Zep (N : Nat) (e1 : List Int × List Int × List (Int × Int) × Int × List (Int × Int × List Int) × List Int) (code2 : List (Int × Int × Int × Int)) : Option (((List Int × List Int × List (Int × Int) × Int × List (Int × Int × List Int) × List Int) × Unit) × (Int × Unit)) :=
    (bif decide ((isub .i64 (ilen e1.2.2.2.2.1) 1) < 0) then
 ((Zeh N e1 0).bind fun o3 =>
 (some ((o3.1.1, ()), ((-1 : Int), ()))))
 else
 (bif inb (isub .i64 (ilen e1.2.2.2.2.1) 1) (List.length e1.2.2.2.2.1) then
 (bif ((decide ((0 : Int) ≤ (isub .i64 (ilen e1.2.2.2.2.1) 1))) && (decide ((isub .i64 (ilen e1.2.2.2.2.1) 1) ≤ ((List.length e1.2.2.2.2.1) : Int)))) && (decide ((isub .i64 (ilen e1.2.2.2.2.1) 1) ≤ ((Int.toNat (isub .i64 (ilen e1.2.2.2.2.1) 1)) : Int))) then
 ((Zeh N (e1.1, (e1.2.1, (e1.2.2.1, (e1.2.2.2.1, (List.take (Int.toNat (isub .i64 (ilen e1.2.2.2.2.1) 1)) e1.2.2.2.2.1, e1.2.2.2.2.2))))) (List.getD e1.2.2.2.2.1 (Int.toNat (isub .i64 (ilen e1.2.2.2.2.1) 1)) (0, (0, ([] : List Int)))).2.1).bind fun o4 =>
 (bif inb (List.getD e1.2.2.2.2.1 (Int.toNat (isub .i64 (ilen e1.2.2.2.2.1) 1)) (0, (0, ([] : List Int)))).1 (List.length code2) then
 (bif inb (List.getD code2 (Int.toNat (List.getD e1.2.2.2.2.1 (Int.toNat (isub .i64 (ilen e1.2.2.2.2.1) 1)) (0, (0, ([] : List Int)))).1) (0, 0, 0, 0)).2.1 (List.length (List.getD e1.2.2.2.2.1 (Int.toNat (isub .i64 (ilen e1.2.2.2.2.1) 1)) (0, (0, ([] : List Int)))).2.2) then
 (some (((List.set (List.getD e1.2.2.2.2.1 (Int.toNat (isub .i64 (ilen e1.2.2.2.2.1) 1)) (0, (0, ([] : List Int)))).2.2 (Int.toNat (List.getD code2 (Int.toNat (List.getD e1.2.2.2.2.1 (Int.toNat (isub .i64 (ilen e1.2.2.2.2.1) 1)) (0, (0, ([] : List Int)))).1) (0, 0, 0, 0)).2.1) 0, o4.1.1.2), ()), ((List.getD e1.2.2.2.2.1 (Int.toNat (isub .i64 (ilen e1.2.2.2.2.1) 1)) (0, (0, ([] : List Int)))).1, ()))) else none) else none)) else none) else none))
noncomputable def Zcl {R : Type} (N : Nat) (code4 : List (Int × Int × Int × Int)) (K0 : Int → Option R) (K1 : Int → Int → Bool → Option R) : Nat → Int → Int → Option R
  | 0, _, _ => none
  | n + 1, n5, k6 =>
    (bif decide (k6 < (ilen code4)) then
 (bif inb k6 (List.length code4) then
 ((Ze6 N (List.getD code4 (Int.toNat k6) (0, 0, 0, 0))).bind fun o12 =>
 (bif (iadd .i64 n5 o12.2.1) == 0 then
 (K0 k6)
 else
 (Zcl N code4 K0 K1 n (iadd .i64 n5 o12.2.1) (iadd .i64 k6 1)))) else none)
 else
 (K1 n5 k6 (decide (k6 < (ilen code4)))))
noncomputable def Zbd (N : Nat) (code1 : List (Int × Int × Int × Int)) (i2 : Int) : Option (Unit × (Int × Unit)) :=
    ((Za1 N i2 0 (isub .i64 (ilen code1) 1)).bind fun o3 =>
 (bif !o3.2.1 then
 (some ((), ((-1 : Int), ())))
 else
 (bif inb i2 (List.length code1) then
 (bif (List.getD code1 (Int.toNat i2) (0, 0, 0, 0)).1 != 8 then
 (some ((), ((-1 : Int), ())))
 else
 (Zcl N code1
 (fun t13 =>
   (some ((), (t13, ()))))
 (fun n14 k15 t16 =>
   (some ((), ((-1 : Int), ()))))
  N 0 i2)) else none)))
noncomputable def Zed (N : Nat) (o1 : Int × Int × Int × Int) (regs2 : List Int) : Option (Unit × ((List Int) × (Bool × Unit))) :=
    ((Zl N regs2).bind fun o3 =>
 ((Zq N o1).bind fun o4 =>
 (bif !o4.2.1 then
 (some ((), (o3.2.1, (false, ()))))
 else
 (bif decide (o1.1 > 4) then
 (some ((), (o3.2.1, (false, ()))))
 else
 ((Zx N regs2 4).bind fun o5 =>
 (bif !o5.2.1 then
 (some ((), (o3.2.1, (false, ()))))
 else
 (bif o1.1 == 1 then
 (bif inb o1.2.1 (List.length o3.2.1) then
 (some ((), (List.set o3.2.1 (Int.toNat o1.2.1) o1.2.2.1, (true, ())))) else none)
 else
 (bif o1.1 == 2 then
 (bif inb o1.2.2.1 (List.length regs2) then
 (bif inb o1.2.2.2 (List.length regs2) then
 (bif inz 65536 then
 (bif inb o1.2.1 (List.length o3.2.1) then
 (some ((), (List.set o3.2.1 (Int.toNat o1.2.1) (irem (iadd .i64 (List.getD regs2 (Int.toNat o1.2.2.1) 0) (List.getD regs2 (Int.toNat o1.2.2.2) 0)) 65536), (true, ())))) else none) else none) else none) else none)
 else
 (bif o1.1 == 3 then
 (bif inb o1.2.2.1 (List.length regs2) then
 (bif inb o1.2.2.2 (List.length regs2) then
 (bif inz 65536 then
 (bif inb o1.2.1 (List.length o3.2.1) then
 (some ((), (List.set o3.2.1 (Int.toNat o1.2.1) (irem (iadd .i64 (isub .i64 (List.getD regs2 (Int.toNat o1.2.2.1) 0) (List.getD regs2 (Int.toNat o1.2.2.2) 0)) 65536) 65536), (true, ())))) else none) else none) else none) else none)
 else
 (bif inb o1.2.1 (List.length o3.2.1) then
 (bif inb o1.2.2.1 (List.length regs2) then
 (bif inb o1.2.2.2 (List.length regs2) then
 (bif decide ((List.getD regs2 (Int.toNat o1.2.2.1) 0) < (List.getD regs2 (Int.toNat o1.2.2.2) 0)) then
 (bif inb o1.2.1 (List.length (List.set o3.2.1 (Int.toNat o1.2.1) 0)) then
 (share (List.set o3.2.1 (Int.toNat o1.2.1) 0) fun s6 =>
 (some ((), (List.set s6 (Int.toNat o1.2.1) 1, (true, ()))))) else none)
 else
 (some ((), (List.set o3.2.1 (Int.toNat o1.2.1) 0, (true, ()))))) else none) else none) else none))))))))))
noncomputable def Zs {R : Type} (N : Nat) (code3 : List (Int × Int × Int × Int)) (K0 : Int → (List Int) → (List Int) → (List (Int × Int)) → (List (Int × Int × List Int)) → (List Int) → Option R) (K1 : Int → Bool → Int → (List Int) → (List Int) → (List (Int × Int)) → (List (Int × Int × List Int)) → (List Int) → Option R) : Nat → Int → Int → (List Int) → (List Int) → (List (Int × Int)) → (List (Int × Int × List Int)) → (List Int) → Option R
  | 0, _, _, _, _, _, _, _ => none
  | n + 1, i4, b5, l6, l7, l8, l9, l10 =>
    (bif decide (i4 < (ilen code3)) then
 (bif inb i4 (List.length code3) then
 (bif (List.getD code3 (Int.toNat i4) (0, 0, 0, 0)).1 == 5 then
 ((Zy N l8 (List.getD code3 (Int.toNat i4) (0, 0, 0, 0))).bind fun o30 =>
 (bif !o30.2.1 then
 (bif room ((List.length l10) + (List.length ([o30.1.1.2.2.1]))) then
 (bif inb o30.1.1.2.2.1 (List.length l7) then
 (bif inb o30.1.1.2.1 (List.length l6) then
 (Zs N code3 K0 K1 n (iadd .i64 i4 1) b5 (List.set l6 (Int.toNat o30.1.1.2.1) (List.getD l7 (Int.toNat o30.1.1.2.2.1) 0)) l7 l8 l9 (List.append l10 ([o30.1.1.2.2.1]))) else none) else none) else none)
 else
 (bif inb o30.1.1.2.2.1 (List.length l7) then
 (bif inb o30.1.1.2.1 (List.length l6) then
 (Zs N code3 K0 K1 n (iadd .i64 i4 1) b5 (List.set l6 (Int.toNat o30.1.1.2.1) (List.getD l7 (Int.toNat o30.1.1.2.2.1) 0)) l7 l8 l9 l10) else none) else none)))
 else
 (bif (List.getD code3 (Int.toNat i4) (0, 0, 0, 0)).1 == 6 then
 (bif inb (List.getD code3 (Int.toNat i4) (0, 0, 0, 0)).2.1 (List.length l7) then
 (bif room ((List.length l8) + (List.length ([((List.getD code3 (Int.toNat i4) ((0 : Int), ((0 : Int), ((0 : Int), (0 : Int))))).2.1, List.getD l7 (Int.toNat (List.getD code3 (Int.toNat i4) ((0 : Int), ((0 : Int), ((0 : Int), (0 : Int))))).2.1) (0 : Int))]))) then
 (bif inb (List.getD code3 (Int.toNat i4) (0, 0, 0, 0)).2.2.1 (List.length l6) then
 (bif inb (List.getD code3 (Int.toNat i4) (0, 0, 0, 0)).2.1 (List.length l7) then
 (Zs N code3 K0 K1 n (iadd .i64 i4 1) b5 l6 (List.set l7 (Int.toNat (List.getD code3 (Int.toNat i4) (0, 0, 0, 0)).2.1) (List.getD l6 (Int.toNat (List.getD code3 (Int.toNat i4) (0, 0, 0, 0)).2.2.1) 0)) (List.append l8 ([((List.getD code3 (Int.toNat i4) (0, 0, 0, 0)).2.1, List.getD l7 (Int.toNat (List.getD code3 (Int.toNat i4) (0, 0, 0, 0)).2.1) 0)])) l9 l10) else none) else none) else none) else none)
 else
 (bif (List.getD code3 (Int.toNat i4) (0, 0, 0, 0)).1 == 7 then
 (bif inb (List.getD code3 (Int.toNat i4) (0, 0, 0, 0)).2.1 (List.length l6) then
 (bif (List.getD l6 (Int.toNat (List.getD code3 (Int.toNat i4) (0, 0, 0, 0)).2.1) 0) == 0 then
 (Zs N code3 K0 K1 n (iadd .i64 (iadd .i64 i4 (List.getD code3 (Int.toNat i4) (0, 0, 0, 0)).2.2.1) 1) b5 l6 l7 l8 l9 l10)
 else
 (Zs N code3 K0 K1 n (iadd .i64 i4 1) b5 l6 l7 l8 l9 l10)) else none)
 else
 (bif (List.getD code3 (Int.toNat i4) (0, 0, 0, 0)).1 == 8 then
 ((Zl N l6).bind fun o31 =>
 (bif room ((List.length l9) + (List.length ([(i4, (ilen l8, o31.2.1))]))) then
 (Zs N code3 K0 K1 n (iadd .i64 i4 1) b5 l6 l7 l8 (List.append l9 ([(i4, (ilen l8, o31.2.1))])) l10) else none))
 else
 (bif (List.getD code3 (Int.toNat i4) (0, 0, 0, 0)).1 == 9 then
 (bif inb (isub .i64 (ilen l9) 1) (List.length l9) then
 (bif (decide ((0 : Int) ≤ (isub .i64 (ilen l9) 1))) && (decide ((isub .i64 (ilen l9) 1) ≤ ((List.length l9) : Int))) then
 (bif inb (List.getD l9 (Int.toNat (isub .i64 (ilen l9) 1)) (0, (0, ([] : List Int)))).1 (List.length code3) then
 (bif inb (List.getD code3 (Int.toNat (List.getD l9 (Int.toNat (isub .i64 (ilen l9) 1)) (0, (0, ([] : List Int)))).1) (0, 0, 0, 0)).2.1 (List.length l6) then
 (Zs N code3 K0 K1 n (iadd .i64 i4 1) b5 (List.set l6 (Int.toNat (List.getD code3 (Int.toNat (List.getD l9 (Int.toNat (isub .i64 (ilen l9) 1)) (0, (0, ([] : List Int)))).1) (0, 0, 0, 0)).2.1) 1) l7 l8 (List.take (Int.toNat (isub .i64 (ilen l9) 1)) l9) l10) else none) else none) else none) else none)
 else
 (bif (List.getD code3 (Int.toNat i4) (0, 0, 0, 0)).1 == 10 then
 ((Zep N (l6, (l7, (l8, (b5, (l9, l10))))) code3).bind fun o32 =>
 (bif decide (o32.2.1 < 0) then
 (K0 o32.1.1.2.2.2.1 o32.1.1.1 o32.1.1.2.1 o32.1.1.2.2.1 o32.1.1.2.2.2.2.1 o32.1.1.2.2.2.2.2)
 else
 ((Zbd N code3 o32.2.1).bind fun o33 =>
 (Zs N code3 K0 K1 n (iadd .i64 o33.2.1 1) o32.1.1.2.2.2.1 o32.1.1.1 o32.1.1.2.1 o32.1.1.2.2.1 o32.1.1.2.2.2.2.1 o32.1.1.2.2.2.2.2))))
 else
 ((Zed N (List.getD code3 (Int.toNat i4) (0, 0, 0, 0)) l6).bind fun o34 =>
 (Zs N code3 K0 K1 n (iadd .i64 i4 1) b5 o34.2.1 l7 l8 l9 l10)))))))) else none)
 else
 (K1 i4 (decide (i4 < (ilen code3))) b5 l6 l7 l8 l9 l10))
noncomputable def Za9 (N : Nat) (e1 : List Int × List Int × List (Int × Int) × Int × List (Int × Int × List Int) × List Int) (code2 : List (Int × Int × Int × Int)) : Option (((List Int × List Int × List (Int × Int) × Int × List (Int × Int × List Int) × List Int) × Unit) × (Int × Unit)) :=
    (Zs N code2
 (fun b35 l36 l37 l38 l39 l40 =>
   (some (((l36, (l37, (l38, (b35, (l39, l40))))), ()), (2, ()))))
 (fun i41 t42 b43 l44 l45 l46 l47 l48 =>
   (some (((l44, (l45, (l46, (b43, (l47, l48))))), ()), (1, ()))))
  N 0 e1.2.2.2.1 e1.1 e1.2.1 e1.2.2.1 e1.2.2.2.2.1 e1.2.2.2.2.2)
noncomputable def Zkc (N : Nat) (code1 : List (Int × Int × Int × Int)) (regs2 : List Int) (cells3 : List Int) : Option (Unit × ((Int × List Int × List Int × List (Int × Int) × Int) × Unit)) :=
    ((Zgq N code1 regs2 cells3).bind fun o4 =>
 (bif !o4.2.2.1 then
 (some ((), ((0, (([] : List Int), (([] : List Int), (([] : List (Int × Int)), 0)))), ())))
 else
 ((Za9 N o4.2.1 code1).bind fun o5 =>
 (some ((), ((o5.2.1, (o5.1.1.1, (o5.1.1.2.1, (o5.1.1.2.2.1, o5.1.1.2.2.2.1)))), ()))))))
noncomputable def Zc (N : Nat) (c1 : List Int × Int × Int) : Option (((List Int × Int × Int) × Unit) × (Int × Unit)) :=
    ((Zf N c1 4).bind fun o2 =>
 (some ((o2.1.1, ()), (o2.2.1, ()))))
noncomputable def Zj (N : Nat) (c1 : List Int × Int × Int) : Option (((List Int × Int × Int) × Unit) × (Int × Unit)) :=
    ((Zv N c1 4).bind fun o2 =>
 (bif o2.2.1 then
 ((Zf N o2.1.1 8).bind fun o3 =>
 (some ((o3.1.1, ()), (o3.2.1, ()))))
 else
 ((Zav N o2.1.1 ([0, 4, 1])).bind fun o4 =>
 (some ((o4.1.1, ()), (o4.2.1, ()))))))
noncomputable def Zi (N : Nat) (c1 : List Int × Int × Int) (kind2 : Int) : Option (((List Int × Int × Int) × Unit) × ((Int × Int × Int × Int) × Unit)) :=
    (bif kind2 == 1 then
 ((Zc N c1).bind fun o3 =>
 ((Zd4 N o3.1.1).bind fun o4 =>
 (some ((o4.1.1, ()), ((kind2, (o3.2.1, (o4.2.1, 0))), ())))))
 else
 (bif kind2 == 2 then
 (bif kind2 == 2 then
 ((Zc N c1).bind fun o5 =>
 ((Zc N o5.1.1).bind fun o6 =>
 ((Zc N o6.1.1).bind fun o7 =>
 (some ((o7.1.1, ()), ((kind2, (o5.2.1, (o6.2.1, o7.2.1))), ()))))))
 else
 (bif kind2 == 5 then
 ((Zc N c1).bind fun o8 =>
 ((Zaj N o8.1.1).bind fun o9 =>
 (some ((o9.1.1, ()), ((kind2, (o8.2.1, (o9.2.1, 0))), ())))))
 else
 (bif kind2 == 6 then
 ((Zaj N c1).bind fun o10 =>
 ((Zc N o10.1.1).bind fun o11 =>
 (some ((o11.1.1, ()), ((kind2, (o10.2.1, (o11.2.1, 0))), ())))))
 else
 (bif kind2 == 7 then
 ((Zc N c1).bind fun o12 =>
 ((Zf N o12.1.1 3).bind fun o13 =>
 (some ((o13.1.1, ()), ((kind2, (o12.2.1, (iadd .i64 1 o13.2.1, 0))), ())))))
 else
 (bif kind2 == 8 then
 (bif kind2 == 8 then
 ((Zc N c1).bind fun o14 =>
 (some ((o14.1.1, ()), ((kind2, (o14.2.1, (0, 0))), ()))))
 else
 (bif kind2 == 12 then
 ((Zj N c1).bind fun o15 =>
 ((Zc N o15.1.1).bind fun o16 =>
 ((Zc N o16.1.1).bind fun o17 =>
 (some ((o17.1.1, ()), ((kind2, (o15.2.1, (o16.2.1, o17.2.1))), ()))))))
 else
 (bif kind2 == 13 then
 ((Zc N c1).bind fun o18 =>
 ((Zj N o18.1.1).bind fun o19 =>
 (some ((o19.1.1, ()), ((kind2, (o18.2.1, (o19.2.1, 0))), ())))))
 else
 (bif kind2 == 14 then
 ((Zj N c1).bind fun o20 =>
 ((Zc N o20.1.1).bind fun o21 =>
 (some ((o21.1.1, ()), ((kind2, (o20.2.1, (o21.2.1, 0))), ())))))
 else
 (some ((c1, ()), ((kind2, (0, 0, 0)), ())))))))
 else
 (bif kind2 == 15 then
 (bif kind2 == 15 then
 ((Zc N c1).bind fun o22 =>
 (some ((o22.1.1, ()), ((kind2, (o22.2.1, (0, 0))), ()))))
 else
 (bif kind2 == 12 then
 ((Zj N c1).bind fun o23 =>
 ((Zc N o23.1.1).bind fun o24 =>
 ((Zc N o24.1.1).bind fun o25 =>
 (some ((o25.1.1, ()), ((kind2, (o23.2.1, (o24.2.1, o25.2.1))), ()))))))
 else
 (bif kind2 == 13 then
 ((Zc N c1).bind fun o26 =>
 ((Zj N o26.1.1).bind fun o27 =>
 (some ((o27.1.1, ()), ((kind2, (o26.2.1, (o27.2.1, 0))), ())))))
 else
 (bif kind2 == 14 then
 ((Zj N c1).bind fun o28 =>
 ((Zc N o28.1.1).bind fun o29 =>
 (some ((o29.1.1, ()), ((kind2, (o28.2.1, (o29.2.1, 0))), ())))))
 else
 (some ((c1, ()), ((kind2, (0, 0, 0)), ())))))))
 else
 (bif kind2 == 16 then
 ((Zc N c1).bind fun o30 =>
 (some ((o30.1.1, ()), ((kind2, (o30.2.1, (0, 0))), ()))))
 else
 (bif kind2 == 12 then
 ((Zj N c1).bind fun o31 =>
 ((Zc N o31.1.1).bind fun o32 =>
 ((Zc N o32.1.1).bind fun o33 =>
 (some ((o33.1.1, ()), ((kind2, (o31.2.1, (o32.2.1, o33.2.1))), ()))))))
 else
 (bif kind2 == 13 then
 ((Zc N c1).bind fun o34 =>
 ((Zj N o34.1.1).bind fun o35 =>
 (some ((o35.1.1, ()), ((kind2, (o34.2.1, (o35.2.1, 0))), ())))))
 else
 (bif kind2 == 14 then
 ((Zj N c1).bind fun o36 =>
 ((Zc N o36.1.1).bind fun o37 =>
 (some ((o37.1.1, ()), ((kind2, (o36.2.1, (o37.2.1, 0))), ())))))
 else
 (some ((c1, ()), ((kind2, (0, 0, 0)), ())))))))))))))
 else
 (bif kind2 == 3 then
 (bif kind2 == 3 then
 ((Zc N c1).bind fun o38 =>
 ((Zc N o38.1.1).bind fun o39 =>
 ((Zc N o39.1.1).bind fun o40 =>
 (some ((o40.1.1, ()), ((kind2, (o38.2.1, (o39.2.1, o40.2.1))), ()))))))
 else
 (bif kind2 == 5 then
 ((Zc N c1).bind fun o41 =>
 ((Zaj N o41.1.1).bind fun o42 =>
 (some ((o42.1.1, ()), ((kind2, (o41.2.1, (o42.2.1, 0))), ())))))
 else
 (bif kind2 == 6 then
 ((Zaj N c1).bind fun o43 =>
 ((Zc N o43.1.1).bind fun o44 =>
 (some ((o44.1.1, ()), ((kind2, (o43.2.1, (o44.2.1, 0))), ())))))
 else
 (bif kind2 == 7 then
 ((Zc N c1).bind fun o45 =>
 ((Zf N o45.1.1 3).bind fun o46 =>
 (some ((o46.1.1, ()), ((kind2, (o45.2.1, (iadd .i64 1 o46.2.1, 0))), ())))))
 else
 (bif kind2 == 8 then
 (bif kind2 == 8 then
 ((Zc N c1).bind fun o47 =>
 (some ((o47.1.1, ()), ((kind2, (o47.2.1, (0, 0))), ()))))
 else
 (bif kind2 == 12 then
 ((Zj N c1).bind fun o48 =>
 ((Zc N o48.1.1).bind fun o49 =>
 ((Zc N o49.1.1).bind fun o50 =>
 (some ((o50.1.1, ()), ((kind2, (o48.2.1, (o49.2.1, o50.2.1))), ()))))))
 else
 (bif kind2 == 13 then
 ((Zc N c1).bind fun o51 =>
 ((Zj N o51.1.1).bind fun o52 =>
 (some ((o52.1.1, ()), ((kind2, (o51.2.1, (o52.2.1, 0))), ())))))
 else
 (bif kind2 == 14 then
 ((Zj N c1).bind fun o53 =>
 ((Zc N o53.1.1).bind fun o54 =>
 (some ((o54.1.1, ()), ((kind2, (o53.2.1, (o54.2.1, 0))), ())))))
 else
 (some ((c1, ()), ((kind2, (0, 0, 0)), ())))))))
 else
 (bif kind2 == 15 then
 (bif kind2 == 15 then
 ((Zc N c1).bind fun o55 =>
 (some ((o55.1.1, ()), ((kind2, (o55.2.1, (0, 0))), ()))))
 else
 (bif kind2 == 12 then
 ((Zj N c1).bind fun o56 =>
 ((Zc N o56.1.1).bind fun o57 =>
 ((Zc N o57.1.1).bind fun o58 =>
 (some ((o58.1.1, ()), ((kind2, (o56.2.1, (o57.2.1, o58.2.1))), ()))))))
 else
 (bif kind2 == 13 then
 ((Zc N c1).bind fun o59 =>
 ((Zj N o59.1.1).bind fun o60 =>
 (some ((o60.1.1, ()), ((kind2, (o59.2.1, (o60.2.1, 0))), ())))))
 else
 (bif kind2 == 14 then
 ((Zj N c1).bind fun o61 =>
 ((Zc N o61.1.1).bind fun o62 =>
 (some ((o62.1.1, ()), ((kind2, (o61.2.1, (o62.2.1, 0))), ())))))
 else
 (some ((c1, ()), ((kind2, (0, 0, 0)), ())))))))
 else
 (bif kind2 == 16 then
 ((Zc N c1).bind fun o63 =>
 (some ((o63.1.1, ()), ((kind2, (o63.2.1, (0, 0))), ()))))
 else
 (bif kind2 == 12 then
 ((Zj N c1).bind fun o64 =>
 ((Zc N o64.1.1).bind fun o65 =>
 ((Zc N o65.1.1).bind fun o66 =>
 (some ((o66.1.1, ()), ((kind2, (o64.2.1, (o65.2.1, o66.2.1))), ()))))))
 else
 (bif kind2 == 13 then
 ((Zc N c1).bind fun o67 =>
 ((Zj N o67.1.1).bind fun o68 =>
 (some ((o68.1.1, ()), ((kind2, (o67.2.1, (o68.2.1, 0))), ())))))
 else
 (bif kind2 == 14 then
 ((Zj N c1).bind fun o69 =>
 ((Zc N o69.1.1).bind fun o70 =>
 (some ((o70.1.1, ()), ((kind2, (o69.2.1, (o70.2.1, 0))), ())))))
 else
 (some ((c1, ()), ((kind2, (0, 0, 0)), ())))))))))))))
 else
 (bif kind2 == 4 then
 ((Zc N c1).bind fun o71 =>
 ((Zc N o71.1.1).bind fun o72 =>
 ((Zc N o72.1.1).bind fun o73 =>
 (some ((o73.1.1, ()), ((kind2, (o71.2.1, (o72.2.1, o73.2.1))), ()))))))
 else
 (bif kind2 == 5 then
 ((Zc N c1).bind fun o74 =>
 ((Zaj N o74.1.1).bind fun o75 =>
 (some ((o75.1.1, ()), ((kind2, (o74.2.1, (o75.2.1, 0))), ())))))
 else
 (bif kind2 == 6 then
 ((Zaj N c1).bind fun o76 =>
 ((Zc N o76.1.1).bind fun o77 =>
 (some ((o77.1.1, ()), ((kind2, (o76.2.1, (o77.2.1, 0))), ())))))
 else
 (bif kind2 == 7 then
 ((Zc N c1).bind fun o78 =>
 ((Zf N o78.1.1 3).bind fun o79 =>
 (some ((o79.1.1, ()), ((kind2, (o78.2.1, (iadd .i64 1 o79.2.1, 0))), ())))))
 else
 (bif kind2 == 8 then
 (bif kind2 == 8 then
 ((Zc N c1).bind fun o80 =>
 (some ((o80.1.1, ()), ((kind2, (o80.2.1, (0, 0))), ()))))
 else
 (bif kind2 == 12 then
 ((Zj N c1).bind fun o81 =>
 ((Zc N o81.1.1).bind fun o82 =>
 ((Zc N o82.1.1).bind fun o83 =>
 (some ((o83.1.1, ()), ((kind2, (o81.2.1, (o82.2.1, o83.2.1))), ()))))))
 else
 (bif kind2 == 13 then
 ((Zc N c1).bind fun o84 =>
 ((Zj N o84.1.1).bind fun o85 =>
 (some ((o85.1.1, ()), ((kind2, (o84.2.1, (o85.2.1, 0))), ())))))
 else
 (bif kind2 == 14 then
 ((Zj N c1).bind fun o86 =>
 ((Zc N o86.1.1).bind fun o87 =>
 (some ((o87.1.1, ()), ((kind2, (o86.2.1, (o87.2.1, 0))), ())))))
 else
 (some ((c1, ()), ((kind2, (0, 0, 0)), ())))))))
 else
 (bif kind2 == 15 then
 (bif kind2 == 15 then
 ((Zc N c1).bind fun o88 =>
 (some ((o88.1.1, ()), ((kind2, (o88.2.1, (0, 0))), ()))))
 else
 (bif kind2 == 12 then
 ((Zj N c1).bind fun o89 =>
 ((Zc N o89.1.1).bind fun o90 =>
 ((Zc N o90.1.1).bind fun o91 =>
 (some ((o91.1.1, ()), ((kind2, (o89.2.1, (o90.2.1, o91.2.1))), ()))))))
 else
 (bif kind2 == 13 then
 ((Zc N c1).bind fun o92 =>
 ((Zj N o92.1.1).bind fun o93 =>
 (some ((o93.1.1, ()), ((kind2, (o92.2.1, (o93.2.1, 0))), ())))))
 else
 (bif kind2 == 14 then
 ((Zj N c1).bind fun o94 =>
 ((Zc N o94.1.1).bind fun o95 =>
 (some ((o95.1.1, ()), ((kind2, (o94.2.1, (o95.2.1, 0))), ())))))
 else
 (some ((c1, ()), ((kind2, (0, 0, 0)), ())))))))
 else
 (bif kind2 == 16 then
 ((Zc N c1).bind fun o96 =>
 (some ((o96.1.1, ()), ((kind2, (o96.2.1, (0, 0))), ()))))
 else
 (bif kind2 == 12 then
 ((Zj N c1).bind fun o97 =>
 ((Zc N o97.1.1).bind fun o98 =>
 ((Zc N o98.1.1).bind fun o99 =>
 (some ((o99.1.1, ()), ((kind2, (o97.2.1, (o98.2.1, o99.2.1))), ()))))))
 else
 (bif kind2 == 13 then
 ((Zc N c1).bind fun o100 =>
 ((Zj N o100.1.1).bind fun o101 =>
 (some ((o101.1.1, ()), ((kind2, (o100.2.1, (o101.2.1, 0))), ())))))
 else
 (bif kind2 == 14 then
 ((Zj N c1).bind fun o102 =>
 ((Zc N o102.1.1).bind fun o103 =>
 (some ((o103.1.1, ()), ((kind2, (o102.2.1, (o103.2.1, 0))), ())))))
 else
 (some ((c1, ()), ((kind2, (0, 0, 0)), ()))))))))))))))))
noncomputable def Zg {R : Type} (N : Nat) (rec : (List Int × Int × Int) → Int → Int → Bool → Option (((List Int × Int × Int) × Unit) × ((List (Int × Int × Int × Int)) × Unit))) (most6 : Int) (deep7 : Int) (kid8 : Bool) (K0 : Int → Bool → (List Int × Int × Int) → (List (Int × Int × Int × Int)) → Option R) : Nat → Int → (List Int × Int × Int) → (List (Int × Int × Int × Int)) → Option R
  | 0, _, _, _ => none
  | n + 1, n9, b10, l11 =>
    (bif decide (n9 > 0) then
 (bif decide ((ilen l11) < most6) then
 ((Zf N b10 20).bind fun o84 =>
 (bif decide (o84.2.1 < 5) then
 ((Zi N o84.1.1 5).bind fun o85 =>
 (bif room ((List.length l11) + (List.length ([o85.2.1]))) then
 (Zg N rec most6 deep7 kid8 K0 n (isub .i64 n9 1) o85.1.1 (List.append l11 ([o85.2.1]))) else none))
 else
 (bif decide (o84.2.1 < 10) then
 ((Zi N o84.1.1 6).bind fun o86 =>
 (bif room ((List.length l11) + (List.length ([o86.2.1]))) then
 (Zg N rec most6 deep7 kid8 K0 n (isub .i64 n9 1) o86.1.1 (List.append l11 ([o86.2.1]))) else none))
 else
 (bif decide (o84.2.1 < 12) then
 ((Zf N o84.1.1 4).bind fun o87 =>
 ((Zi N o87.1.1 (iadd .i64 1 o87.2.1)).bind fun o88 =>
 (bif room ((List.length l11) + (List.length ([o88.2.1]))) then
 (Zg N rec most6 deep7 kid8 K0 n (isub .i64 n9 1) o88.1.1 (List.append l11 ([o88.2.1]))) else none)))
 else
 (bif o84.2.1 == 12 then
 (bif decide (deep7 > 0) then
 (bif decide ((isub .i64 most6 (ilen l11)) ≥ 4) then
 ((rec o84.1.1 (isub .i64 (isub .i64 most6 (ilen l11)) 3) (isub .i64 deep7 1) kid8).bind fun o89 =>
 ((Zi N o89.1.1 8).bind fun o90 =>
 (bif room ((List.length l11) + (List.length ([o90.2.1]))) then
 (bif room ((List.length (List.append l11 ([o90.2.1]))) + (List.length o89.2.1)) then
 ((Zv N o90.1.1 3).bind fun o91 =>
 (bif o91.2.1 then
 (bif room ((List.length (List.append (List.append l11 ([o90.2.1])) o89.2.1)) + (List.length ([((10 : Int), ((0 : Int), ((0 : Int), (0 : Int))))]))) then
 (bif room ((List.length (List.append (List.append (List.append l11 ([o90.2.1])) o89.2.1) ([(10, (0, 0, 0))]))) + (List.length ([((9 : Int), ((0 : Int), ((0 : Int), (0 : Int))))]))) then
 (Zg N rec most6 deep7 kid8 K0 n (isub .i64 n9 1) o91.1.1 (List.append (List.append (List.append (List.append l11 ([o90.2.1])) o89.2.1) ([(10, (0, 0, 0))])) ([(9, (0, 0, 0))]))) else none) else none)
 else
 (bif room ((List.length (List.append (List.append l11 ([o90.2.1])) o89.2.1)) + (List.length ([((9 : Int), ((0 : Int), ((0 : Int), (0 : Int))))]))) then
 (Zg N rec most6 deep7 kid8 K0 n (isub .i64 n9 1) o91.1.1 (List.append (List.append (List.append l11 ([o90.2.1])) o89.2.1) ([(9, (0, 0, 0))]))) else none))) else none) else none)))
 else
 (bif o84.2.1 == 13 then
 (bif decide ((isub .i64 most6 (ilen l11)) ≥ 3) then
 ((rec o84.1.1 2 0 kid8).bind fun o92 =>
 ((Zi N o92.1.1 7).bind fun o93 =>
 (bif room ((List.length l11) + (List.length ([(o93.2.1.1, (o93.2.1.2.1, (ilen o92.2.1, o93.2.1.2.2.2)))]))) then
 (bif room ((List.length (List.append l11 ([(o93.2.1.1, (o93.2.1.2.1, (ilen o92.2.1, o93.2.1.2.2.2)))]))) + (List.length o92.2.1)) then
 (Zg N rec most6 deep7 kid8 K0 n (isub .i64 n9 1) o93.1.1 (List.append (List.append l11 ([(o93.2.1.1, (o93.2.1.2.1, (ilen o92.2.1, o93.2.1.2.2.2)))])) o92.2.1)) else none) else none)))
 else
 (bif o84.2.1 == 14 then
 ((Zv N o84.1.1 6).bind fun o94 =>
 (bif o94.2.1 then
 (bif room ((List.length l11) + (List.length ([((10 : Int), ((0 : Int), ((0 : Int), (0 : Int))))]))) then
 (Zg N rec most6 deep7 kid8 K0 n (isub .i64 n9 1) o94.1.1 (List.append l11 ([(10, (0, 0, 0))]))) else none)
 else
 (bif kid8 then
 ((Zf N o94.1.1 3).bind fun o95 =>
 ((Zi N o95.1.1 (iadd .i64 1 o95.2.1)).bind fun o96 =>
 (bif room ((List.length l11) + (List.length ([o96.2.1]))) then
 (Zg N rec most6 deep7 kid8 K0 n (isub .i64 n9 1) o96.1.1 (List.append l11 ([o96.2.1]))) else none)))
 else
 ((Zf N o94.1.1 5).bind fun o97 =>
 ((Zi N o97.1.1 (iadd .i64 12 o97.2.1)).bind fun o98 =>
 (bif room ((List.length l11) + (List.length ([o98.2.1]))) then
 (Zg N rec most6 deep7 kid8 K0 n (isub .i64 n9 1) o98.1.1 (List.append l11 ([o98.2.1]))) else none))))))
 else
 (bif kid8 then
 ((Zf N o84.1.1 3).bind fun o99 =>
 ((Zi N o99.1.1 (iadd .i64 1 o99.2.1)).bind fun o100 =>
 (bif room ((List.length l11) + (List.length ([o100.2.1]))) then
 (Zg N rec most6 deep7 kid8 K0 n (isub .i64 n9 1) o100.1.1 (List.append l11 ([o100.2.1]))) else none)))
 else
 ((Zf N o84.1.1 5).bind fun o101 =>
 ((Zi N o101.1.1 (iadd .i64 12 o101.2.1)).bind fun o102 =>
 (bif room ((List.length l11) + (List.length ([o102.2.1]))) then
 (Zg N rec most6 deep7 kid8 K0 n (isub .i64 n9 1) o102.1.1 (List.append l11 ([o102.2.1]))) else none))))))
 else
 (bif o84.2.1 == 14 then
 ((Zv N o84.1.1 6).bind fun o103 =>
 (bif o103.2.1 then
 (bif room ((List.length l11) + (List.length ([((10 : Int), ((0 : Int), ((0 : Int), (0 : Int))))]))) then
 (Zg N rec most6 deep7 kid8 K0 n (isub .i64 n9 1) o103.1.1 (List.append l11 ([(10, (0, 0, 0))]))) else none)
 else
 (bif kid8 then
 ((Zf N o103.1.1 3).bind fun o104 =>
 ((Zi N o104.1.1 (iadd .i64 1 o104.2.1)).bind fun o105 =>
 (bif room ((List.length l11) + (List.length ([o105.2.1]))) then
 (Zg N rec most6 deep7 kid8 K0 n (isub .i64 n9 1) o105.1.1 (List.append l11 ([o105.2.1]))) else none)))
 else
 ((Zf N o103.1.1 5).bind fun o106 =>
 ((Zi N o106.1.1 (iadd .i64 12 o106.2.1)).bind fun o107 =>
 (bif room ((List.length l11) + (List.length ([o107.2.1]))) then
 (Zg N rec most6 deep7 kid8 K0 n (isub .i64 n9 1) o107.1.1 (List.append l11 ([o107.2.1]))) else none))))))
 else
 (bif kid8 then
 ((Zf N o84.1.1 3).bind fun o108 =>
 ((Zi N o108.1.1 (iadd .i64 1 o108.2.1)).bind fun o109 =>
 (bif room ((List.length l11) + (List.length ([o109.2.1]))) then
 (Zg N rec most6 deep7 kid8 K0 n (isub .i64 n9 1) o109.1.1 (List.append l11 ([o109.2.1]))) else none)))
 else
 ((Zf N o84.1.1 5).bind fun o110 =>
 ((Zi N o110.1.1 (iadd .i64 12 o110.2.1)).bind fun o111 =>
 (bif room ((List.length l11) + (List.length ([o111.2.1]))) then
 (Zg N rec most6 deep7 kid8 K0 n (isub .i64 n9 1) o111.1.1 (List.append l11 ([o111.2.1]))) else none)))))))
 else
 (bif o84.2.1 == 13 then
 (bif decide ((isub .i64 most6 (ilen l11)) ≥ 3) then
 ((rec o84.1.1 2 0 kid8).bind fun o112 =>
 ((Zi N o112.1.1 7).bind fun o113 =>
 (bif room ((List.length l11) + (List.length ([(o113.2.1.1, (o113.2.1.2.1, (ilen o112.2.1, o113.2.1.2.2.2)))]))) then
 (bif room ((List.length (List.append l11 ([(o113.2.1.1, (o113.2.1.2.1, (ilen o112.2.1, o113.2.1.2.2.2)))]))) + (List.length o112.2.1)) then
 (Zg N rec most6 deep7 kid8 K0 n (isub .i64 n9 1) o113.1.1 (List.append (List.append l11 ([(o113.2.1.1, (o113.2.1.2.1, (ilen o112.2.1, o113.2.1.2.2.2)))])) o112.2.1)) else none) else none)))
 else
 (bif o84.2.1 == 14 then
 ((Zv N o84.1.1 6).bind fun o114 =>
 (bif o114.2.1 then
 (bif room ((List.length l11) + (List.length ([((10 : Int), ((0 : Int), ((0 : Int), (0 : Int))))]))) then
 (Zg N rec most6 deep7 kid8 K0 n (isub .i64 n9 1) o114.1.1 (List.append l11 ([(10, (0, 0, 0))]))) else none)
 else
 (bif kid8 then
 ((Zf N o114.1.1 3).bind fun o115 =>
 ((Zi N o115.1.1 (iadd .i64 1 o115.2.1)).bind fun o116 =>
 (bif room ((List.length l11) + (List.length ([o116.2.1]))) then
 (Zg N rec most6 deep7 kid8 K0 n (isub .i64 n9 1) o116.1.1 (List.append l11 ([o116.2.1]))) else none)))
 else
 ((Zf N o114.1.1 5).bind fun o117 =>
 ((Zi N o117.1.1 (iadd .i64 12 o117.2.1)).bind fun o118 =>
 (bif room ((List.length l11) + (List.length ([o118.2.1]))) then
 (Zg N rec most6 deep7 kid8 K0 n (isub .i64 n9 1) o118.1.1 (List.append l11 ([o118.2.1]))) else none))))))
 else
 (bif kid8 then
 ((Zf N o84.1.1 3).bind fun o119 =>
 ((Zi N o119.1.1 (iadd .i64 1 o119.2.1)).bind fun o120 =>
 (bif room ((List.length l11) + (List.length ([o120.2.1]))) then
 (Zg N rec most6 deep7 kid8 K0 n (isub .i64 n9 1) o120.1.1 (List.append l11 ([o120.2.1]))) else none)))
 else
 ((Zf N o84.1.1 5).bind fun o121 =>
 ((Zi N o121.1.1 (iadd .i64 12 o121.2.1)).bind fun o122 =>
 (bif room ((List.length l11) + (List.length ([o122.2.1]))) then
 (Zg N rec most6 deep7 kid8 K0 n (isub .i64 n9 1) o122.1.1 (List.append l11 ([o122.2.1]))) else none))))))
 else
 (bif o84.2.1 == 14 then
 ((Zv N o84.1.1 6).bind fun o123 =>
 (bif o123.2.1 then
 (bif room ((List.length l11) + (List.length ([((10 : Int), ((0 : Int), ((0 : Int), (0 : Int))))]))) then
 (Zg N rec most6 deep7 kid8 K0 n (isub .i64 n9 1) o123.1.1 (List.append l11 ([(10, (0, 0, 0))]))) else none)
 else
 (bif kid8 then
 ((Zf N o123.1.1 3).bind fun o124 =>
 ((Zi N o124.1.1 (iadd .i64 1 o124.2.1)).bind fun o125 =>
 (bif room ((List.length l11) + (List.length ([o125.2.1]))) then
 (Zg N rec most6 deep7 kid8 K0 n (isub .i64 n9 1) o125.1.1 (List.append l11 ([o125.2.1]))) else none)))
 else
 ((Zf N o123.1.1 5).bind fun o126 =>
 ((Zi N o126.1.1 (iadd .i64 12 o126.2.1)).bind fun o127 =>
 (bif room ((List.length l11) + (List.length ([o127.2.1]))) then
 (Zg N rec most6 deep7 kid8 K0 n (isub .i64 n9 1) o127.1.1 (List.append l11 ([o127.2.1]))) else none))))))
 else
 (bif kid8 then
 ((Zf N o84.1.1 3).bind fun o128 =>
 ((Zi N o128.1.1 (iadd .i64 1 o128.2.1)).bind fun o129 =>
 (bif room ((List.length l11) + (List.length ([o129.2.1]))) then
 (Zg N rec most6 deep7 kid8 K0 n (isub .i64 n9 1) o129.1.1 (List.append l11 ([o129.2.1]))) else none)))
 else
 ((Zf N o84.1.1 5).bind fun o130 =>
 ((Zi N o130.1.1 (iadd .i64 12 o130.2.1)).bind fun o131 =>
 (bif room ((List.length l11) + (List.length ([o131.2.1]))) then
 (Zg N rec most6 deep7 kid8 K0 n (isub .i64 n9 1) o131.1.1 (List.append l11 ([o131.2.1]))) else none)))))))
 else
 (bif o84.2.1 == 13 then
 (bif decide ((isub .i64 most6 (ilen l11)) ≥ 3) then
 ((rec o84.1.1 2 0 kid8).bind fun o132 =>
 ((Zi N o132.1.1 7).bind fun o133 =>
 (bif room ((List.length l11) + (List.length ([(o133.2.1.1, (o133.2.1.2.1, (ilen o132.2.1, o133.2.1.2.2.2)))]))) then
 (bif room ((List.length (List.append l11 ([(o133.2.1.1, (o133.2.1.2.1, (ilen o132.2.1, o133.2.1.2.2.2)))]))) + (List.length o132.2.1)) then
 (Zg N rec most6 deep7 kid8 K0 n (isub .i64 n9 1) o133.1.1 (List.append (List.append l11 ([(o133.2.1.1, (o133.2.1.2.1, (ilen o132.2.1, o133.2.1.2.2.2)))])) o132.2.1)) else none) else none)))
 else
 (bif o84.2.1 == 14 then
 ((Zv N o84.1.1 6).bind fun o134 =>
 (bif o134.2.1 then
 (bif room ((List.length l11) + (List.length ([((10 : Int), ((0 : Int), ((0 : Int), (0 : Int))))]))) then
 (Zg N rec most6 deep7 kid8 K0 n (isub .i64 n9 1) o134.1.1 (List.append l11 ([(10, (0, 0, 0))]))) else none)
 else
 (bif kid8 then
 ((Zf N o134.1.1 3).bind fun o135 =>
 ((Zi N o135.1.1 (iadd .i64 1 o135.2.1)).bind fun o136 =>
 (bif room ((List.length l11) + (List.length ([o136.2.1]))) then
 (Zg N rec most6 deep7 kid8 K0 n (isub .i64 n9 1) o136.1.1 (List.append l11 ([o136.2.1]))) else none)))
 else
 ((Zf N o134.1.1 5).bind fun o137 =>
 ((Zi N o137.1.1 (iadd .i64 12 o137.2.1)).bind fun o138 =>
 (bif room ((List.length l11) + (List.length ([o138.2.1]))) then
 (Zg N rec most6 deep7 kid8 K0 n (isub .i64 n9 1) o138.1.1 (List.append l11 ([o138.2.1]))) else none))))))
 else
 (bif kid8 then
 ((Zf N o84.1.1 3).bind fun o139 =>
 ((Zi N o139.1.1 (iadd .i64 1 o139.2.1)).bind fun o140 =>
 (bif room ((List.length l11) + (List.length ([o140.2.1]))) then
 (Zg N rec most6 deep7 kid8 K0 n (isub .i64 n9 1) o140.1.1 (List.append l11 ([o140.2.1]))) else none)))
 else
 ((Zf N o84.1.1 5).bind fun o141 =>
 ((Zi N o141.1.1 (iadd .i64 12 o141.2.1)).bind fun o142 =>
 (bif room ((List.length l11) + (List.length ([o142.2.1]))) then
 (Zg N rec most6 deep7 kid8 K0 n (isub .i64 n9 1) o142.1.1 (List.append l11 ([o142.2.1]))) else none))))))
 else
 (bif o84.2.1 == 14 then
 ((Zv N o84.1.1 6).bind fun o143 =>
 (bif o143.2.1 then
 (bif room ((List.length l11) + (List.length ([((10 : Int), ((0 : Int), ((0 : Int), (0 : Int))))]))) then
 (Zg N rec most6 deep7 kid8 K0 n (isub .i64 n9 1) o143.1.1 (List.append l11 ([(10, (0, 0, 0))]))) else none)
 else
 (bif kid8 then
 ((Zf N o143.1.1 3).bind fun o144 =>
 ((Zi N o144.1.1 (iadd .i64 1 o144.2.1)).bind fun o145 =>
 (bif room ((List.length l11) + (List.length ([o145.2.1]))) then
 (Zg N rec most6 deep7 kid8 K0 n (isub .i64 n9 1) o145.1.1 (List.append l11 ([o145.2.1]))) else none)))
 else
 ((Zf N o143.1.1 5).bind fun o146 =>
 ((Zi N o146.1.1 (iadd .i64 12 o146.2.1)).bind fun o147 =>
 (bif room ((List.length l11) + (List.length ([o147.2.1]))) then
 (Zg N rec most6 deep7 kid8 K0 n (isub .i64 n9 1) o147.1.1 (List.append l11 ([o147.2.1]))) else none))))))
 else
 (bif kid8 then
 ((Zf N o84.1.1 3).bind fun o148 =>
 ((Zi N o148.1.1 (iadd .i64 1 o148.2.1)).bind fun o149 =>
 (bif room ((List.length l11) + (List.length ([o149.2.1]))) then
 (Zg N rec most6 deep7 kid8 K0 n (isub .i64 n9 1) o149.1.1 (List.append l11 ([o149.2.1]))) else none)))
 else
 ((Zf N o84.1.1 5).bind fun o150 =>
 ((Zi N o150.1.1 (iadd .i64 12 o150.2.1)).bind fun o151 =>
 (bif room ((List.length l11) + (List.length ([o151.2.1]))) then
 (Zg N rec most6 deep7 kid8 K0 n (isub .i64 n9 1) o151.1.1 (List.append l11 ([o151.2.1]))) else none)))))))))))
 else
 (K0 n9 (decide ((ilen l11) < most6)) b10 l11))
 else
 (K0 n9 false b10 l11))
noncomputable def Zbg (N : Nat) : Nat → (List Int × Int × Int) → Int → Int → Bool → Option (((List Int × Int × Int) × Unit) × ((List (Int × Int × Int × Int)) × Unit))
  | 0, _, _, _, _ => none
  | m + 1, c1, most2, deep3, kid4 =>
    ((Zf N c1 most2).bind fun o5 =>
 (Zg N (Zbg N m) most2 deep3 kid4
 (fun n152 t153 b154 l155 =>
   (some ((b154, ()), (l155, ()))))
  N (iadd .i64 1 o5.2.1) o5.1.1 ([] : List (Int × Int × Int × Int))))
noncomputable def Zdu (N : Nat) (c1 : List Int × Int × Int) (most2 : Int) (deep3 : Int) (kid4 : Bool) : Option (((List Int × Int × Int) × Unit) × ((List (Int × Int × Int × Int)) × Unit)) := Zbg N N c1 most2 deep3 kid4
noncomputable def Zgy (N : Nat) (c1 : List Int × Int × Int) : Option (((List Int × Int × Int) × Unit) × ((List (Int × Int × Int × Int)) × Unit)) :=
    ((Zdu N c1 3 1 true).bind fun o2 =>
 ((Zv N o2.1.1 3).bind fun o3 =>
 (bif o3.2.1 then
 (some ((o3.1.1, ()), (o2.2.1, ())))
 else
 ((Zaj N o3.1.1).bind fun o4 =>
 ((Zc N o4.1.1).bind fun o5 =>
 (bif inz 4 then
 ((Zf N o5.1.1 3).bind fun o6 =>
 (bif inz 4 then
 (bif room ((List.length ([((5 : Int), (o5.2.1, (o4.2.1, (0 : Int)))), ((1 : Int), (irem (iadd .i64 o5.2.1 (1 : Int)) (4 : Int), (iadd .i64 (1 : Int) o6.2.1, (0 : Int)))), ((4 : Int), (o5.2.1, (o5.2.1, irem (iadd .i64 o5.2.1 (1 : Int)) (4 : Int)))), ((7 : Int), (o5.2.1, ((1 : Int), (0 : Int)))), ((10 : Int), ((0 : Int), ((0 : Int), (0 : Int))))])) + (List.length o2.2.1)) then
 (some ((o6.1.1, ()), (List.append ([(5, (o5.2.1, (o4.2.1, 0))), (1, (irem (iadd .i64 o5.2.1 1) 4, (iadd .i64 1 o6.2.1, 0))), (4, (o5.2.1, (o5.2.1, irem (iadd .i64 o5.2.1 1) 4))), (7, (o5.2.1, (1, 0))), (10, (0, 0, 0))]) o2.2.1, ()))) else none) else none)) else none))))))
noncomputable def Zbu {R : Type} (N : Nat) (K0 : Int → Bool → (List Int × Int × Int) → (List (List (Int × Int × Int × Int))) → Option R) : Nat → Int → (List Int × Int × Int) → (List (List (Int × Int × Int × Int))) → Option R
  | 0, _, _, _ => none
  | n + 1, n3, b4, l5 =>
    (bif decide (n3 > 0) then
 ((Zgy N b4).bind fun o11 =>
 (bif room ((List.length l5) + (List.length ([o11.2.1]))) then
 (Zbu N K0 n (isub .i64 n3 1) o11.1.1 (List.append l5 ([o11.2.1]))) else none))
 else
 (K0 n3 (decide (n3 > 0)) b4 l5))
noncomputable def Zdl (N : Nat) (c1 : List Int × Int × Int) : Option (((List Int × Int × Int) × Unit) × ((List (List (Int × Int × Int × Int))) × Unit)) :=
    ((Zf N c1 4).bind fun o2 =>
 (Zbu N
 (fun n12 t13 b14 l15 =>
   (some ((b14, ()), (l15, ()))))
  N o2.2.1 o2.1.1 ([] : List (List (Int × Int × Int × Int)))))
noncomputable def Zb2 {R : Type} (N : Nat) (l9 : List (List (Int × Int × Int × Int))) (l10 : List Int) (K0 : Int → Bool → (List Int × Int × Int) → (List Int) → Option R) : Nat → Int → (List Int × Int × Int) → (List Int) → Option R
  | 0, _, _, _ => none
  | n + 1, i7, b8, l11 =>
    (bif decide (i7 < (ilen l11)) then
 ((Zv N b8 2).bind fun o17 =>
 (bif o17.2.1 then
 (bif inb i7 (List.length l11) then
 (Zb2 N l9 l10 K0 n (iadd .i64 i7 1) o17.1.1 (List.set l11 (Int.toNat i7) 0)) else none)
 else
 (Zb2 N l9 l10 K0 n (iadd .i64 i7 1) o17.1.1 l11)))
 else
 (K0 i7 (decide (i7 < (ilen l11))) b8 l11))
noncomputable def Zb3 {R : Type} (N : Nat) (l25 : List Int) (l26 : List Int) (K0 : Bool → (List Int × Int × Int) → (List (List (Int × Int × Int × Int))) → Option R) : Nat → (List Int × Int × Int) → (List (List (Int × Int × Int × Int))) → Option R
  | 0, _, _ => none
  | n + 1, b23, l24 =>
    ((Zf N b23 2).bind fun o31 =>
 (bif decide ((ilen l24) < (iadd .i64 4 o31.2.1)) then
 (bif room ((List.length l24) + (List.length ([([] : List (Int × Int × Int × Int))]))) then
 (Zb3 N l25 l26 K0 n o31.1.1 (List.append l24 ([([] : List (Int × Int × Int × Int))]))) else none)
 else
 (K0 (decide ((ilen l24) < (iadd .i64 4 o31.2.1))) o31.1.1 l24)))
noncomputable def Zbw (N : Nat) (c1 : List Int × Int × Int) : Option (((List Int × Int × Int) × Unit) × ((List (List (Int × Int × Int × Int))) × ((List Int) × ((List Int) × Unit)))) :=
    ((Zdl N c1).bind fun o2 =>
 ((Zf N o2.1.1 3).bind fun o3 =>
 ((Zd4 N o3.1.1).bind fun o4 =>
 ((Zf N o4.1.1 2).bind fun o5 =>
 ((Zbh N o5.1.1).bind fun o6 =>
 (Zb2 N o2.2.1 ([o3.2.1, 0, o4.2.1, o5.2.1])
 (fun i18 t19 b20 l21 =>
   ((Zf N b20 24).bind fun o22 =>
 (bif o22.2.1 == 0 then
 (bif (decide ((0 : Int) ≤ 1)) && (decide ((1 : Int) ≤ ((List.length ([o3.2.1, (0 : Int), o4.2.1, o5.2.1])) : Int))) then
 (some ((o22.1.1, ()), (o2.2.1, (List.take (Int.toNat 1) ([o3.2.1, 0, o4.2.1, o5.2.1]), (l21, ()))))) else none)
 else
 (bif o22.2.1 == 1 then
 (bif (decide ((0 : Int) ≤ 1)) && (decide ((1 : Int) ≤ ((List.length l21) : Int))) then
 (some ((o22.1.1, ()), (o2.2.1, ([o3.2.1, 0, o4.2.1, o5.2.1], (List.take (Int.toNat 1) l21, ()))))) else none)
 else
 (bif o22.2.1 == 2 then
 (Zb3 N ([o3.2.1, 0, o4.2.1, o5.2.1]) l21
 (fun t32 b33 l34 =>
   (some ((b33, ()), (l34, ([o3.2.1, 0, o4.2.1, o5.2.1], (l21, ()))))))
  N o22.1.1 o2.2.1)
 else
 (bif o22.2.1 == 3 then
 (bif room ((List.length o2.2.1) + (List.length ([([((11 : Int), ((0 : Int), ((0 : Int), (0 : Int))))])]))) then
 (some ((o22.1.1, ()), (List.append o2.2.1 ([([(11, (0, 0, 0))])]), ([o3.2.1, 0, o4.2.1, o5.2.1], (l21, ()))))) else none)
 else
 (some ((o22.1.1, ()), (o2.2.1, ([o3.2.1, 0, o4.2.1, o5.2.1], (l21, ())))))))))))
  N 0 o6.1.1 o6.2.1))))))
noncomputable def Zez {R : Type} (N : Nat) (l12 : List (Int × Int × Int × Int)) (K0 : Int → Bool → (List Int × Int × Int) → (List (List (Int × Int × Int × Int))) → Option R) : Nat → Int → (List Int × Int × Int) → (List (List (Int × Int × Int × Int))) → Option R
  | 0, _, _, _ => none
  | n + 1, n10, b11, l13 =>
    (bif decide (n10 > 0) then
 ((Zf N b11 5).bind fun o20 =>
 ((Zdu N o20.1.1 (iadd .i64 2 o20.2.1) 1 true).bind fun o21 =>
 (bif room ((List.length l13) + (List.length ([o21.2.1]))) then
 (Zez N l12 K0 n (isub .i64 n10 1) o21.1.1 (List.append l13 ([o21.2.1]))) else none)))
 else
 (K0 n10 (decide (n10 > 0)) b11 l13))
noncomputable def Zjd (N : Nat) (c1 : List Int × Int × Int) (forks2 : Bool) : Option (((List Int × Int × Int) × Unit) × ((List (Int × Int × Int × Int) × List (List (Int × Int × Int × Int))) × Unit)) :=
    (bif !forks2 then
 ((Zf N c1 8).bind fun o3 =>
 ((Zdu N o3.1.1 (iadd .i64 3 o3.2.1) 2 false).bind fun o4 =>
 (some ((o4.1.1, ()), ((o4.2.1, ([] : List (List (Int × Int × Int × Int)))), ())))))
 else
 ((Zf N c1 4).bind fun o5 =>
 ((Zdu N o5.1.1 (iadd .i64 1 o5.2.1) 1 false).bind fun o6 =>
 ((Zf N o6.1.1 4).bind fun o7 =>
 ((Zdu N o7.1.1 (iadd .i64 1 o7.2.1) 1 false).bind fun o8 =>
 (bif room ((List.length o6.2.1) + (List.length ([((11 : Int), ((0 : Int), ((0 : Int), (0 : Int))))]))) then
 (bif room ((List.length (List.append o6.2.1 ([(11, (0, 0, 0))]))) + (List.length o8.2.1)) then
 ((Zf N o8.1.1 3).bind fun o9 =>
 (Zez N (List.append (List.append o6.2.1 ([(11, (0, 0, 0))])) o8.2.1)
 (fun n22 t23 b24 l25 =>
   (some ((b24, ()), ((List.append (List.append o6.2.1 ([(11, (0, 0, 0))])) o8.2.1, l25), ()))))
  N (iadd .i64 1 o9.2.1) o9.1.1 ([] : List (List (Int × Int × Int × Int))))) else none) else none))))))
noncomputable def Zjp (N : Nat) (c1 : List Int × Int × Int) : Option (((List Int × Int × Int) × Unit) × ((Int × Int × Int × Int) × Unit)) :=
    ((Zf N c1 16).bind fun o2 =>
 ((Zi N o2.1.1 (iadd .i64 1 o2.2.1)).bind fun o3 =>
 ((Zf N o3.1.1 16).bind fun o4 =>
 (bif o4.2.1 == 0 then
 ((Zav N o4.1.1 ([(-1 : Int), 4, 8])).bind fun o5 =>
 (some ((o5.1.1, ()), ((o3.2.1.1, (o5.2.1, o3.2.1.2.2)), ()))))
 else
 (bif o4.2.1 == 1 then
 ((Zav N o4.1.1 ([(-1 : Int), 4, 8, 65536, 21])).bind fun o6 =>
 (some ((o6.1.1, ()), ((o3.2.1.1, (o3.2.1.2.1, (o6.2.1, o3.2.1.2.2.2))), ()))))
 else
 (bif o4.2.1 == 2 then
 ((Zav N o4.1.1 ([(-1 : Int), 4, 1])).bind fun o7 =>
 (some ((o7.1.1, ()), ((o3.2.1.1, (o3.2.1.2.1, (o3.2.1.2.2.1, o7.2.1))), ()))))
 else
 (bif o4.2.1 == 3 then
 ((Zav N o4.1.1 ([0, 17, (-3 : Int)])).bind fun o8 =>
 (some ((o8.1.1, ()), ((o8.2.1, o3.2.1.2), ()))))
 else
 (some ((o4.1.1, ()), (o3.2.1, ()))))))))))
noncomputable def Ze0 {R : Type} (N : Nat) (K0 : Bool → (List Int × Int × Int) → (List (Int × Int × Int × Int)) → Option R) : Nat → (List Int × Int × Int) → (List (Int × Int × Int × Int)) → Option R
  | 0, _, _ => none
  | n + 1, b6, l7 =>
    ((Zf N b6 2).bind fun o12 =>
 (bif decide ((ilen l7) < (iadd .i64 24 o12.2.1)) then
 (bif room ((List.length l7) + (List.length ([((1 : Int), ((0 : Int), ((0 : Int), (0 : Int))))]))) then
 (Ze0 N K0 n o12.1.1 (List.append l7 ([(1, (0, 0, 0))]))) else none)
 else
 (K0 (decide ((ilen l7) < (iadd .i64 24 o12.2.1))) o12.1.1 l7)))
noncomputable def Zje (N : Nat) (c1 : List Int × Int × Int) (code2 : List (Int × Int × Int × Int)) : Option (((List Int × Int × Int) × Unit) × ((List (Int × Int × Int × Int)) × Unit)) :=
    (bif room ((List.length ([] : List (Int × Int × Int × Int))) + (List.length code2)) then
 (bif (ilen (List.append ([] : List (Int × Int × Int × Int)) code2)) == 0 then
 (some ((c1, ()), ([(9, (0, 0, 0))], ())))
 else
 ((Zf N c1 (ilen (List.append ([] : List (Int × Int × Int × Int)) code2))).bind fun o3 =>
 ((Zf N o3.1.1 6).bind fun o4 =>
 (bif o4.2.1 == 0 then
 ((Zjp N o4.1.1).bind fun o5 =>
 (bif inb o3.2.1 (List.length (List.append ([] : List (Int × Int × Int × Int)) code2)) then
 (some ((o5.1.1, ()), (List.set (List.append ([] : List (Int × Int × Int × Int)) code2) (Int.toNat o3.2.1) o5.2.1, ()))) else none))
 else
 (bif o4.2.1 == 1 then
 (bif inb o3.2.1 (List.length (List.append ([] : List (Int × Int × Int × Int)) code2)) then
 (some ((o4.1.1, ()), (List.set (List.append ([] : List (Int × Int × Int × Int)) code2) (Int.toNat o3.2.1) (11, (0, 0, 0)), ()))) else none)
 else
 (bif o4.2.1 == 2 then
 (both
 (bif (decide ((0 : Int) ≤ o3.2.1)) && (decide (o3.2.1 ≤ ((List.length (List.append ([] : List (Int × Int × Int × Int)) code2)) : Int))) then
 (bif (decide ((0 : Int) ≤ (iadd .i64 o3.2.1 1))) && (decide ((iadd .i64 o3.2.1 1) ≤ ((List.length (List.append ([] : List (Int × Int × Int × Int)) code2)) : Int))) then
 (bif room ((Int.toNat o3.2.1) + (List.length (List.drop (Int.toNat (iadd .i64 o3.2.1 1)) (List.take (List.length (List.append ([] : List (Int × Int × Int × Int)) code2)) (List.append ([] : List (Int × Int × Int × Int)) code2))))) then
 (some ((o4.1.1, ()), (List.append (List.take (Int.toNat o3.2.1) (List.append ([] : List (Int × Int × Int × Int)) code2)) (List.drop (Int.toNat (iadd .i64 o3.2.1 1)) (List.take (List.length (List.append ([] : List (Int × Int × Int × Int)) code2)) (List.append ([] : List (Int × Int × Int × Int)) code2))), ()))) else none) else none) else none)
 (bif (decide ((0 : Int) ≤ (iadd .i64 o3.2.1 1))) && (decide ((iadd .i64 o3.2.1 1) ≤ ((List.length (List.append ([] : List (Int × Int × Int × Int)) code2)) : Int))) then
 (bif (decide ((0 : Int) ≤ o3.2.1)) && (decide (o3.2.1 ≤ ((List.length (List.append ([] : List (Int × Int × Int × Int)) code2)) : Int))) then
 (bif room ((Int.toNat o3.2.1) + (List.length (List.drop (Int.toNat (iadd .i64 o3.2.1 1)) (List.take (List.length (List.append ([] : List (Int × Int × Int × Int)) code2)) (List.append ([] : List (Int × Int × Int × Int)) code2))))) then
 (some ((o4.1.1, ()), (List.append (List.take (Int.toNat o3.2.1) (List.append ([] : List (Int × Int × Int × Int)) code2)) (List.drop (Int.toNat (iadd .i64 o3.2.1 1)) (List.take (List.length (List.append ([] : List (Int × Int × Int × Int)) code2)) (List.append ([] : List (Int × Int × Int × Int)) code2))), ()))) else none) else none) else none))
 else
 (bif o4.2.1 == 3 then
 (Ze0 N
 (fun t13 b14 l15 =>
   (some ((b14, ()), (l15, ()))))
  N o4.1.1 (List.append ([] : List (Int × Int × Int × Int)) code2))
 else
 (bif o4.2.1 == 4 then
 (bif inb o3.2.1 (List.length (List.append ([] : List (Int × Int × Int × Int)) code2)) then
 (bif inb o3.2.1 (List.length (List.append ([] : List (Int × Int × Int × Int)) code2)) then
 (some ((o4.1.1, ()), (List.set (List.append ([] : List (Int × Int × Int × Int)) code2) (Int.toNat o3.2.1) ((List.getD (List.append ([] : List (Int × Int × Int × Int)) code2) (Int.toNat o3.2.1) (0, 0, 0, 0)).1, ((List.getD (List.append ([] : List (Int × Int × Int × Int)) code2) (Int.toNat o3.2.1) (0, 0, 0, 0)).2.1, (iadd .i64 (List.getD (List.append ([] : List (Int × Int × Int × Int)) code2) (Int.toNat o3.2.1) (0, 0, 0, 0)).2.2.1 1, (List.getD (List.append ([] : List (Int × Int × Int × Int)) code2) (Int.toNat o3.2.1) (0, 0, 0, 0)).2.2.2))), ()))) else none) else none)
 else
 ((Zf N o4.1.1 2).bind fun o16 =>
 (bif inb o3.2.1 (List.length (List.append ([] : List (Int × Int × Int × Int)) code2)) then
 (some ((o16.1.1, ()), (List.set (List.append ([] : List (Int × Int × Int × Int)) code2) (Int.toNat o3.2.1) (isub .i64 9 o16.2.1, (0, 0, 0)), ()))) else none)))))))))) else none)
noncomputable def Zhr (N : Nat) (c1 : List Int × Int × Int) : Option (((List Int × Int × Int) × Unit) × ((List (Int × Int × Int × Int)) × Unit)) :=
    ((Zv N c1 3).bind fun o2 =>
 ((Zjd N o2.1.1 o2.2.1).bind fun o3 =>
 ((Zv N o3.1.1 3).bind fun o4 =>
 (bif o4.2.1 then
 ((Zje N o4.1.1 o3.2.1.1).bind fun o5 =>
 (some ((o5.1.1, ()), (o5.2.1, ()))))
 else
 (some ((o4.1.1, ()), (o3.2.1.1, ())))))))
noncomputable def Zis (N : Nat) (code1 : List Int) : Option (Unit × ((List (Int × Int × Int × Int)) × ((List Int) × ((List Int) × Unit)))) :=
    ((Zcf N code1).bind fun o2 =>
 ((Zbw N o2.2.1).bind fun o3 =>
 ((Zdu N o3.1.1 14 2 true).bind fun o4 =>
 ((Zv N o4.1.1 12).bind fun o5 =>
 (bif o5.2.1 then
 ((Zhr N o5.1.1).bind fun o6 =>
 (some ((), (o6.2.1, (o3.2.2.1, (o3.2.2.2.1, ()))))))
 else
 (some ((), (o4.2.1, (o3.2.2.1, (o3.2.2.2.1, ()))))))))))
noncomputable def Zd5 (N : Nat) (s1 : List Int × List Int × Int) : Option (Unit × ((List Int × List Int × Int) × Unit)) :=
    (both
 (bif room ((List.length ([] : List Int)) + (List.length s1.1)) then
 (bif room ((List.length ([] : List Int)) + (List.length s1.2.1)) then
 (some ((), ((List.append ([] : List Int) s1.1, (List.append ([] : List Int) s1.2.1, s1.2.2)), ()))) else none) else none)
 (both
 (bif room ((List.length ([] : List Int)) + (List.length s1.1)) then
 (bif room ((List.length ([] : List Int)) + (List.length s1.2.1)) then
 (some ((), ((List.append ([] : List Int) s1.1, (List.append ([] : List Int) s1.2.1, s1.2.2)), ()))) else none) else none)
 (bif room ((List.length ([] : List Int)) + (List.length s1.1)) then
 (bif room ((List.length ([] : List Int)) + (List.length s1.2.1)) then
 (some ((), ((List.append ([] : List Int) s1.1, (List.append ([] : List Int) s1.2.1, s1.2.2)), ()))) else none) else none)))
noncomputable def Zb4 {R : Type} (N : Nat) (rec : (List (Int × Int × Int × Int)) → (List (List (Int × Int × Int × Int))) → (List Int) → (List Int) → (List Int × List Int × Int) → Option (Unit × ((Int × List Int × List Int × List Int × Int) × Unit))) (code25 : List (Int × Int × Int × Int)) (kids26 : List (List (Int × Int × Int × Int))) (order27 : List Int) (next28 : Int) (l30 : List Int) (b32 : Int) (b33 : Int) (b34 : Int) (l35 : List (Int × List Int × List Int × List Int × Int)) (l39 : List Int) (l40 : List Int) (K0 : Int → Bool → Int → (List Int) → (List Int) → (List Int) → Option R) : Nat → Int → Int → (List Int) → (List Int) → (List Int) → Option R
  | 0, _, _, _, _, _ => none
  | n + 1, i29, b31, l36, l37, l38 =>
    (bif decide (i29 < (ilen order27)) then
 (both
 (bif inb i29 (List.length order27) then
 (bif inb (List.getD order27 (Int.toNat i29) 0) (List.length kids26) then
 ((rec (List.getD kids26 (Int.toNat (List.getD order27 (Int.toNat i29) 0)) ([] : List (Int × Int × Int × Int))) ([] : List (List (Int × Int × Int × Int))) ([] : List Int) l30 (l37, (l38, b31))).bind fun o49 =>
 (bif o49.2.1.1 == 1 then
 (bif inb i29 (List.length order27) then
 (bif inb 0 (List.length o49.2.1.2.1) then
 (bif inb (List.getD order27 (Int.toNat i29) 0) (List.length l36) then
 (Zb4 N rec code25 kids26 order27 next28 l30 b32 b33 b34 l35 l39 l40 K0 n (iadd .i64 i29 1) o49.2.1.2.2.2.2 (List.set l36 (Int.toNat (List.getD order27 (Int.toNat i29) 0)) (List.getD o49.2.1.2.1 (Int.toNat 0) 0)) o49.2.1.2.2.1 o49.2.1.2.2.2.1) else none) else none) else none)
 else
 (Zb4 N rec code25 kids26 order27 next28 l30 b32 b33 b34 l35 l39 l40 K0 n (iadd .i64 i29 1) o49.2.1.2.2.2.2 l36 o49.2.1.2.2.1 o49.2.1.2.2.2.1))) else none) else none)
 (bif inb i29 (List.length order27) then
 (bif inb (List.getD order27 (Int.toNat i29) 0) (List.length kids26) then
 ((rec (List.getD kids26 (Int.toNat (List.getD order27 (Int.toNat i29) 0)) ([] : List (Int × Int × Int × Int))) ([] : List (List (Int × Int × Int × Int))) ([] : List Int) l30 (l37, (l38, b31))).bind fun o50 =>
 (bif o50.2.1.1 == 1 then
 (bif inb i29 (List.length order27) then
 (bif inb 0 (List.length o50.2.1.2.1) then
 (bif inb (List.getD order27 (Int.toNat i29) 0) (List.length l36) then
 (Zb4 N rec code25 kids26 order27 next28 l30 b32 b33 b34 l35 l39 l40 K0 n (iadd .i64 i29 1) o50.2.1.2.2.2.2 (List.set l36 (Int.toNat (List.getD order27 (Int.toNat i29) 0)) (List.getD o50.2.1.2.1 (Int.toNat 0) 0)) o50.2.1.2.2.1 o50.2.1.2.2.2.1) else none) else none) else none)
 else
 (Zb4 N rec code25 kids26 order27 next28 l30 b32 b33 b34 l35 l39 l40 K0 n (iadd .i64 i29 1) o50.2.1.2.2.2.2 l36 o50.2.1.2.2.1 o50.2.1.2.2.2.1))) else none) else none))
 else
 (K0 i29 (decide (i29 < (ilen order27))) b31 l36 l37 l38))
noncomputable def Ze1 {R : Type} (N : Nat) (rec : (List (Int × Int × Int × Int)) → (List (List (Int × Int × Int × Int))) → (List Int) → (List Int) → (List Int × List Int × Int) → Option (Unit × ((Int × List Int × List Int × List Int × Int) × Unit))) (code57 : List (Int × Int × Int × Int)) (kids58 : List (List (Int × Int × Int × Int))) (order59 : List Int) (next60 : Int) (b63 : Int) (b64 : Int) (b65 : Int) (b66 : Int) (l67 : List (Int × List Int × List Int × List Int × Int)) (l68 : List Int) (l69 : List Int) (l70 : List Int) (l71 : List Int) (l72 : List Int) (K0 : Int → Bool → (List Int) → Option R) : Nat → Int → (List Int) → Option R
  | 0, _, _ => none
  | n + 1, i61, l62 =>
    (bif decide (i61 < (ilen l68)) then
 (bif inb i61 (List.length l68) then
 (bif inb i61 (List.length l62) then
 (Ze1 N rec code57 kids58 order59 next60 b63 b64 b65 b66 l67 l68 l69 l70 l71 l72 K0 n (iadd .i64 i61 1) (List.set l62 (Int.toNat i61) (List.getD l68 (Int.toNat i61) 0))) else none) else none)
 else
 (K0 i61 (decide (i61 < (ilen l68))) l62))
noncomputable def Zr {R : Type} (N : Nat) (rec : (List (Int × Int × Int × Int)) → (List (List (Int × Int × Int × Int))) → (List Int) → (List Int) → (List Int × List Int × Int) → Option (Unit × ((Int × List Int × List Int × List Int × Int) × Unit))) (code8 : List (Int × Int × Int × Int)) (kids9 : List (List (Int × Int × Int × Int))) (order10 : List Int) (b16 : Int) (l20 : List Int) (l21 : List Int) (K0 : (List Int) → Option R) (K1 : Int → Bool → (List Int) → Int → (List (Int × List Int × List Int × List Int × Int)) → (List Int) → (List Int) → Option R) : Nat → Int → (List Int) → Int → (List (Int × List Int × List Int × List Int × Int)) → (List Int) → (List Int) → Option R
  | 0, _, _, _, _, _, _ => none
  | n + 1, pc11, l12, b13, l17, l18, l19 =>
    (bif decide (pc11 < (ilen code8)) then
 (bif inb pc11 (List.length code8) then
 (bif (List.getD code8 (Int.toNat pc11) (0, 0, 0, 0)).1 == 5 then
 (bif inb (List.getD code8 (Int.toNat pc11) (0, 0, 0, 0)).2.2.1 (List.length l18) then
 (bif inb (List.getD code8 (Int.toNat pc11) (0, 0, 0, 0)).2.1 (List.length l12) then
 (Zr N rec code8 kids9 order10 b16 l20 l21 K0 K1 n (iadd .i64 pc11 1) (List.set l12 (Int.toNat (List.getD code8 (Int.toNat pc11) (0, 0, 0, 0)).2.1) (List.getD l18 (Int.toNat (List.getD code8 (Int.toNat pc11) (0, 0, 0, 0)).2.2.1) 0)) b13 l17 l18 l19) else none) else none)
 else
 (bif (List.getD code8 (Int.toNat pc11) (0, 0, 0, 0)).1 == 6 then
 (bif inb (List.getD code8 (Int.toNat pc11) (0, 0, 0, 0)).2.2.1 (List.length l12) then
 (bif inb (List.getD code8 (Int.toNat pc11) (0, 0, 0, 0)).2.1 (List.length l18) then
 (Zr N rec code8 kids9 order10 b16 l20 l21 K0 K1 n (iadd .i64 pc11 1) l12 b13 l17 (List.set l18 (Int.toNat (List.getD code8 (Int.toNat pc11) (0, 0, 0, 0)).2.1) (List.getD l12 (Int.toNat (List.getD code8 (Int.toNat pc11) (0, 0, 0, 0)).2.2.1) 0)) l19) else none) else none)
 else
 (bif (List.getD code8 (Int.toNat pc11) (0, 0, 0, 0)).1 == 7 then
 (bif inb (List.getD code8 (Int.toNat pc11) (0, 0, 0, 0)).2.1 (List.length l12) then
 (bif (List.getD l12 (Int.toNat (List.getD code8 (Int.toNat pc11) (0, 0, 0, 0)).2.1) 0) == 0 then
 (Zr N rec code8 kids9 order10 b16 l20 l21 K0 K1 n (iadd .i64 (iadd .i64 pc11 1) (List.getD code8 (Int.toNat pc11) (0, 0, 0, 0)).2.2.1) l12 b13 l17 l18 l19)
 else
 (Zr N rec code8 kids9 order10 b16 l20 l21 K0 K1 n (iadd .i64 pc11 1) l12 b13 l17 l18 l19)) else none)
 else
 (bif (List.getD code8 (Int.toNat pc11) (0, 0, 0, 0)).1 == 8 then
 (bif room ((List.length ([] : List Int)) + (List.length l12)) then
 ((Zd5 N (l18, (l19, b13))).bind fun o101 =>
 (bif room ((List.length l17) + (List.length ([(pc11, (List.append ([] : List Int) l12, o101.2.1))]))) then
 (Zr N rec code8 kids9 order10 b16 l20 l21 K0 K1 n (iadd .i64 pc11 1) l12 b13 (List.append l17 ([(pc11, (List.append ([] : List Int) l12, o101.2.1))])) l18 l19) else none)) else none)
 else
 (bif (List.getD code8 (Int.toNat pc11) (0, 0, 0, 0)).1 == 9 then
 (bif inb (isub .i64 (ilen l17) 1) (List.length l17) then
 (bif (decide ((0 : Int) ≤ (isub .i64 (ilen l17) 1))) && (decide ((isub .i64 (ilen l17) 1) ≤ ((List.length l17) : Int))) then
 (bif inb (List.getD l17 (Int.toNat (isub .i64 (ilen l17) 1)) (0, (([] : List Int), (([] : List Int), (([] : List Int), 0))))).1 (List.length code8) then
 (bif inb (List.getD code8 (Int.toNat (List.getD l17 (Int.toNat (isub .i64 (ilen l17) 1)) (0, (([] : List Int), (([] : List Int), (([] : List Int), 0))))).1) (0, 0, 0, 0)).2.1 (List.length l12) then
 (Zr N rec code8 kids9 order10 b16 l20 l21 K0 K1 n (iadd .i64 pc11 1) (List.set l12 (Int.toNat (List.getD code8 (Int.toNat (List.getD l17 (Int.toNat (isub .i64 (ilen l17) 1)) (0, (([] : List Int), (([] : List Int), (([] : List Int), 0))))).1) (0, 0, 0, 0)).2.1) 1) b13 (List.take (Int.toNat (isub .i64 (ilen l17) 1)) l17) l18 l19) else none) else none) else none) else none)
 else
 (bif (List.getD code8 (Int.toNat pc11) (0, 0, 0, 0)).1 == 10 then
 (bif (ilen l17) == 0 then
 (K0 l12)
 else
 (bif inb (isub .i64 (ilen l17) 1) (List.length l17) then
 (bif (decide ((0 : Int) ≤ (isub .i64 (ilen l17) 1))) && (decide ((isub .i64 (ilen l17) 1) ≤ ((List.length l17) : Int))) then
 (bif room ((List.length ([] : List Int)) + (List.length (List.getD l17 (Int.toNat (isub .i64 (ilen l17) 1)) (0, (([] : List Int), (([] : List Int), (([] : List Int), 0))))).2.1)) then
 ((Zd5 N (List.getD l17 (Int.toNat (isub .i64 (ilen l17) 1)) (0, (([] : List Int), (([] : List Int), (([] : List Int), 0))))).2.2).bind fun o102 =>
 (bif inb (List.getD l17 (Int.toNat (isub .i64 (ilen l17) 1)) (0, (([] : List Int), (([] : List Int), (([] : List Int), 0))))).1 (List.length code8) then
 (bif inb (List.getD code8 (Int.toNat (List.getD l17 (Int.toNat (isub .i64 (ilen l17) 1)) (0, (([] : List Int), (([] : List Int), (([] : List Int), 0))))).1) (0, 0, 0, 0)).2.1 (List.length (List.append ([] : List Int) (List.getD l17 (Int.toNat (isub .i64 (ilen l17) 1)) (0, (([] : List Int), (([] : List Int), (([] : List Int), 0))))).2.1)) then
 ((Zbt N code8 (List.getD l17 (Int.toNat (isub .i64 (ilen l17) 1)) (0, (([] : List Int), (([] : List Int), (([] : List Int), 0))))).1).bind fun o103 =>
 (Zr N rec code8 kids9 order10 b16 l20 l21 K0 K1 n (iadd .i64 o103.2.1 1) (List.set (List.append ([] : List Int) (List.getD l17 (Int.toNat (isub .i64 (ilen l17) 1)) (0, (([] : List Int), (([] : List Int), (([] : List Int), 0))))).2.1) (Int.toNat (List.getD code8 (Int.toNat (List.getD l17 (Int.toNat (isub .i64 (ilen l17) 1)) (0, (([] : List Int), (([] : List Int), (([] : List Int), 0))))).1) (0, 0, 0, 0)).2.1) 0) o102.2.1.2.2 (List.take (Int.toNat (isub .i64 (ilen l17) 1)) l17) o102.2.1.1 o102.2.1.2.1)) else none) else none)) else none) else none) else none))
 else
 (bif (List.getD code8 (Int.toNat pc11) (0, 0, 0, 0)).1 == 11 then
 (bif ((decide ((0 : Int) ≤ (ilen kids9))) && (decide ((ilen kids9) ≤ (ilen kids9)))) && (room (Int.toNat (ilen kids9))) then
 (Zb4 N rec code8 kids9 order10 (iadd .i64 pc11 1) l12 0 0 b16 l17 l20 l21
 (fun i104 t105 b106 l107 l108 l109 =>
   (Ze1 N rec code8 kids9 order10 (iadd .i64 pc11 1) b106 0 0 b16 l17 l107 l108 l109 l20 l21
 (fun i110 t111 l112 =>
   (Zr N rec code8 kids9 order10 b16 l20 l21 K0 K1 n (iadd .i64 pc11 1) l112 b106 l17 l108 l109))
  N 0 l12))
  N 0 b13 (List.replicate (Int.toNat (ilen kids9)) 0) l18 l19) else none)
 else
 (bif (List.getD code8 (Int.toNat pc11) (0, 0, 0, 0)).1 == 12 then
 (bif inb (List.getD code8 (Int.toNat pc11) (0, 0, 0, 0)).2.1 (List.length l19) then
 (bif inb (List.getD code8 (Int.toNat pc11) (0, 0, 0, 0)).2.2.1 (List.length l12) then
 (bif inb (List.getD code8 (Int.toNat pc11) (0, 0, 0, 0)).2.1 (List.length l19) then
 (bif inz 65536 then
 (bif inb (List.getD code8 (Int.toNat pc11) (0, 0, 0, 0)).2.2.2 (List.length l12) then
 (Zr N rec code8 kids9 order10 b16 l20 l21 K0 K1 n (iadd .i64 pc11 1) (List.set l12 (Int.toNat (List.getD code8 (Int.toNat pc11) (0, 0, 0, 0)).2.2.2) (irem (List.getD l19 (Int.toNat (List.getD code8 (Int.toNat pc11) (0, 0, 0, 0)).2.1) 0) 65536)) b13 l17 l18 (List.set l19 (Int.toNat (List.getD code8 (Int.toNat pc11) (0, 0, 0, 0)).2.1) (iadd .i64 1 (List.getD l12 (Int.toNat (List.getD code8 (Int.toNat pc11) (0, 0, 0, 0)).2.2.1) 0)))) else none) else none) else none) else none) else none)
 else
 (bif (List.getD code8 (Int.toNat pc11) (0, 0, 0, 0)).1 == 13 then
 (bif inb (List.getD code8 (Int.toNat pc11) (0, 0, 0, 0)).2.2.1 (List.length l19) then
 (bif inz 65536 then
 (bif inb (List.getD code8 (Int.toNat pc11) (0, 0, 0, 0)).2.1 (List.length l12) then
 (Zr N rec code8 kids9 order10 b16 l20 l21 K0 K1 n (iadd .i64 pc11 1) (List.set l12 (Int.toNat (List.getD code8 (Int.toNat pc11) (0, 0, 0, 0)).2.1) (irem (List.getD l19 (Int.toNat (List.getD code8 (Int.toNat pc11) (0, 0, 0, 0)).2.2.1) 0) 65536)) b13 l17 l18 l19) else none) else none) else none)
 else
 (bif (List.getD code8 (Int.toNat pc11) (0, 0, 0, 0)).1 == 14 then
 (bif inb (List.getD code8 (Int.toNat pc11) (0, 0, 0, 0)).2.1 (List.length l19) then
 (bif inb (List.getD code8 (Int.toNat pc11) (0, 0, 0, 0)).2.1 (List.length l19) then
 (bif inz 65536 then
 (bif inb (List.getD code8 (Int.toNat pc11) (0, 0, 0, 0)).2.2.1 (List.length l12) then
 (Zr N rec code8 kids9 order10 b16 l20 l21 K0 K1 n (iadd .i64 pc11 1) (List.set l12 (Int.toNat (List.getD code8 (Int.toNat pc11) (0, 0, 0, 0)).2.2.1) (irem (List.getD l19 (Int.toNat (List.getD code8 (Int.toNat pc11) (0, 0, 0, 0)).2.1) 0) 65536)) b13 l17 l18 (List.set l19 (Int.toNat (List.getD code8 (Int.toNat pc11) (0, 0, 0, 0)).2.1) 0)) else none) else none) else none) else none)
 else
 (bif (List.getD code8 (Int.toNat pc11) (0, 0, 0, 0)).1 == 15 then
 (bif inb (List.getD code8 (Int.toNat pc11) (0, 0, 0, 0)).2.1 (List.length l12) then
 (bif inz 65536 then
 (Zr N rec code8 kids9 order10 b16 l20 l21 K0 K1 n (iadd .i64 pc11 1) l12 (irem (iadd .i64 b13 (List.getD l12 (Int.toNat (List.getD code8 (Int.toNat pc11) (0, 0, 0, 0)).2.1) 0)) 65536) l17 l18 l19) else none) else none)
 else
 (bif (List.getD code8 (Int.toNat pc11) (0, 0, 0, 0)).1 == 16 then
 (bif inb (List.getD code8 (Int.toNat pc11) (0, 0, 0, 0)).2.1 (List.length l12) then
 (Zr N rec code8 kids9 order10 b16 l20 l21 K0 K1 n (iadd .i64 pc11 1) (List.set l12 (Int.toNat (List.getD code8 (Int.toNat pc11) (0, 0, 0, 0)).2.1) b13) b13 l17 l18 l19) else none)
 else
 ((Zfs N (List.getD code8 (Int.toNat pc11) (0, 0, 0, 0)) l12).bind fun o113 =>
 (Zr N rec code8 kids9 order10 b16 l20 l21 K0 K1 n (iadd .i64 pc11 1) o113.2.1 b13 l17 l18 l19)))))))))))))) else none)
 else
 (K1 pc11 (decide (pc11 < (ilen code8))) l12 b13 l17 l18 l19))
noncomputable def Zaf (N : Nat) : Nat → (List (Int × Int × Int × Int)) → (List (List (Int × Int × Int × Int))) → (List Int) → (List Int) → (List Int × List Int × Int) → Option (Unit × ((Int × List Int × List Int × List Int × Int) × Unit))
  | 0, _, _, _, _, _ => none
  | m + 1, code1, kids2, order3, regs4, s5 =>
    ((Zd5 N s5).bind fun o6 =>
 (bif room ((List.length ([] : List Int)) + (List.length regs4)) then
 ((Zd5 N s5).bind fun o7 =>
 (Zr N (Zaf N m) code1 kids2 order3 o6.2.1.2.2 o6.2.1.1 o6.2.1.2.1
 (fun l114 =>
   (some ((), ((2, (l114, o6.2.1)), ()))))
 (fun pc115 t116 l117 b118 l119 l120 l121 =>
   (some ((), ((1, (l117, (l120, (l121, b118)))), ()))))
  N 0 (List.append ([] : List Int) regs4) o7.2.1.2.2 ([] : List (Int × List Int × List Int × List Int × Int)) o7.2.1.1 o7.2.1.2.1)) else none))
noncomputable def Znb (N : Nat) (code1 : List (Int × Int × Int × Int)) (kids2 : List (List (Int × Int × Int × Int))) (order3 : List Int) (regs4 : List Int) (s5 : List Int × List Int × Int) : Option (Unit × ((Int × List Int × List Int × List Int × Int) × Unit)) := Zaf N N code1 kids2 order3 regs4 s5
noncomputable def Zdm (N : Nat) (code1 : List (Int × Int × Int × Int)) (regs2 : List Int) (cells3 : List Int) : Option (Unit × (Int × ((List Int) × ((List Int) × Unit)))) :=
    ((Zbq N code1).bind fun o4 =>
 (bif !o4.2.1 then
 (some ((), (0, (([] : List Int), (([] : List Int), ())))))
 else
 ((Za4 N regs2).bind fun o5 =>
 (bif !o5.2.1 then
 (some ((), (0, (([] : List Int), (([] : List Int), ())))))
 else
 ((Zas N cells3).bind fun o6 =>
 (bif !o6.2.1 then
 (some ((), (0, (([] : List Int), (([] : List Int), ())))))
 else
 (bif ((decide ((0 : Int) ≤ 8)) && (decide ((8 : Int) ≤ 8))) && (room (Int.toNat 8)) then
 ((Znb N code1 ([] : List (List (Int × Int × Int × Int))) ([] : List Int) regs2 (cells3, (List.replicate (Int.toNat 8) 0, 0))).bind fun o7 =>
 (some ((), (o7.2.1.1, (o7.2.1.2.1, (o7.2.1.2.2.1, ())))))) else none)))))))
noncomputable def Zeq (N : Nat) (l1 : List Bool) : Option (Unit × ((List Bool) × Unit)) :=
    (bif room ((List.length ([] : List Bool)) + (List.length l1)) then
 (some ((), (List.append ([] : List Bool) l1, ()))) else none)
noncomputable def Zt {R : Type} (N : Nat) (code9 : List (Int × Int × Int × Int)) (K0 : Int → Bool → (List Int) → (List Int) → (List Bool) → (List Bool) → (List (Int × List Int × List Int × List Bool)) → Option R) : Nat → Int → (List Int) → (List Int) → (List Bool) → (List Bool) → (List (Int × List Int × List Int × List Bool)) → Option R
  | 0, _, _, _, _, _, _ => none
  | n + 1, pc10, l11, l12, l13, l14, l15 =>
    (bif decide (pc10 < (ilen code9)) then
 (bif inb pc10 (List.length code9) then
 (bif (List.getD code9 (Int.toNat pc10) (0, 0, 0, 0)).1 == 5 then
 (bif inb (List.getD code9 (Int.toNat pc10) (0, 0, 0, 0)).2.2.1 (List.length l12) then
 (bif inb (List.getD code9 (Int.toNat pc10) (0, 0, 0, 0)).2.1 (List.length l11) then
 (bif inb (List.getD code9 (Int.toNat pc10) (0, 0, 0, 0)).2.2.1 (List.length l14) then
 (bif List.getD l14 (Int.toNat (List.getD code9 (Int.toNat pc10) (0, 0, 0, 0)).2.2.1) false then
 (bif inb (List.getD code9 (Int.toNat pc10) (0, 0, 0, 0)).2.2.1 (List.length l14) then
 (Zt N code9 K0 n (iadd .i64 pc10 1) (List.set l11 (Int.toNat (List.getD code9 (Int.toNat pc10) (0, 0, 0, 0)).2.1) (List.getD l12 (Int.toNat (List.getD code9 (Int.toNat pc10) (0, 0, 0, 0)).2.2.1) 0)) l12 l13 (List.set l14 (Int.toNat (List.getD code9 (Int.toNat pc10) (0, 0, 0, 0)).2.2.1) true) l15) else none)
 else
 (bif inb (List.getD code9 (Int.toNat pc10) (0, 0, 0, 0)).2.2.1 (List.length l13) then
 (bif inb (List.getD code9 (Int.toNat pc10) (0, 0, 0, 0)).2.2.1 (List.length l14) then
 (Zt N code9 K0 n (iadd .i64 pc10 1) (List.set l11 (Int.toNat (List.getD code9 (Int.toNat pc10) (0, 0, 0, 0)).2.1) (List.getD l12 (Int.toNat (List.getD code9 (Int.toNat pc10) (0, 0, 0, 0)).2.2.1) 0)) l12 l13 (List.set l14 (Int.toNat (List.getD code9 (Int.toNat pc10) (0, 0, 0, 0)).2.2.1) (!(List.getD l13 (Int.toNat (List.getD code9 (Int.toNat pc10) (0, 0, 0, 0)).2.2.1) false))) l15) else none) else none)) else none) else none) else none)
 else
 (bif (List.getD code9 (Int.toNat pc10) (0, 0, 0, 0)).1 == 6 then
 (bif inb (List.getD code9 (Int.toNat pc10) (0, 0, 0, 0)).2.2.1 (List.length l11) then
 (bif inb (List.getD code9 (Int.toNat pc10) (0, 0, 0, 0)).2.1 (List.length l12) then
 (bif inb (List.getD code9 (Int.toNat pc10) (0, 0, 0, 0)).2.1 (List.length l13) then
 (Zt N code9 K0 n (iadd .i64 pc10 1) l11 (List.set l12 (Int.toNat (List.getD code9 (Int.toNat pc10) (0, 0, 0, 0)).2.1) (List.getD l11 (Int.toNat (List.getD code9 (Int.toNat pc10) (0, 0, 0, 0)).2.2.1) 0)) (List.set l13 (Int.toNat (List.getD code9 (Int.toNat pc10) (0, 0, 0, 0)).2.1) true) l14 l15) else none) else none) else none)
 else
 (bif (List.getD code9 (Int.toNat pc10) (0, 0, 0, 0)).1 == 7 then
 (bif inb (List.getD code9 (Int.toNat pc10) (0, 0, 0, 0)).2.1 (List.length l11) then
 (bif (List.getD l11 (Int.toNat (List.getD code9 (Int.toNat pc10) (0, 0, 0, 0)).2.1) 0) == 0 then
 (Zt N code9 K0 n (iadd .i64 (iadd .i64 pc10 1) (List.getD code9 (Int.toNat pc10) (0, 0, 0, 0)).2.2.1) l11 l12 l13 l14 l15)
 else
 (Zt N code9 K0 n (iadd .i64 pc10 1) l11 l12 l13 l14 l15)) else none)
 else
 (bif (List.getD code9 (Int.toNat pc10) (0, 0, 0, 0)).1 == 8 then
 ((Zw N l11).bind fun o31 =>
 ((Zw N l12).bind fun o32 =>
 ((Zeq N l13).bind fun o33 =>
 (bif room ((List.length l15) + (List.length ([(pc10, (o31.2.1, (o32.2.1, o33.2.1)))]))) then
 (Zt N code9 K0 n (iadd .i64 pc10 1) l11 l12 l13 l14 (List.append l15 ([(pc10, (o31.2.1, (o32.2.1, o33.2.1)))]))) else none))))
 else
 (bif (List.getD code9 (Int.toNat pc10) (0, 0, 0, 0)).1 == 9 then
 (bif inb (isub .i64 (ilen l15) 1) (List.length l15) then
 (bif (decide ((0 : Int) ≤ (isub .i64 (ilen l15) 1))) && (decide ((isub .i64 (ilen l15) 1) ≤ ((List.length l15) : Int))) then
 (bif inb (List.getD l15 (Int.toNat (isub .i64 (ilen l15) 1)) (0, (([] : List Int), (([] : List Int), ([] : List Bool))))).1 (List.length code9) then
 (bif inb (List.getD code9 (Int.toNat (List.getD l15 (Int.toNat (isub .i64 (ilen l15) 1)) (0, (([] : List Int), (([] : List Int), ([] : List Bool))))).1) (0, 0, 0, 0)).2.1 (List.length l11) then
 (Zt N code9 K0 n (iadd .i64 pc10 1) (List.set l11 (Int.toNat (List.getD code9 (Int.toNat (List.getD l15 (Int.toNat (isub .i64 (ilen l15) 1)) (0, (([] : List Int), (([] : List Int), ([] : List Bool))))).1) (0, 0, 0, 0)).2.1) 1) l12 l13 l14 (List.take (Int.toNat (isub .i64 (ilen l15) 1)) l15)) else none) else none) else none) else none)
 else
 (bif (List.getD code9 (Int.toNat pc10) (0, 0, 0, 0)).1 == 10 then
 (bif decide ((ilen l15) > 0) then
 (bif inb (isub .i64 (ilen l15) 1) (List.length l15) then
 (bif (decide ((0 : Int) ≤ (isub .i64 (ilen l15) 1))) && (decide ((isub .i64 (ilen l15) 1) ≤ ((List.length l15) : Int))) then
 ((Zw N (List.getD l15 (Int.toNat (isub .i64 (ilen l15) 1)) (0, (([] : List Int), (([] : List Int), ([] : List Bool))))).2.1).bind fun o34 =>
 ((Zw N (List.getD l15 (Int.toNat (isub .i64 (ilen l15) 1)) (0, (([] : List Int), (([] : List Int), ([] : List Bool))))).2.2.1).bind fun o35 =>
 ((Zeq N (List.getD l15 (Int.toNat (isub .i64 (ilen l15) 1)) (0, (([] : List Int), (([] : List Int), ([] : List Bool))))).2.2.2).bind fun o36 =>
 (bif inb (List.getD l15 (Int.toNat (isub .i64 (ilen l15) 1)) (0, (([] : List Int), (([] : List Int), ([] : List Bool))))).1 (List.length code9) then
 (bif inb (List.getD code9 (Int.toNat (List.getD l15 (Int.toNat (isub .i64 (ilen l15) 1)) (0, (([] : List Int), (([] : List Int), ([] : List Bool))))).1) (0, 0, 0, 0)).2.1 (List.length o34.2.1) then
 ((Zbt N code9 (List.getD l15 (Int.toNat (isub .i64 (ilen l15) 1)) (0, (([] : List Int), (([] : List Int), ([] : List Bool))))).1).bind fun o37 =>
 (Zt N code9 K0 n (iadd .i64 o37.2.1 1) (List.set o34.2.1 (Int.toNat (List.getD code9 (Int.toNat (List.getD l15 (Int.toNat (isub .i64 (ilen l15) 1)) (0, (([] : List Int), (([] : List Int), ([] : List Bool))))).1) (0, 0, 0, 0)).2.1) 0) o35.2.1 o36.2.1 l14 (List.take (Int.toNat (isub .i64 (ilen l15) 1)) l15))) else none) else none)))) else none) else none)
 else
 (Zt N code9 K0 n (ilen code9) l11 l12 l13 l14 l15))
 else
 ((Zfs N (List.getD code9 (Int.toNat pc10) (0, 0, 0, 0)) l11).bind fun o38 =>
 (Zt N code9 K0 n (iadd .i64 pc10 1) o38.2.1 l12 l13 l14 l15)))))))) else none)
 else
 (K0 pc10 (decide (pc10 < (ilen code9))) l11 l12 l13 l14 l15))
noncomputable def Zau {R : Type} (N : Nat) (l47 : List Bool) (K0 : Int → Bool → (List Int) → Option R) : Nat → Int → (List Int) → Option R
  | 0, _, _ => none
  | n + 1, i46, l48 =>
    (bif decide (i46 < (ilen l47)) then
 (bif inb i46 (List.length l47) then
 (bif List.getD l47 (Int.toNat i46) false then
 (bif room ((List.length l48) + (List.length ([i46]))) then
 (Zau N l47 K0 n (iadd .i64 i46 1) (List.append l48 ([i46]))) else none)
 else
 (Zau N l47 K0 n (iadd .i64 i46 1) l48)) else none)
 else
 (K0 i46 (decide (i46 < (ilen l47))) l48))
noncomputable def Zcr (N : Nat) (code1 : List (Int × Int × Int × Int)) (regs2 : List Int) (cells3 : List Int) : Option (Unit × ((List Int) × Unit)) :=
    ((Zbq N code1).bind fun o4 =>
 (bif !o4.2.1 then
 (some ((), (([] : List Int), ())))
 else
 ((Za4 N regs2).bind fun o5 =>
 (bif !o5.2.1 then
 (some ((), (([] : List Int), ())))
 else
 ((Zas N cells3).bind fun o6 =>
 (bif !o6.2.1 then
 (some ((), (([] : List Int), ())))
 else
 ((Zw N regs2).bind fun o7 =>
 ((Zw N cells3).bind fun o8 =>
 (bif ((decide ((0 : Int) ≤ 8)) && (decide ((8 : Int) ≤ 8))) && (room (Int.toNat 8)) then
 (bif ((decide ((0 : Int) ≤ 8)) && (decide ((8 : Int) ≤ 8))) && (room (Int.toNat 8)) then
 (Zt N code1
 (fun pc39 t40 l41 l42 l43 l44 l45 =>
   (Zau N l44
 (fun i52 t53 l54 =>
   (some ((), (l54, ()))))
  N 0 ([] : List Int)))
  N 0 o7.2.1 o8.2.1 (List.replicate (Int.toNat 8) false) (List.replicate (Int.toNat 8) false) ([] : List (Int × List Int × List Int × List Bool))) else none) else none)))))))))
noncomputable def Zap (N : Nat) (x1 : List Int) : Option (((List Int) × Unit) × Unit) := Zgp N x1
noncomputable def Z4 {R : Type} (N : Nat) (s5 : Nat) (s6 : Nat) (K0 : Int → Int → Bool → (List Int) → Option R) : Nat → Int → Int → (List Int) → Option R
  | 0, _, _, _ => none
  | n + 1, k4, k7, l8 =>
    (bif decide (k7 < (((s6 - s5 : Nat) : Int))) then
 (bif inb k7 (s6 - s5) then
 (bif inb (isub .i64 k7 1) (s6 - s5) then
 (bif (List.getD l8 (s5 + (Int.toNat k7)) 0) != (List.getD l8 (s5 + (Int.toNat (isub .i64 k7 1))) 0) then
 (bif inb k7 (s6 - s5) then
 (bif inb k4 (List.length l8) then
 (Z4 N s5 s6 K0 n (iadd .i64 k4 1) (iadd .i64 k7 1) (List.set l8 (Int.toNat k4) (List.getD l8 (s5 + (Int.toNat k7)) 0))) else none) else none)
 else
 (Z4 N s5 s6 K0 n k4 (iadd .i64 k7 1) l8)) else none) else none)
 else
 (K0 k4 k7 (decide (k7 < (((s6 - s5 : Nat) : Int)))) l8))
noncomputable def Zae {R : Type} (N : Nat) (l3 : List Int) (K0 : (List Int) → Option R) (K1 : Int → Bool → Option R) : Nat → Int → Option R
  | 0, _ => none
  | n + 1, k2 =>
    (bif decide (k2 < (ilen l3)) then
 (bif inb k2 (List.length l3) then
 (bif inb (isub .i64 k2 1) (List.length l3) then
 (bif (List.getD l3 (Int.toNat k2) 0) == (List.getD l3 (Int.toNat (isub .i64 k2 1)) 0) then
 (bif (decide ((0 : Int) ≤ k2)) && (decide (k2 ≤ ((List.length l3) : Int))) then
 (Z4 N (Int.toNat k2) (List.length l3)
 (fun k20 k21 t22 l23 =>
   (bif (decide ((0 : Int) ≤ k20)) && (decide (k20 ≤ ((List.length l23) : Int))) then
 (bif (decide ((0 : Int) ≤ k20)) && (decide (k20 ≤ ((List.length ((List.take (Int.toNat k20) l23) ++ List.replicate ((List.length l23) - (Int.toNat k20)) 0 ++ (List.drop (List.length l23) l23))) : Int))) then
 (K0 (List.take (Int.toNat k20) ((List.take (Int.toNat k20) l23) ++ List.replicate ((List.length l23) - (Int.toNat k20)) 0 ++ (List.drop (List.length l23) l23)))) else none) else none))
  N k2 1 l3) else none)
 else
 (Zae N l3 K0 K1 n (iadd .i64 k2 1))) else none) else none)
 else
 (K1 k2 (decide (k2 < (ilen l3)))))
noncomputable def Zu (N : Nat) (s1 : List Int) : Option (Unit × ((List Int) × Unit)) :=
    (bif decide ((ilen s1) < 2) then
 (some ((), (s1, ())))
 else
 (Zae N s1
 (fun l24 =>
   (some ((), (l24, ()))))
 (fun k25 t26 =>
   (some ((), (s1, ()))))
  N 1))
noncomputable def Zgz (N : Nat) (code1 : List (Int × Int × Int × Int)) (regs2 : List Int) (cells3 : List Int) : Option (Unit × ((List Int) × Unit)) :=
    ((Zgq N code1 regs2 cells3).bind fun o4 =>
 (bif !o4.2.2.1 then
 (some ((), (([] : List Int), ())))
 else
 ((Za9 N o4.2.1 code1).bind fun o5 =>
 ((Zap N o5.1.1.2.2.2.2.2).bind fun o6 =>
 ((Zu N o6.1.1).bind fun o7 =>
 (some ((), (o7.2.1, ()))))))))
noncomputable def Zb5 {R : Type} (N : Nat) (l13 : List (List (Int × Int × Int × Int))) (regs14 : List Int) (cells15 : List Int) (i16 : Int) (b18 : Int) (l20 : List Int) (K0 : Int → Bool → (List Bool) → Option R) : Nat → Int → (List Bool) → Option R
  | 0, _, _ => none
  | n + 1, k17, l19 =>
    (bif decide (k17 < (ilen l20)) then
 (bif inb k17 (List.length l20) then
 (bif inb (List.getD l20 (Int.toNat k17) 0) (List.length l19) then
 (Zb5 N l13 regs14 cells15 i16 b18 l20 K0 n (iadd .i64 k17 1) (List.set l19 (Int.toNat (List.getD l20 (Int.toNat k17) 0)) true)) else none) else none)
 else
 (K0 k17 (decide (k17 < (ilen l20))) l19))
noncomputable def Zbi {R : Type} (N : Nat) (l5 : List (List (Int × Int × Int × Int))) (regs6 : List Int) (cells7 : List Int) (K0 : Int → (List Int) → (List Int) → Option R) (K1 : Int → Bool → (List Bool) → Option R) : Nat → Int → (List Bool) → Option R
  | 0, _, _ => none
  | n + 1, i8, l10 =>
    (bif decide (i8 < (ilen l5)) then
 (bif inb i8 (List.length l5) then
 ((Zdm N (List.getD l5 (Int.toNat i8) ([] : List (Int × Int × Int × Int))) regs6 cells7).bind fun o38 =>
 (bif o38.2.1 == 1 then
 (K0 i8 o38.2.2.1 o38.2.2.2.1)
 else
 (bif inb i8 (List.length l5) then
 ((Zcr N (List.getD l5 (Int.toNat i8) ([] : List (Int × Int × Int × Int))) regs6 cells7).bind fun o39 =>
 (Zb5 N l5 regs6 cells7 i8 0 o39.2.1
 (fun k40 t41 l42 =>
   (Zbi N l5 regs6 cells7 K0 K1 n (iadd .i64 i8 1) l42))
  N 0 l10)) else none))) else none)
 else
 (K1 i8 (decide (i8 < (ilen l5))) l10))
noncomputable def Zar {R : Type} (N : Nat) (l53 : List Bool) (l55 : List Int) (l56 : List Int) (K0 : Int → Bool → (List Int) → Option R) : Nat → Int → (List Int) → Option R
  | 0, _, _ => none
  | n + 1, i51, l57 =>
    (bif decide (i51 < (ilen l53)) then
 (bif inb i51 (List.length l53) then
 (bif List.getD l53 (Int.toNat i51) false then
 (bif room ((List.length l57) + (List.length ([i51]))) then
 (Zar N l53 l55 l56 K0 n (iadd .i64 i51 1) (List.append l57 ([i51]))) else none)
 else
 (Zar N l53 l55 l56 K0 n (iadd .i64 i51 1) l57)) else none)
 else
 (K0 i51 (decide (i51 < (ilen l53))) l57))
noncomputable def Zdf (N : Nat) (l1 : List (List (Int × Int × Int × Int))) (regs2 : List Int) (cells3 : List Int) : Option (Unit × ((Int × List Int × List Int × List Int) × Unit)) :=
    ((Zbv N l1 regs2 cells3).bind fun o4 =>
 (bif !o4.2.1 then
 (some ((), (((-1 : Int), (([] : List Int), (([] : List Int), ([] : List Int)))), ())))
 else
 (bif ((decide ((0 : Int) ≤ 8)) && (decide ((8 : Int) ≤ 8))) && (room (Int.toNat 8)) then
 (Zbi N l1 regs2 cells3
 (fun b43 l44 l45 =>
   (some ((), ((b43, (l44, (l45, ([] : List Int)))), ()))))
 (fun i46 t47 l48 =>
   ((Zw N regs2).bind fun o49 =>
 ((Zw N cells3).bind fun o50 =>
 (Zar N l48 o49.2.1 o50.2.1
 (fun i61 t62 l63 =>
   (some ((), (((-1 : Int), (o49.2.1, (o50.2.1, l63))), ()))))
  N 0 ([] : List Int)))))
  N 0 (List.replicate (Int.toNat 8) false)) else none)))
noncomputable def Zab (N : Nat) (s1 : List Int × List Int × Int) : Option (Unit × ((List Int × List Int × Int) × Unit)) :=
    ((Zl N s1.1).bind fun o2 =>
 ((Zl N s1.2.1).bind fun o3 =>
 (some ((), ((o2.2.1, (o3.2.1, s1.2.2)), ())))))
noncomputable def Zc1 {R : Type} (N : Nat) (order4 : List Int) (t5 : Int) (K0 : Int → Bool → (List Int) → Option R) : Nat → Int → (List Int) → Option R
  | 0, _, _ => none
  | n + 1, t6, l7 =>
    (bif decide (t6 < t5) then
 ((Ze4 N order4 t6).bind fun o12 =>
 (bif !o12.2.1 then
 (bif room ((List.length l7) + (List.length ([t6]))) then
 (Zc1 N order4 t5 K0 n (iadd .i64 t6 1) (List.append l7 ([t6]))) else none)
 else
 (Zc1 N order4 t5 K0 n (iadd .i64 t6 1) l7)))
 else
 (K0 t6 (decide (t6 < t5)) l7))
noncomputable def Zba (N : Nat) (order1 : List Int) (kids2 : Int) : Option (Unit × ((List Int) × Unit)) :=
    ((Zl N order1).bind fun o3 =>
 (Zc1 N order1 kids2
 (fun t13 t14 l15 =>
   (some ((), (l15, ()))))
  N 0 o3.2.1))
noncomputable def Zei (N : Nat) (o1 : Int × Int × Int × Int) (regs2 : List Int) (s3 : List Int × List Int × Int) : Option (((List Int) × ((List Int × List Int × Int) × Unit)) × Unit) :=
    (bif o1.1 == 5 then
 (bif inb o1.2.2.1 (List.length s3.1) then
 (bif inb o1.2.1 (List.length regs2) then
 (some ((List.set regs2 (Int.toNat o1.2.1) (List.getD s3.1 (Int.toNat o1.2.2.1) 0), (s3, ())), ())) else none) else none)
 else
 (bif o1.1 == 6 then
 (bif inb o1.2.2.1 (List.length regs2) then
 (bif inb o1.2.1 (List.length s3.1) then
 (some ((regs2, ((List.set s3.1 (Int.toNat o1.2.1) (List.getD regs2 (Int.toNat o1.2.2.1) 0), s3.2), ())), ())) else none) else none)
 else
 (bif o1.1 == 12 then
 (bif inb o1.2.1 (List.length s3.2.1) then
 (bif inb o1.2.2.1 (List.length regs2) then
 (bif inb o1.2.1 (List.length s3.2.1) then
 (bif inz 65536 then
 (bif inb o1.2.2.2 (List.length regs2) then
 (some ((List.set regs2 (Int.toNat o1.2.2.2) (irem (List.getD s3.2.1 (Int.toNat o1.2.1) 0) 65536), ((s3.1, (List.set s3.2.1 (Int.toNat o1.2.1) (iadd .i64 (List.getD regs2 (Int.toNat o1.2.2.1) 0) 1), s3.2.2)), ())), ())) else none) else none) else none) else none) else none)
 else
 (bif o1.1 == 13 then
 (bif inb o1.2.2.1 (List.length s3.2.1) then
 (bif inz 65536 then
 (bif inb o1.2.1 (List.length regs2) then
 (some ((List.set regs2 (Int.toNat o1.2.1) (irem (List.getD s3.2.1 (Int.toNat o1.2.2.1) 0) 65536), (s3, ())), ())) else none) else none) else none)
 else
 (bif o1.1 == 14 then
 (bif inb o1.2.1 (List.length s3.2.1) then
 (bif inz 65536 then
 (bif inb o1.2.2.1 (List.length regs2) then
 (bif inb o1.2.1 (List.length s3.2.1) then
 (some ((List.set regs2 (Int.toNat o1.2.2.1) (irem (List.getD s3.2.1 (Int.toNat o1.2.1) 0) 65536), ((s3.1, (List.set s3.2.1 (Int.toNat o1.2.1) 0, s3.2.2)), ())), ())) else none) else none) else none) else none)
 else
 (bif o1.1 == 15 then
 (bif inb o1.2.1 (List.length regs2) then
 (bif inz 65536 then
 (some ((regs2, ((s3.1, (s3.2.1, irem (iadd .i64 s3.2.2 (List.getD regs2 (Int.toNat o1.2.1) 0)) 65536)), ())), ())) else none) else none)
 else
 (bif o1.1 == 16 then
 (bif inb o1.2.1 (List.length regs2) then
 (some ((List.set regs2 (Int.toNat o1.2.1) s3.2.2, (s3, ())), ())) else none)
 else
 (some ((regs2, (s3, ())), ())))))))))
noncomputable def Zac {R : Type} (N : Nat) (rec : (List (Int × Int × Int × Int)) → (List (List (Int × Int × Int × Int))) → (List Int) → (List Int) → (List Int × List Int × Int) → Option (Unit × ((Int × List Int × List Int × List Int × Int) × Unit))) (code27 : List (Int × Int × Int × Int)) (kids28 : List (List (Int × Int × Int × Int))) (order29 : List Int) (i30 : Int) (t31 : Int) (b34 : List Int × List Int × Int) (b35 : Int) (b36 : Int) (b37 : Int) (l38 : List (Int × List Int × List Int × List Int × Int)) (l39 : List Int) (l40 : List Int) (l42 : List Int) (K0 : Int → Bool → (List Int) → (List Int) → Option R) : Nat → Int → (List Int) → (List Int) → Option R
  | 0, _, _, _ => none
  | n + 1, t32, l33, l41 =>
    (bif decide (t32 < t31) then
 (bif inb t32 (List.length l40) then
 (both
 (bif inb (List.getD l40 (Int.toNat t32) 0) (List.length kids28) then
 (bif ((decide ((0 : Int) ≤ 8)) && (decide ((8 : Int) ≤ 8))) && (room (Int.toNat 8)) then
 ((rec (List.getD kids28 (Int.toNat (List.getD l40 (Int.toNat t32) 0)) ([] : List (Int × Int × Int × Int))) ([] : List (List (Int × Int × Int × Int))) ([] : List Int) l39 (l41, (List.replicate (Int.toNat 8) 0, 0))).bind fun o53 =>
 (bif inb (List.getD l40 (Int.toNat t32) 0) (List.length l33) then
 (bif o53.2.1.1 == 1 then
 (bif inb 0 (List.length o53.2.1.2.1) then
 (bif inb (List.getD l40 (Int.toNat t32) 0) (List.length (List.set l33 (Int.toNat (List.getD l40 (Int.toNat t32) 0)) 0)) then
 (share (List.set l33 (Int.toNat (List.getD l40 (Int.toNat t32) 0)) 0) fun s54 =>
 (Zac N rec code27 kids28 order29 i30 t31 b34 b35 b36 b37 l38 l39 l40 l42 K0 n (iadd .i64 t32 1) (List.set s54 (Int.toNat (List.getD l40 (Int.toNat t32) 0)) (List.getD o53.2.1.2.1 (Int.toNat 0) 0)) o53.2.1.2.2.1)) else none) else none)
 else
 (Zac N rec code27 kids28 order29 i30 t31 b34 b35 b36 b37 l38 l39 l40 l42 K0 n (iadd .i64 t32 1) (List.set l33 (Int.toNat (List.getD l40 (Int.toNat t32) 0)) 0) o53.2.1.2.2.1)) else none)) else none) else none)
 (both
 (bif inb (List.getD l40 (Int.toNat t32) 0) (List.length kids28) then
 (bif ((decide ((0 : Int) ≤ 8)) && (decide ((8 : Int) ≤ 8))) && (room (Int.toNat 8)) then
 ((rec (List.getD kids28 (Int.toNat (List.getD l40 (Int.toNat t32) 0)) ([] : List (Int × Int × Int × Int))) ([] : List (List (Int × Int × Int × Int))) ([] : List Int) l39 (l41, (List.replicate (Int.toNat 8) 0, 0))).bind fun o55 =>
 (bif inb (List.getD l40 (Int.toNat t32) 0) (List.length l33) then
 (bif o55.2.1.1 == 1 then
 (bif inb 0 (List.length o55.2.1.2.1) then
 (bif inb (List.getD l40 (Int.toNat t32) 0) (List.length (List.set l33 (Int.toNat (List.getD l40 (Int.toNat t32) 0)) 0)) then
 (share (List.set l33 (Int.toNat (List.getD l40 (Int.toNat t32) 0)) 0) fun s56 =>
 (Zac N rec code27 kids28 order29 i30 t31 b34 b35 b36 b37 l38 l39 l40 l42 K0 n (iadd .i64 t32 1) (List.set s56 (Int.toNat (List.getD l40 (Int.toNat t32) 0)) (List.getD o55.2.1.2.1 (Int.toNat 0) 0)) o55.2.1.2.2.1)) else none) else none)
 else
 (Zac N rec code27 kids28 order29 i30 t31 b34 b35 b36 b37 l38 l39 l40 l42 K0 n (iadd .i64 t32 1) (List.set l33 (Int.toNat (List.getD l40 (Int.toNat t32) 0)) 0) o55.2.1.2.2.1)) else none)) else none) else none)
 (bif inb (List.getD l40 (Int.toNat t32) 0) (List.length kids28) then
 (bif ((decide ((0 : Int) ≤ 8)) && (decide ((8 : Int) ≤ 8))) && (room (Int.toNat 8)) then
 ((rec (List.getD kids28 (Int.toNat (List.getD l40 (Int.toNat t32) 0)) ([] : List (Int × Int × Int × Int))) ([] : List (List (Int × Int × Int × Int))) ([] : List Int) l39 (l41, (List.replicate (Int.toNat 8) 0, 0))).bind fun o57 =>
 (bif inb (List.getD l40 (Int.toNat t32) 0) (List.length l33) then
 (bif o57.2.1.1 == 1 then
 (bif inb 0 (List.length o57.2.1.2.1) then
 (bif inb (List.getD l40 (Int.toNat t32) 0) (List.length (List.set l33 (Int.toNat (List.getD l40 (Int.toNat t32) 0)) 0)) then
 (share (List.set l33 (Int.toNat (List.getD l40 (Int.toNat t32) 0)) 0) fun s58 =>
 (Zac N rec code27 kids28 order29 i30 t31 b34 b35 b36 b37 l38 l39 l40 l42 K0 n (iadd .i64 t32 1) (List.set s58 (Int.toNat (List.getD l40 (Int.toNat t32) 0)) (List.getD o57.2.1.2.1 (Int.toNat 0) 0)) o57.2.1.2.2.1)) else none) else none)
 else
 (Zac N rec code27 kids28 order29 i30 t31 b34 b35 b36 b37 l38 l39 l40 l42 K0 n (iadd .i64 t32 1) (List.set l33 (Int.toNat (List.getD l40 (Int.toNat t32) 0)) 0) o57.2.1.2.2.1)) else none)) else none) else none))) else none)
 else
 (K0 t32 (decide (t32 < t31)) l33 l41))
end Go.Sx
