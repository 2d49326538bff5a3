/- What each Go function computes, as a Lean function. -/
import Derived.Test.YtceckfecihemnaaGreatT
namespace Go.Sx
set_option linter.unusedVariables false
noncomputable def Zh {R : Type} (N : Nat) (rec : (List (Int × Int × Int × Int)) → (List (List (Int × Int × Int × Int))) → (List Int) → (List Int) → (List Int × List Int × Int) → Option (Unit × ((Int × List Int × List Int × List Int × Int) × Unit))) (code8 : List (Int × Int × Int × Int)) (kids9 : List (List (Int × Int × Int × Int))) (order10 : List Int) (b13 : List Int × List Int × Int) (K0 : Int → (List Int) → (List Int) → (List Int) → Option R) (K1 : Int → Bool → (List Int) → Int → (List (Int × List Int × List Int × List Int × Int)) → (List Int) → (List Int) → Option R) : Nat → Int → (List Int) → Int → (List (Int × List Int × List Int × List Int × Int)) → (List Int) → (List Int) → Option R
  | 0, _, _, _, _, _, _ => none
  | n + 1, i11, l12, b16, l17, l18, l19 =>
    (bif decide (i11 < (ilen code8)) then
 (bif inb i11 (List.length code8) then
 (bif (List.getD code8 (Int.toNat i11) (0, 0, 0, 0)).1 == 1 then
 (bif (List.getD code8 (Int.toNat i11) (0, 0, 0, 0)).1 == 1 then
 ((Zed N (List.getD code8 (Int.toNat i11) (0, 0, 0, 0)) l12).bind fun o159 =>
 (Zh N rec code8 kids9 order10 b13 K0 K1 n (iadd .i64 i11 1) o159.2.1 b16 l17 l18 l19))
 else
 (bif (List.getD code8 (Int.toNat i11) (0, 0, 0, 0)).1 == 7 then
 (bif inb (List.getD code8 (Int.toNat i11) (0, 0, 0, 0)).2.1 (List.length l12) then
 (bif (List.getD l12 (Int.toNat (List.getD code8 (Int.toNat i11) (0, 0, 0, 0)).2.1) 0) == 0 then
 (Zh N rec code8 kids9 order10 b13 K0 K1 n (iadd .i64 (iadd .i64 i11 (List.getD code8 (Int.toNat i11) (0, 0, 0, 0)).2.2.1) 1) l12 b16 l17 l18 l19)
 else
 (Zh N rec code8 kids9 order10 b13 K0 K1 n (iadd .i64 i11 1) l12 b16 l17 l18 l19)) else none)
 else
 (bif (List.getD code8 (Int.toNat i11) (0, 0, 0, 0)).1 == 8 then
 ((Zl N l12).bind fun o160 =>
 ((Zab N (l18, (l19, b16))).bind fun o161 =>
 (bif room ((List.length l17) + (List.length ([(i11, (o160.2.1, o161.2.1))]))) then
 (Zh N rec code8 kids9 order10 b13 K0 K1 n (iadd .i64 i11 1) l12 b16 (List.append l17 ([(i11, (o160.2.1, o161.2.1))])) l18 l19) else none)))
 else
 (bif (List.getD code8 (Int.toNat i11) (0, 0, 0, 0)).1 == 9 then
 (bif inb (isub .i64 (ilen l17) 1) (List.length l17) then
 (bif ((decide ((0 : Int) ≤ (isub .i64 (ilen l17) 1))) && (decide ((isub .i64 (ilen l17) 1) ≤ ((List.length l17) : Int)))) && (decide ((isub .i64 (ilen l17) 1) ≤ ((Int.toNat (isub .i64 (ilen l17) 1)) : Int))) then
 (bif inb (List.getD l17 (Int.toNat (isub .i64 (ilen l17) 1)) (0, (([] : List Int), (([] : List Int), (([] : List Int), 0))))).1 (List.length code8) then
 (bif inb (List.getD code8 (Int.toNat (List.getD l17 (Int.toNat (isub .i64 (ilen l17) 1)) (0, (([] : List Int), (([] : List Int), (([] : List Int), 0))))).1) (0, 0, 0, 0)).2.1 (List.length l12) then
 (Zh N rec code8 kids9 order10 b13 K0 K1 n (iadd .i64 i11 1) (List.set l12 (Int.toNat (List.getD code8 (Int.toNat (List.getD l17 (Int.toNat (isub .i64 (ilen l17) 1)) (0, (([] : List Int), (([] : List Int), (([] : List Int), 0))))).1) (0, 0, 0, 0)).2.1) 1) b16 (List.take (Int.toNat (isub .i64 (ilen l17) 1)) l17) l18 l19) else none) else none) else none) else none)
 else
 (bif (List.getD code8 (Int.toNat i11) (0, 0, 0, 0)).1 == 10 then
 (bif (ilen l17) == 0 then
 ((Zab N b13).bind fun o162 =>
 (K0 o162.2.1.2.2 l12 o162.2.1.1 o162.2.1.2.1))
 else
 (bif inb (isub .i64 (ilen l17) 1) (List.length l17) then
 (bif ((decide ((0 : Int) ≤ (isub .i64 (ilen l17) 1))) && (decide ((isub .i64 (ilen l17) 1) ≤ ((List.length l17) : Int)))) && (decide ((isub .i64 (ilen l17) 1) ≤ ((Int.toNat (isub .i64 (ilen l17) 1)) : Int))) then
 (bif inb (List.getD l17 (Int.toNat (isub .i64 (ilen l17) 1)) (0, (([] : List Int), (([] : List Int), (([] : List Int), 0))))).1 (List.length code8) then
 (bif inb (List.getD code8 (Int.toNat (List.getD l17 (Int.toNat (isub .i64 (ilen l17) 1)) (0, (([] : List Int), (([] : List Int), (([] : List Int), 0))))).1) (0, 0, 0, 0)).2.1 (List.length (List.getD l17 (Int.toNat (isub .i64 (ilen l17) 1)) (0, (([] : List Int), (([] : List Int), (([] : List Int), 0))))).2.1) then
 ((Zbd N code8 (List.getD l17 (Int.toNat (isub .i64 (ilen l17) 1)) (0, (([] : List Int), (([] : List Int), (([] : List Int), 0))))).1).bind fun o163 =>
 (Zh N rec code8 kids9 order10 b13 K0 K1 n (iadd .i64 o163.2.1 1) (List.set (List.getD l17 (Int.toNat (isub .i64 (ilen l17) 1)) (0, (([] : List Int), (([] : List Int), (([] : List Int), 0))))).2.1 (Int.toNat (List.getD code8 (Int.toNat (List.getD l17 (Int.toNat (isub .i64 (ilen l17) 1)) (0, (([] : List Int), (([] : List Int), (([] : List Int), 0))))).1) (0, 0, 0, 0)).2.1) 0) (List.getD l17 (Int.toNat (isub .i64 (ilen l17) 1)) (0, (([] : List Int), (([] : List Int), (([] : List Int), 0))))).2.2.2.2 (List.take (Int.toNat (isub .i64 (ilen l17) 1)) l17) (List.getD l17 (Int.toNat (isub .i64 (ilen l17) 1)) (0, (([] : List Int), (([] : List Int), (([] : List Int), 0))))).2.2.1 (List.getD l17 (Int.toNat (isub .i64 (ilen l17) 1)) (0, (([] : List Int), (([] : List Int), (([] : List Int), 0))))).2.2.2.1)) else none) else none) else none) else none))
 else
 (bif (List.getD code8 (Int.toNat i11) (0, 0, 0, 0)).1 == 11 then
 ((Zl N l12).bind fun o164 =>
 ((Zba N order10 (ilen kids9)).bind fun o165 =>
 (Zac N rec code8 kids9 order10 i11 (ilen o165.2.1) b13 0 0 b16 l17 o164.2.1 o165.2.1 l19
 (fun t166 t167 l168 l169 =>
   (Zh N rec code8 kids9 order10 b13 K0 K1 n (iadd .i64 i11 1) l168 b16 l17 l169 l19))
  N 0 l12 l18)))
 else
 ((Zei N (List.getD code8 (Int.toNat i11) (0, 0, 0, 0)) l12 (l18, (l19, b16))).bind fun o170 =>
 (Zh N rec code8 kids9 order10 b13 K0 K1 n (iadd .i64 i11 1) o170.1.1 o170.1.2.1.2.2 l17 o170.1.2.1.1 o170.1.2.1.2.1))))))))
 else
 (bif (List.getD code8 (Int.toNat i11) (0, 0, 0, 0)).1 == 2 then
 (bif (List.getD code8 (Int.toNat i11) (0, 0, 0, 0)).1 == 2 then
 ((Zed N (List.getD code8 (Int.toNat i11) (0, 0, 0, 0)) l12).bind fun o171 =>
 (Zh N rec code8 kids9 order10 b13 K0 K1 n (iadd .i64 i11 1) o171.2.1 b16 l17 l18 l19))
 else
 (bif (List.getD code8 (Int.toNat i11) (0, 0, 0, 0)).1 == 7 then
 (bif inb (List.getD code8 (Int.toNat i11) (0, 0, 0, 0)).2.1 (List.length l12) then
 (bif (List.getD l12 (Int.toNat (List.getD code8 (Int.toNat i11) (0, 0, 0, 0)).2.1) 0) == 0 then
 (Zh N rec code8 kids9 order10 b13 K0 K1 n (iadd .i64 (iadd .i64 i11 (List.getD code8 (Int.toNat i11) (0, 0, 0, 0)).2.2.1) 1) l12 b16 l17 l18 l19)
 else
 (Zh N rec code8 kids9 order10 b13 K0 K1 n (iadd .i64 i11 1) l12 b16 l17 l18 l19)) else none)
 else
 (bif (List.getD code8 (Int.toNat i11) (0, 0, 0, 0)).1 == 8 then
 ((Zl N l12).bind fun o172 =>
 ((Zab N (l18, (l19, b16))).bind fun o173 =>
 (bif room ((List.length l17) + (List.length ([(i11, (o172.2.1, o173.2.1))]))) then
 (Zh N rec code8 kids9 order10 b13 K0 K1 n (iadd .i64 i11 1) l12 b16 (List.append l17 ([(i11, (o172.2.1, o173.2.1))])) l18 l19) else none)))
 else
 (bif (List.getD code8 (Int.toNat i11) (0, 0, 0, 0)).1 == 9 then
 (bif inb (isub .i64 (ilen l17) 1) (List.length l17) then
 (bif ((decide ((0 : Int) ≤ (isub .i64 (ilen l17) 1))) && (decide ((isub .i64 (ilen l17) 1) ≤ ((List.length l17) : Int)))) && (decide ((isub .i64 (ilen l17) 1) ≤ ((Int.toNat (isub .i64 (ilen l17) 1)) : Int))) then
 (bif inb (List.getD l17 (Int.toNat (isub .i64 (ilen l17) 1)) (0, (([] : List Int), (([] : List Int), (([] : List Int), 0))))).1 (List.length code8) then
 (bif inb (List.getD code8 (Int.toNat (List.getD l17 (Int.toNat (isub .i64 (ilen l17) 1)) (0, (([] : List Int), (([] : List Int), (([] : List Int), 0))))).1) (0, 0, 0, 0)).2.1 (List.length l12) then
 (Zh N rec code8 kids9 order10 b13 K0 K1 n (iadd .i64 i11 1) (List.set l12 (Int.toNat (List.getD code8 (Int.toNat (List.getD l17 (Int.toNat (isub .i64 (ilen l17) 1)) (0, (([] : List Int), (([] : List Int), (([] : List Int), 0))))).1) (0, 0, 0, 0)).2.1) 1) b16 (List.take (Int.toNat (isub .i64 (ilen l17) 1)) l17) l18 l19) else none) else none) else none) else none)
 else
 (bif (List.getD code8 (Int.toNat i11) (0, 0, 0, 0)).1 == 10 then
 (bif (ilen l17) == 0 then
 ((Zab N b13).bind fun o174 =>
 (K0 o174.2.1.2.2 l12 o174.2.1.1 o174.2.1.2.1))
 else
 (bif inb (isub .i64 (ilen l17) 1) (List.length l17) then
 (bif ((decide ((0 : Int) ≤ (isub .i64 (ilen l17) 1))) && (decide ((isub .i64 (ilen l17) 1) ≤ ((List.length l17) : Int)))) && (decide ((isub .i64 (ilen l17) 1) ≤ ((Int.toNat (isub .i64 (ilen l17) 1)) : Int))) then
 (bif inb (List.getD l17 (Int.toNat (isub .i64 (ilen l17) 1)) (0, (([] : List Int), (([] : List Int), (([] : List Int), 0))))).1 (List.length code8) then
 (bif inb (List.getD code8 (Int.toNat (List.getD l17 (Int.toNat (isub .i64 (ilen l17) 1)) (0, (([] : List Int), (([] : List Int), (([] : List Int), 0))))).1) (0, 0, 0, 0)).2.1 (List.length (List.getD l17 (Int.toNat (isub .i64 (ilen l17) 1)) (0, (([] : List Int), (([] : List Int), (([] : List Int), 0))))).2.1) then
 ((Zbd N code8 (List.getD l17 (Int.toNat (isub .i64 (ilen l17) 1)) (0, (([] : List Int), (([] : List Int), (([] : List Int), 0))))).1).bind fun o175 =>
 (Zh N rec code8 kids9 order10 b13 K0 K1 n (iadd .i64 o175.2.1 1) (List.set (List.getD l17 (Int.toNat (isub .i64 (ilen l17) 1)) (0, (([] : List Int), (([] : List Int), (([] : List Int), 0))))).2.1 (Int.toNat (List.getD code8 (Int.toNat (List.getD l17 (Int.toNat (isub .i64 (ilen l17) 1)) (0, (([] : List Int), (([] : List Int), (([] : List Int), 0))))).1) (0, 0, 0, 0)).2.1) 0) (List.getD l17 (Int.toNat (isub .i64 (ilen l17) 1)) (0, (([] : List Int), (([] : List Int), (([] : List Int), 0))))).2.2.2.2 (List.take (Int.toNat (isub .i64 (ilen l17) 1)) l17) (List.getD l17 (Int.toNat (isub .i64 (ilen l17) 1)) (0, (([] : List Int), (([] : List Int), (([] : List Int), 0))))).2.2.1 (List.getD l17 (Int.toNat (isub .i64 (ilen l17) 1)) (0, (([] : List Int), (([] : List Int), (([] : List Int), 0))))).2.2.2.1)) else none) else none) else none) else none))
 else
 (bif (List.getD code8 (Int.toNat i11) (0, 0, 0, 0)).1 == 11 then
 ((Zl N l12).bind fun o176 =>
 ((Zba N order10 (ilen kids9)).bind fun o177 =>
 (Zac N rec code8 kids9 order10 i11 (ilen o177.2.1) b13 0 0 b16 l17 o176.2.1 o177.2.1 l19
 (fun t178 t179 l180 l181 =>
   (Zh N rec code8 kids9 order10 b13 K0 K1 n (iadd .i64 i11 1) l180 b16 l17 l181 l19))
  N 0 l12 l18)))
 else
 ((Zei N (List.getD code8 (Int.toNat i11) (0, 0, 0, 0)) l12 (l18, (l19, b16))).bind fun o182 =>
 (Zh N rec code8 kids9 order10 b13 K0 K1 n (iadd .i64 i11 1) o182.1.1 o182.1.2.1.2.2 l17 o182.1.2.1.1 o182.1.2.1.2.1))))))))
 else
 (bif (List.getD code8 (Int.toNat i11) (0, 0, 0, 0)).1 == 3 then
 (bif (List.getD code8 (Int.toNat i11) (0, 0, 0, 0)).1 == 3 then
 ((Zed N (List.getD code8 (Int.toNat i11) (0, 0, 0, 0)) l12).bind fun o183 =>
 (Zh N rec code8 kids9 order10 b13 K0 K1 n (iadd .i64 i11 1) o183.2.1 b16 l17 l18 l19))
 else
 (bif (List.getD code8 (Int.toNat i11) (0, 0, 0, 0)).1 == 7 then
 (bif inb (List.getD code8 (Int.toNat i11) (0, 0, 0, 0)).2.1 (List.length l12) then
 (bif (List.getD l12 (Int.toNat (List.getD code8 (Int.toNat i11) (0, 0, 0, 0)).2.1) 0) == 0 then
 (Zh N rec code8 kids9 order10 b13 K0 K1 n (iadd .i64 (iadd .i64 i11 (List.getD code8 (Int.toNat i11) (0, 0, 0, 0)).2.2.1) 1) l12 b16 l17 l18 l19)
 else
 (Zh N rec code8 kids9 order10 b13 K0 K1 n (iadd .i64 i11 1) l12 b16 l17 l18 l19)) else none)
 else
 (bif (List.getD code8 (Int.toNat i11) (0, 0, 0, 0)).1 == 8 then
 ((Zl N l12).bind fun o184 =>
 ((Zab N (l18, (l19, b16))).bind fun o185 =>
 (bif room ((List.length l17) + (List.length ([(i11, (o184.2.1, o185.2.1))]))) then
 (Zh N rec code8 kids9 order10 b13 K0 K1 n (iadd .i64 i11 1) l12 b16 (List.append l17 ([(i11, (o184.2.1, o185.2.1))])) l18 l19) else none)))
 else
 (bif (List.getD code8 (Int.toNat i11) (0, 0, 0, 0)).1 == 9 then
 (bif inb (isub .i64 (ilen l17) 1) (List.length l17) then
 (bif ((decide ((0 : Int) ≤ (isub .i64 (ilen l17) 1))) && (decide ((isub .i64 (ilen l17) 1) ≤ ((List.length l17) : Int)))) && (decide ((isub .i64 (ilen l17) 1) ≤ ((Int.toNat (isub .i64 (ilen l17) 1)) : Int))) then
 (bif inb (List.getD l17 (Int.toNat (isub .i64 (ilen l17) 1)) (0, (([] : List Int), (([] : List Int), (([] : List Int), 0))))).1 (List.length code8) then
 (bif inb (List.getD code8 (Int.toNat (List.getD l17 (Int.toNat (isub .i64 (ilen l17) 1)) (0, (([] : List Int), (([] : List Int), (([] : List Int), 0))))).1) (0, 0, 0, 0)).2.1 (List.length l12) then
 (Zh N rec code8 kids9 order10 b13 K0 K1 n (iadd .i64 i11 1) (List.set l12 (Int.toNat (List.getD code8 (Int.toNat (List.getD l17 (Int.toNat (isub .i64 (ilen l17) 1)) (0, (([] : List Int), (([] : List Int), (([] : List Int), 0))))).1) (0, 0, 0, 0)).2.1) 1) b16 (List.take (Int.toNat (isub .i64 (ilen l17) 1)) l17) l18 l19) else none) else none) else none) else none)
 else
 (bif (List.getD code8 (Int.toNat i11) (0, 0, 0, 0)).1 == 10 then
 (bif (ilen l17) == 0 then
 ((Zab N b13).bind fun o186 =>
 (K0 o186.2.1.2.2 l12 o186.2.1.1 o186.2.1.2.1))
 else
 (bif inb (isub .i64 (ilen l17) 1) (List.length l17) then
 (bif ((decide ((0 : Int) ≤ (isub .i64 (ilen l17) 1))) && (decide ((isub .i64 (ilen l17) 1) ≤ ((List.length l17) : Int)))) && (decide ((isub .i64 (ilen l17) 1) ≤ ((Int.toNat (isub .i64 (ilen l17) 1)) : Int))) then
 (bif inb (List.getD l17 (Int.toNat (isub .i64 (ilen l17) 1)) (0, (([] : List Int), (([] : List Int), (([] : List Int), 0))))).1 (List.length code8) then
 (bif inb (List.getD code8 (Int.toNat (List.getD l17 (Int.toNat (isub .i64 (ilen l17) 1)) (0, (([] : List Int), (([] : List Int), (([] : List Int), 0))))).1) (0, 0, 0, 0)).2.1 (List.length (List.getD l17 (Int.toNat (isub .i64 (ilen l17) 1)) (0, (([] : List Int), (([] : List Int), (([] : List Int), 0))))).2.1) then
 ((Zbd N code8 (List.getD l17 (Int.toNat (isub .i64 (ilen l17) 1)) (0, (([] : List Int), (([] : List Int), (([] : List Int), 0))))).1).bind fun o187 =>
 (Zh N rec code8 kids9 order10 b13 K0 K1 n (iadd .i64 o187.2.1 1) (List.set (List.getD l17 (Int.toNat (isub .i64 (ilen l17) 1)) (0, (([] : List Int), (([] : List Int), (([] : List Int), 0))))).2.1 (Int.toNat (List.getD code8 (Int.toNat (List.getD l17 (Int.toNat (isub .i64 (ilen l17) 1)) (0, (([] : List Int), (([] : List Int), (([] : List Int), 0))))).1) (0, 0, 0, 0)).2.1) 0) (List.getD l17 (Int.toNat (isub .i64 (ilen l17) 1)) (0, (([] : List Int), (([] : List Int), (([] : List Int), 0))))).2.2.2.2 (List.take (Int.toNat (isub .i64 (ilen l17) 1)) l17) (List.getD l17 (Int.toNat (isub .i64 (ilen l17) 1)) (0, (([] : List Int), (([] : List Int), (([] : List Int), 0))))).2.2.1 (List.getD l17 (Int.toNat (isub .i64 (ilen l17) 1)) (0, (([] : List Int), (([] : List Int), (([] : List Int), 0))))).2.2.2.1)) else none) else none) else none) else none))
 else
 (bif (List.getD code8 (Int.toNat i11) (0, 0, 0, 0)).1 == 11 then
 ((Zl N l12).bind fun o188 =>
 ((Zba N order10 (ilen kids9)).bind fun o189 =>
 (Zac N rec code8 kids9 order10 i11 (ilen o189.2.1) b13 0 0 b16 l17 o188.2.1 o189.2.1 l19
 (fun t190 t191 l192 l193 =>
   (Zh N rec code8 kids9 order10 b13 K0 K1 n (iadd .i64 i11 1) l192 b16 l17 l193 l19))
  N 0 l12 l18)))
 else
 ((Zei N (List.getD code8 (Int.toNat i11) (0, 0, 0, 0)) l12 (l18, (l19, b16))).bind fun o194 =>
 (Zh N rec code8 kids9 order10 b13 K0 K1 n (iadd .i64 i11 1) o194.1.1 o194.1.2.1.2.2 l17 o194.1.2.1.1 o194.1.2.1.2.1))))))))
 else
 (bif (List.getD code8 (Int.toNat i11) (0, 0, 0, 0)).1 == 4 then
 ((Zed N (List.getD code8 (Int.toNat i11) (0, 0, 0, 0)) l12).bind fun o195 =>
 (Zh N rec code8 kids9 order10 b13 K0 K1 n (iadd .i64 i11 1) o195.2.1 b16 l17 l18 l19))
 else
 (bif (List.getD code8 (Int.toNat i11) (0, 0, 0, 0)).1 == 7 then
 (bif inb (List.getD code8 (Int.toNat i11) (0, 0, 0, 0)).2.1 (List.length l12) then
 (bif (List.getD l12 (Int.toNat (List.getD code8 (Int.toNat i11) (0, 0, 0, 0)).2.1) 0) == 0 then
 (Zh N rec code8 kids9 order10 b13 K0 K1 n (iadd .i64 (iadd .i64 i11 (List.getD code8 (Int.toNat i11) (0, 0, 0, 0)).2.2.1) 1) l12 b16 l17 l18 l19)
 else
 (Zh N rec code8 kids9 order10 b13 K0 K1 n (iadd .i64 i11 1) l12 b16 l17 l18 l19)) else none)
 else
 (bif (List.getD code8 (Int.toNat i11) (0, 0, 0, 0)).1 == 8 then
 ((Zl N l12).bind fun o196 =>
 ((Zab N (l18, (l19, b16))).bind fun o197 =>
 (bif room ((List.length l17) + (List.length ([(i11, (o196.2.1, o197.2.1))]))) then
 (Zh N rec code8 kids9 order10 b13 K0 K1 n (iadd .i64 i11 1) l12 b16 (List.append l17 ([(i11, (o196.2.1, o197.2.1))])) l18 l19) else none)))
 else
 (bif (List.getD code8 (Int.toNat i11) (0, 0, 0, 0)).1 == 9 then
 (bif inb (isub .i64 (ilen l17) 1) (List.length l17) then
 (bif ((decide ((0 : Int) ≤ (isub .i64 (ilen l17) 1))) && (decide ((isub .i64 (ilen l17) 1) ≤ ((List.length l17) : Int)))) && (decide ((isub .i64 (ilen l17) 1) ≤ ((Int.toNat (isub .i64 (ilen l17) 1)) : Int))) then
 (bif inb (List.getD l17 (Int.toNat (isub .i64 (ilen l17) 1)) (0, (([] : List Int), (([] : List Int), (([] : List Int), 0))))).1 (List.length code8) then
 (bif inb (List.getD code8 (Int.toNat (List.getD l17 (Int.toNat (isub .i64 (ilen l17) 1)) (0, (([] : List Int), (([] : List Int), (([] : List Int), 0))))).1) (0, 0, 0, 0)).2.1 (List.length l12) then
 (Zh N rec code8 kids9 order10 b13 K0 K1 n (iadd .i64 i11 1) (List.set l12 (Int.toNat (List.getD code8 (Int.toNat (List.getD l17 (Int.toNat (isub .i64 (ilen l17) 1)) (0, (([] : List Int), (([] : List Int), (([] : List Int), 0))))).1) (0, 0, 0, 0)).2.1) 1) b16 (List.take (Int.toNat (isub .i64 (ilen l17) 1)) l17) l18 l19) else none) else none) else none) else none)
 else
 (bif (List.getD code8 (Int.toNat i11) (0, 0, 0, 0)).1 == 10 then
 (bif (ilen l17) == 0 then
 ((Zab N b13).bind fun o198 =>
 (K0 o198.2.1.2.2 l12 o198.2.1.1 o198.2.1.2.1))
 else
 (bif inb (isub .i64 (ilen l17) 1) (List.length l17) then
 (bif ((decide ((0 : Int) ≤ (isub .i64 (ilen l17) 1))) && (decide ((isub .i64 (ilen l17) 1) ≤ ((List.length l17) : Int)))) && (decide ((isub .i64 (ilen l17) 1) ≤ ((Int.toNat (isub .i64 (ilen l17) 1)) : Int))) then
 (bif inb (List.getD l17 (Int.toNat (isub .i64 (ilen l17) 1)) (0, (([] : List Int), (([] : List Int), (([] : List Int), 0))))).1 (List.length code8) then
 (bif inb (List.getD code8 (Int.toNat (List.getD l17 (Int.toNat (isub .i64 (ilen l17) 1)) (0, (([] : List Int), (([] : List Int), (([] : List Int), 0))))).1) (0, 0, 0, 0)).2.1 (List.length (List.getD l17 (Int.toNat (isub .i64 (ilen l17) 1)) (0, (([] : List Int), (([] : List Int), (([] : List Int), 0))))).2.1) then
 ((Zbd N code8 (List.getD l17 (Int.toNat (isub .i64 (ilen l17) 1)) (0, (([] : List Int), (([] : List Int), (([] : List Int), 0))))).1).bind fun o199 =>
 (Zh N rec code8 kids9 order10 b13 K0 K1 n (iadd .i64 o199.2.1 1) (List.set (List.getD l17 (Int.toNat (isub .i64 (ilen l17) 1)) (0, (([] : List Int), (([] : List Int), (([] : List Int), 0))))).2.1 (Int.toNat (List.getD code8 (Int.toNat (List.getD l17 (Int.toNat (isub .i64 (ilen l17) 1)) (0, (([] : List Int), (([] : List Int), (([] : List Int), 0))))).1) (0, 0, 0, 0)).2.1) 0) (List.getD l17 (Int.toNat (isub .i64 (ilen l17) 1)) (0, (([] : List Int), (([] : List Int), (([] : List Int), 0))))).2.2.2.2 (List.take (Int.toNat (isub .i64 (ilen l17) 1)) l17) (List.getD l17 (Int.toNat (isub .i64 (ilen l17) 1)) (0, (([] : List Int), (([] : List Int), (([] : List Int), 0))))).2.2.1 (List.getD l17 (Int.toNat (isub .i64 (ilen l17) 1)) (0, (([] : List Int), (([] : List Int), (([] : List Int), 0))))).2.2.2.1)) else none) else none) else none) else none))
 else
 (bif (List.getD code8 (Int.toNat i11) (0, 0, 0, 0)).1 == 11 then
 ((Zl N l12).bind fun o200 =>
 ((Zba N order10 (ilen kids9)).bind fun o201 =>
 (Zac N rec code8 kids9 order10 i11 (ilen o201.2.1) b13 0 0 b16 l17 o200.2.1 o201.2.1 l19
 (fun t202 t203 l204 l205 =>
   (Zh N rec code8 kids9 order10 b13 K0 K1 n (iadd .i64 i11 1) l204 b16 l17 l205 l19))
  N 0 l12 l18)))
 else
 ((Zei N (List.getD code8 (Int.toNat i11) (0, 0, 0, 0)) l12 (l18, (l19, b16))).bind fun o206 =>
 (Zh N rec code8 kids9 order10 b13 K0 K1 n (iadd .i64 i11 1) o206.1.1 o206.1.2.1.2.2 l17 o206.1.2.1.1 o206.1.2.1.2.1))))))))))) else none)
 else
 (K1 i11 (decide (i11 < (ilen code8))) l12 b16 l17 l18 l19))
noncomputable def Zan (N : Nat) : Nat → (List (Int × Int × Int × Int)) → (List (List (Int × Int × Int × Int))) → (List Int) → (List Int) → (List Int × List Int × Int) → Option (Unit × ((Int × List Int × List Int × List Int × Int) × Unit))
  | 0, _, _, _, _, _ => none
  | m + 1, code1, kids2, order3, regs4, first5 =>
    ((Zl N regs4).bind fun o6 =>
 ((Zab N first5).bind fun o7 =>
 (Zh N (Zan N m) code1 kids2 order3 first5
 (fun b207 l208 l209 l210 =>
   (some ((), ((2, (l208, (l209, (l210, b207)))), ()))))
 (fun i211 t212 l213 b214 l215 l216 l217 =>
   (some ((), ((1, (l213, (l216, (l217, b214)))), ()))))
  N 0 o6.2.1 o7.2.1.2.2 ([] : List (Int × List Int × List Int × List Int × Int)) o7.2.1.1 o7.2.1.2.1)))
noncomputable def Znc (N : Nat) (code1 : List (Int × Int × Int × Int)) (kids2 : List (List (Int × Int × Int × Int))) (order3 : List Int) (regs4 : List Int) (first5 : List Int × List Int × Int) : Option (Unit × ((Int × List Int × List Int × List Int × Int) × Unit)) := Zan N N code1 kids2 order3 regs4 first5
noncomputable def Zfb (N : Nat) (code1 : List (Int × Int × Int × Int)) (regs2 : List Int) (cells3 : List Int) : Option (Unit × (Int × ((List Int) × ((List Int) × Unit)))) :=
    ((Zcg N code1).bind fun o4 =>
 (bif !o4.2.1 then
 (some ((), (0, (([] : List Int), (([] : List Int), ())))))
 else
 ((Zx N regs2 4).bind fun o5 =>
 (bif !o5.2.1 then
 (some ((), (0, (([] : List Int), (([] : List Int), ())))))
 else
 ((Zx N cells3 8).bind fun o6 =>
 (bif !o6.2.1 then
 (some ((), (0, (([] : List Int), (([] : List Int), ())))))
 else
 (bif ((decide ((0 : Int) ≤ 8)) && (decide ((8 : Int) ≤ 8))) && (room (Int.toNat 8)) then
 ((Znc N code1 ([] : List (List (Int × Int × Int × Int))) ([] : List Int) regs2 (cells3, (List.replicate (Int.toNat 8) 0, 0))).bind fun o7 =>
 (some ((), (o7.2.1.1, (o7.2.1.2.1, (o7.2.1.2.2.1, ())))))) else none)))))))
noncomputable def Zb6 {R : Type} (N : Nat) (regs5 : List Int) (cells6 : List Int) (t7 : List (List (Int × Int × Int × Int))) (K0 : Int → (List Int) → (List Int) → Option R) (K1 : Int → Bool → (List Int) → Option R) : Nat → Int → (List Int) → Option R
  | 0, _, _ => none
  | n + 1, t9, l11 =>
    (bif decide (t9 < (ilen t7)) then
 (bif inb t9 (List.length t7) then
 ((Zfb N (List.getD t7 (Int.toNat t9) ([] : List (Int × Int × Int × Int))) regs5 cells6).bind fun o22 =>
 (bif o22.2.1 == 1 then
 (K0 t9 o22.2.2.1 o22.2.2.2.1)
 else
 ((Zgz N (List.getD t7 (Int.toNat t9) ([] : List (Int × Int × Int × Int))) regs5 cells6).bind fun o23 =>
 (bif room ((List.length l11) + (List.length o23.2.1)) then
 (Zb6 N regs5 cells6 t7 K0 K1 n (iadd .i64 t9 1) (List.append l11 o23.2.1)) else none)))) else none)
 else
 (K1 t9 (decide (t9 < (ilen t7))) l11))
noncomputable def Zat (N : Nat) (l1 : List (List (Int × Int × Int × Int))) (regs2 : List Int) (cells3 : List Int) : Option (Unit × ((Int × List Int × List Int × List Int) × Unit)) :=
    ((Zfn N l1 regs2 cells3).bind fun o4 =>
 (bif !o4.2.1 then
 (some ((), (((-1 : Int), (([] : List Int), (([] : List Int), ([] : List Int)))), ())))
 else
 (Zb6 N regs2 cells3 l1
 (fun b24 l25 l26 =>
   (some ((), ((b24, (l25, (l26, ([] : List Int)))), ()))))
 (fun t27 t28 l29 =>
   ((Zap N l29).bind fun o30 =>
 ((Zl N regs2).bind fun o31 =>
 ((Zl N cells3).bind fun o32 =>
 ((Zu N o30.1.1).bind fun o33 =>
 (some ((), (((-1 : Int), (o31.2.1, (o32.2.1, o33.2.1))), ()))))))))
  N 0 ([] : List Int))))
noncomputable def Zhb (N : Nat) (code1 : List Int) : Option (Unit × ((List (List (Int × Int × Int × Int))) × ((List Int) × ((List Int) × Unit)))) :=
    ((Zcf N code1).bind fun o2 =>
 ((Zbw N o2.2.1).bind fun o3 =>
 (some ((), (o3.2.1, (o3.2.2.1, (o3.2.2.2.1, ())))))))
noncomputable def Zdn {R : Type} (N : Nat) (l3 : List Int) (x4 : Int) (K0 : Option R) (K1 : Int → Bool → Option R) : Nat → Int → Option R
  | 0, _ => none
  | n + 1, i5 =>
    (bif decide (i5 < (ilen l3)) then
 (bif inb i5 (List.length l3) then
 (bif (List.getD l3 (Int.toNat i5) 0) == x4 then
 K0
 else
 (Zdn N l3 x4 K0 K1 n (iadd .i64 i5 1))) else none)
 else
 (K1 i5 (decide (i5 < (ilen l3)))))
noncomputable def Zec (N : Nat) (l1 : List Int) (x2 : Int) : Option (Unit × (Bool × Unit)) :=
    (Zdn N l1 x2
 (some ((), (true, ())))
 (fun i8 t9 =>
   (some ((), (false, ()))))
  N 0)
noncomputable def Zag {R : Type} (N : Nat) (code6 : List Int) (l8 : List (List (Int × Int × Int × Int))) (l9 : List Int) (l10 : List Int) (b11 : Int) (l12 : List Int) (l13 : List Int) (l14 : List Int) (K0 : Option R) (K1 : Int → Bool → Option R) : Nat → Int → Option R
  | 0, _ => none
  | n + 1, i7 =>
    (bif decide (i7 < (ilen l8)) then
 (bif decide (b11 < 0) then
 (bif inb i7 (List.length l8) then
 ((Zdm N (List.getD l8 (Int.toNat i7) ([] : List (Int × Int × Int × Int))) l9 l10).bind fun o23 =>
 (bif !(beq (o23.2.1 == 1) (i7 == b11)) then
 K0
 else
 (bif i7 == b11 then
 ((Zam N o23.2.2.1 l12).bind fun o24 =>
 (bif !o24.2.1 then
 K0
 else
 ((Zam N o23.2.2.2.1 l13).bind fun o25 =>
 (bif !o25.2.1 then
 K0
 else
 (Zag N code6 l8 l9 l10 b11 l12 l13 l14 K0 K1 n (iadd .i64 i7 1))))))
 else
 (Zag N code6 l8 l9 l10 b11 l12 l13 l14 K0 K1 n (iadd .i64 i7 1))))) else none)
 else
 (bif decide (i7 ≤ b11) then
 (bif inb i7 (List.length l8) then
 ((Zdm N (List.getD l8 (Int.toNat i7) ([] : List (Int × Int × Int × Int))) l9 l10).bind fun o26 =>
 (bif !(beq (o26.2.1 == 1) (i7 == b11)) then
 K0
 else
 (bif i7 == b11 then
 ((Zam N o26.2.2.1 l12).bind fun o27 =>
 (bif !o27.2.1 then
 K0
 else
 ((Zam N o26.2.2.2.1 l13).bind fun o28 =>
 (bif !o28.2.1 then
 K0
 else
 (Zag N code6 l8 l9 l10 b11 l12 l13 l14 K0 K1 n (iadd .i64 i7 1))))))
 else
 (Zag N code6 l8 l9 l10 b11 l12 l13 l14 K0 K1 n (iadd .i64 i7 1))))) else none)
 else
 (K1 i7 (decide (i7 ≤ b11)))))
 else
 (K1 i7 false))
noncomputable def Zbj {R : Type} (N : Nat) (code31 : List Int) (l33 : List (List (Int × Int × Int × Int))) (l34 : List Int) (l35 : List Int) (b36 : Int) (l38 : List Int) (l39 : List Int) (l40 : List Int) (K0 : Int → Bool → (List Int) → Option R) : Nat → Int → (List Int) → Option R
  | 0, _, _ => none
  | n + 1, i32, l37 =>
    (bif decide (i32 < (ilen l37)) then
 ((Zec N l40 i32).bind fun o46 =>
 (bif !o46.2.1 then
 ((Zpd N code31 i32).bind fun o47 =>
 (bif inb i32 (List.length l37) then
 (Zbj N code31 l33 l34 l35 b36 l38 l39 l40 K0 n (iadd .i64 i32 1) (List.set l37 (Int.toNat i32) (imul .i64 o47.2.1 3))) else none))
 else
 (Zbj N code31 l33 l34 l35 b36 l38 l39 l40 K0 n (iadd .i64 i32 1) l37)))
 else
 (K0 i32 (decide (i32 < (ilen l37))) l37))
noncomputable def Zib (N : Nat) (code1 : List Int) : Option (Unit × (Bool × Unit)) :=
    ((Zh8 N code1).bind fun o2 =>
 (bif o2.2.1 then
 (some ((), (true, ())))
 else
 ((Zhb N code1).bind fun o3 =>
 ((Zat N o3.2.1 o3.2.2.1 o3.2.2.2.1).bind fun o4 =>
 ((Zbv N o3.2.1 o3.2.2.1 o3.2.2.2.1).bind fun o5 =>
 (bif !o5.2.1 then
 (bif o4.2.1.1 == (-1 : Int) then
 (some ((), ((ilen o4.2.1.2.2.1) == 0, ())))
 else
 (some ((), (false, ()))))
 else
 (Zag N code1 o3.2.1 o3.2.2.1 o3.2.2.2.1 o4.2.1.1 o4.2.1.2.1 o4.2.1.2.2.1 o4.2.1.2.2.2
 (some ((), (false, ())))
 (fun i29 t30 =>
   (bif decide (o4.2.1.1 ≥ 0) then
 (bif decide (o4.2.1.1 < (ilen o3.2.1)) then
 (some ((), ((ilen o4.2.1.2.2.2) == 0, ())))
 else
 (some ((), (false, ()))))
 else
 (bif room ((List.length ([] : List Int)) + (List.length o3.2.2.2.1)) then
 (Zbj N code1 o3.2.1 o3.2.2.1 o3.2.2.2.1 o4.2.1.1 o4.2.1.2.1 o4.2.1.2.2.1 o4.2.1.2.2.2
 (fun i48 t49 l50 =>
   ((Zat N o3.2.1 o3.2.2.1 l50).bind fun o51 =>
 ((Zam N o4.2.1.2.2.1 o3.2.2.2.1).bind fun o52 =>
 (bif o52.2.1 then
 ((Zam N o4.2.1.2.1 o3.2.2.1).bind fun o53 =>
 (bif o53.2.1 then
 (bif o51.2.1.1 == (-1 : Int) then
 ((Zam N o51.2.1.2.2.2 o4.2.1.2.2.2).bind fun o54 =>
 (some ((), (o54.2.1, ()))))
 else
 (some ((), (false, ()))))
 else
 (some ((), (false, ())))))
 else
 (some ((), (false, ())))))))
  N 0 (List.append ([] : List Int) o3.2.2.2.1)) else none)))
  N 0)))))))
noncomputable def Zb7 {R : Type} (N : Nat) (l7 : List (List (Int × Int × Int × Int))) (regs8 : List Int) (cells9 : List Int) (rows10 : List (Int × Int)) (K0 : Int → Option R) (K1 : Int → Bool → Option R) : Nat → Int → Option R
  | 0, _ => none
  | n + 1, n11 =>
    (bif decide (n11 ≤ (ilen rows10)) then
 (bif (decide ((0 : Int) ≤ n11)) && (decide (n11 ≤ ((List.length rows10) : Int))) then
 ((Zbf N cells9 (List.take (Int.toNat n11) rows10)).bind fun o17 =>
 ((Zdf N l7 regs8 o17.2.1).bind fun o18 =>
 (bif decide (o18.2.1.1 ≥ 0) then
 (K0 n11)
 else
 (Zb7 N l7 regs8 cells9 rows10 K0 K1 n (iadd .i64 n11 1))))) else none)
 else
 (K1 n11 (decide (n11 ≤ (ilen rows10)))))
noncomputable def Zdg (N : Nat) (l1 : List (List (Int × Int × Int × Int))) (regs2 : List Int) (cells3 : List Int) (rows4 : List (Int × Int)) : Option (Unit × (Int × Unit)) :=
    ((Zbv N l1 regs2 cells3).bind fun o5 =>
 (bif !o5.2.1 then
 (some ((), ((-1 : Int), ())))
 else
 ((Zbb N rows4).bind fun o6 =>
 (bif !o6.2.1 then
 (some ((), ((-1 : Int), ())))
 else
 (Zb7 N l1 regs2 cells3 rows4
 (fun t19 =>
   (some ((), (t19, ()))))
 (fun n20 t21 =>
   (some ((), ((-1 : Int), ()))))
  N 0)))))
noncomputable def Zb8 {R : Type} (N : Nat) (l7 : List (List (Int × Int × Int × Int))) (regs8 : List Int) (cells9 : List Int) (rows10 : List (Int × Int)) (K0 : Int → Option R) (K1 : Int → Bool → Option R) : Nat → Int → Option R
  | 0, _ => none
  | n + 1, n11 =>
    (bif decide (n11 ≤ (ilen rows10)) then
 (bif (decide ((0 : Int) ≤ n11)) && (decide (n11 ≤ ((List.length rows10) : Int))) then
 ((Zcq N cells9 (List.take (Int.toNat n11) rows10)).bind fun o17 =>
 ((Zat N l7 regs8 o17.2.1).bind fun o18 =>
 (bif o18.2.1.1 != (-1 : Int) then
 (K0 n11)
 else
 (Zb8 N l7 regs8 cells9 rows10 K0 K1 n (iadd .i64 n11 1))))) else none)
 else
 (K1 n11 (decide (n11 ≤ (ilen rows10)))))
noncomputable def Zdh (N : Nat) (l1 : List (List (Int × Int × Int × Int))) (regs2 : List Int) (cells3 : List Int) (rows4 : List (Int × Int)) : Option (Unit × (Int × Unit)) :=
    ((Zfn N l1 regs2 cells3).bind fun o5 =>
 (bif !o5.2.1 then
 (some ((), ((-1 : Int), ())))
 else
 ((Zbc N rows4).bind fun o6 =>
 (bif !o6.2.1 then
 (some ((), ((-1 : Int), ())))
 else
 (Zb8 N l1 regs2 cells3 rows4
 (fun t19 =>
   (some ((), (t19, ()))))
 (fun n20 t21 =>
   (some ((), ((-1 : Int), ()))))
  N 0)))))
noncomputable def Zdo {R : Type} (N : Nat) (b4 : List Int × Int × Int) (K0 : Bool → (List (Int × Int)) → Option R) : Nat → (List (Int × Int)) → Option R
  | 0, _ => none
  | n + 1, l5 =>
    (bif decide ((ilen l5) < 300) then
 (bif room ((List.length l5) + (List.length ([((7 : Int), ilen l5)]))) then
 (Zdo N b4 K0 n (List.append l5 ([(7, ilen l5)]))) else none)
 else
 (K0 (decide ((ilen l5) < 300)) l5))
noncomputable def Zdv (N : Nat) (c1 : List Int × Int × Int) : Option (((List Int × Int × Int) × Unit) × ((List (Int × Int)) × Unit)) :=
    ((Zci N c1 10).bind fun o2 =>
 ((Zf N o2.1.1 20).bind fun o3 =>
 (bif o3.2.1 == 0 then
 (bif room ((List.length o2.2.1) + (List.length ([((8 : Int), (0 : Int))]))) then
 (some ((o3.1.1, ()), (List.append o2.2.1 ([(8, 0)]), ()))) else none)
 else
 (bif o3.2.1 == 1 then
 (bif room ((List.length o2.2.1) + (List.length ([((0 : Int), (65536 : Int))]))) then
 (some ((o3.1.1, ()), (List.append o2.2.1 ([(0, 65536)]), ()))) else none)
 else
 (bif o3.2.1 == 2 then
 (Zdo N o3.1.1
 (fun t8 l9 =>
   ((Zv N o3.1.1 2).bind fun o10 =>
 (bif o10.2.1 then
 (bif room ((List.length l9) + (List.length ([((0 : Int), (0 : Int))]))) then
 (some ((o10.1.1, ()), (List.append l9 ([(0, 0)]), ()))) else none)
 else
 (some ((o10.1.1, ()), (l9, ()))))))
  N o2.2.1)
 else
 (bif o3.2.1 == 3 then
 (bif room ((List.length o2.2.1) + (List.length ([((-1 : Int), (0 : Int))]))) then
 (some ((o3.1.1, ()), (List.append o2.2.1 ([((-1 : Int), 0)]), ()))) else none)
 else
 (some ((o3.1.1, ()), (o2.2.1, ())))))))))
noncomputable def Ze2 (N : Nat) (code1 : List Int) : Option (Unit × ((List (List (Int × Int × Int × Int))) × ((List Int) × ((List Int) × ((List (Int × Int)) × Unit))))) :=
    ((Zcf N code1).bind fun o2 =>
 ((Zbw N o2.2.1).bind fun o3 =>
 ((Zci N o3.1.1 5).bind fun o4 =>
 ((Zv N o4.1.1 15).bind fun o5 =>
 (bif o5.2.1 then
 ((Zdv N o5.1.1).bind fun o6 =>
 (some ((), (o3.2.1, (o3.2.2.1, (o3.2.2.2.1, (o6.2.1, ())))))))
 else
 (some ((), (o3.2.1, (o3.2.2.1, (o3.2.2.2.1, (o4.2.1, ())))))))))))
noncomputable def Ze7 (N : Nat) (code1 : List Int) : Option (Unit × (Bool × Unit)) :=
    ((Zh8 N code1).bind fun o2 =>
 (bif o2.2.1 then
 (some ((), (true, ())))
 else
 ((Ze2 N code1).bind fun o3 =>
 ((Zdh N o3.2.1 o3.2.2.1 o3.2.2.2.1 o3.2.2.2.2.1).bind fun o4 =>
 ((Zdg N o3.2.1 o3.2.2.1 o3.2.2.2.1 o3.2.2.2.2.1).bind fun o5 =>
 (bif o4.2.1 != o5.2.1 then
 (some ((), (false, ())))
 else
 (bif decide (o4.2.1 ≤ 0) then
 (some ((), (decide (o4.2.1 ≤ 0), ())))
 else
 (bif decide (o4.2.1 > (ilen o3.2.2.2.2.1)) then
 (some ((), (decide (o4.2.1 ≤ 0), ())))
 else
 (bif (decide ((0 : Int) ≤ (isub .i64 o4.2.1 1))) && (decide ((isub .i64 o4.2.1 1) ≤ ((List.length o3.2.2.2.2.1) : Int))) then
 ((Zbf N o3.2.2.2.1 (List.take (Int.toNat (isub .i64 o4.2.1 1)) o3.2.2.2.2.1)).bind fun o6 =>
 ((Zat N o3.2.1 o3.2.2.1 o6.2.1).bind fun o7 =>
 (bif o7.2.1.1 == (-1 : Int) then
 (bif inb (isub .i64 o4.2.1 1) (List.length o3.2.2.2.2.1) then
 ((Zec N o7.2.1.2.2.2 (List.getD o3.2.2.2.2.1 (Int.toNat (isub .i64 o4.2.1 1)) (0, 0)).1).bind fun o8 =>
 (bif o8.2.1 then
 (bif (decide ((0 : Int) ≤ o4.2.1)) && (decide (o4.2.1 ≤ ((List.length o3.2.2.2.2.1) : Int))) then
 ((Zbf N o3.2.2.2.1 (List.take (Int.toNat o4.2.1) o3.2.2.2.2.1)).bind fun o9 =>
 ((Zat N o3.2.1 o3.2.2.1 o9.2.1).bind fun o10 =>
 (some ((), (decide (o10.2.1.1 ≥ 0), ()))))) else none)
 else
 (some ((), (false, ()))))) else none)
 else
 (some ((), (false, ())))))) else none)))))))))
end Go.Sx
