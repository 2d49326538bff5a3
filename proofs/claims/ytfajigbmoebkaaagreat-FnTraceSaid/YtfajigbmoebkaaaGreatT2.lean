/- What each Go function computes, as a Lean function. -/
import Derived.Test.YtfajigbmoebkaaaGreatT
namespace Go.Sx
noncomputable section
set_option linter.unusedVariables false
def Zez (N:Nat) (s1:(List Int × List Int × Int) × List (List (Int × Int × Int × Int) × List (List (Int × Int × Int × Int))) × List (Int × Int × Int)):Option (Unit × ((List (Int × Int × Int × Int)) × Unit)) :=
    ((Zg2 N s1).bind fun o2 =>
 (bif !o2.2.1 then
 (some ((),(([]:List (Int × Int × Int × Int)),())))
 else
 ((Zhh N (s1.1,(s1.2.1,([]:List (Int × Int × Int))))).bind fun o3 =>
 (Zan N s1.2.2 (ilen s1.2.2) s1.1.1 s1.1.2.1 s1.1.2.2 s1.2.1
 (fun t39 t40 l41 b42 b43 b44 b45 l46 l47 l48 l49 l50 =>
   (some ((),(l41,()))))
  N 0 ([]:List (Int × Int × Int × Int)) o3.2.1.1 o3.2.1.2.1 o3.2.1.2.2.1.1 o3.2.1.2.2.2.1.2 o3.2.1.2.2.1.2 o3.2.1.2.2.2.1.1 o3.2.1.2.2.2.2.1 o3.2.1.2.2.2.2.2.1 o3.2.1.2.2.2.2.2.2))))
def Zhv (N:Nat) (phase1:Int):Option (Unit × ((List UInt8) × Unit)) :=
    ((Zm N phase1 0 8).bind fun o2 =>
 (bif !o2.2.1 then
 (some ((),(([]:List UInt8),())))
 else
 (bif inb phase1 (List.length ([([105,100,108,101]:List UInt8),([114,117,110]:List UInt8),([102,111,114,107]:List UInt8),([117,110,119,105,110,100]:List UInt8),([101,120,116,101,110,100]:List UInt8),([99,111,109,109,105,116]:List UInt8),([117,110,100,111]:List UInt8),([102,114,101,101]:List UInt8),([100,111,110,101]:List UInt8)])) then
 (some ((),(List.getD ([([105,100,108,101]:List UInt8),([114,117,110]:List UInt8),([102,111,114,107]:List UInt8),([117,110,119,105,110,100]:List UInt8),([101,120,116,101,110,100]:List UInt8),([99,111,109,109,105,116]:List UInt8),([117,110,100,111]:List UInt8),([102,114,101,101]:List UInt8),([100,111,110,101]:List UInt8)]) (Int.toNat phase1) ([]:List UInt8),()))) else none)))
def Zgi {R:Type} (N:Nat) (n2:Int) (K0:Int → Bool → (List Int) → Option R):Nat → Int → (List Int) → Option R
  | 0,_,_=>none
  | n + 1,m3,l4 =>
    (bif m3 != 0 then
 (bif inz 10 then
 (bif decide ((irem m3 10) < 0) then
 (bif room ((List.length l4) + (List.length ([(IntKind.wrap .u8 (iadd .i64 (48:Int) (isub .i64 (0:Int) (irem m3 (10:Int)))))]))) then
 (bif inz 10 then
 (Zgi N n2 K0 n (iquo .i64 m3 10) (List.append l4 ([(IntKind.wrap .u8 (iadd .i64 48 (isub .i64 0 (irem m3 10))))]))) else none) else none)
 else
 (bif room ((List.length l4) + (List.length ([(IntKind.wrap .u8 (iadd .i64 (48:Int) (irem m3 (10:Int))))]))) then
 (bif inz 10 then
 (Zgi N n2 K0 n (iquo .i64 m3 10) (List.append l4 ([(IntKind.wrap .u8 (iadd .i64 48 (irem m3 10)))]))) else none) else none)) else none)
 else
 (K0 m3 (m3 != 0) l4))
def Zgj {R:Type} (N:Nat) (K0:Int → Int → Bool → (List Int) → Option R):Nat → Int → Int → (List Int) → Option R
  | 0,_,_,_=>none
  | n + 1,i11,j12,l13 =>
    (bif decide (i11 < j12) then
 (bif inb j12 (List.length l13) then
 (bif inb i11 (List.length l13) then
 (bif inb i11 (List.length l13) then
 (bif inb j12 (List.length (List.set l13 (Int.toNat i11) (List.getD l13 (Int.toNat j12) 0))) then
 (Wq (List.set l13 (Int.toNat i11) (List.getD l13 (Int.toNat j12) 0)) fun s19 =>
 (Zgj N K0 n (iadd .i64 i11 1) (isub .i64 j12 1) (List.set s19 (Int.toNat j12) (List.getD l13 (Int.toNat i11) 0)))) else none) else none) else none) else none)
 else
 (K0 i11 j12 (decide (i11 < j12)) l13))
def Zhf (N:Nat) (n1:Int):Option (Unit × ((List UInt8) × Unit)) :=
    (bif n1 == 0 then
 (some ((),(([48]:List UInt8),())))
 else
 (Zgi N n1
 (fun m8 t9 l10 =>
   (bif decide (n1 < 0) then
 (bif room ((List.length l10) + (List.length ([(45:Int)]))) then
 (Zgj N
 (fun i20 j21 t22 l23 =>
   (some ((),(Wwn l23,()))))
  N 0 (isub .i64 (ilen (List.append l10 ([45]))) 1) (List.append l10 ([45]))) else none)
 else
 (Zgj N
 (fun i24 j25 t26 l27 =>
   (some ((),(Wwn l27,()))))
  N 0 (isub .i64 (ilen l10) 1) l10)))
  N n1 ([]:List Int)))
def Zg3 (N:Nat) (t1:Int × Int × Int × Int):Option (Unit × ((List UInt8) × Unit)) :=
    ((Zhv N t1.2.2.1).bind fun o2 =>
 ((Zhv N t1.2.2.2).bind fun o3 =>
 (bif seq o2.2.1 ([]:List UInt8) then
 (some ((),(([]:List UInt8),())))
 else
 (bif seq o3.2.1 ([]:List UInt8) then
 (some ((),(([]:List UInt8),())))
 else
 ((Zhf N t1.1).bind fun o4 =>
 (bif sfit o4.2.1 ([32]:List UInt8) then
 ((Zhf N t1.2.1).bind fun o5 =>
 (bif sfit (o4.2.1 ++ ([32]:List UInt8)) o5.2.1 then
 (bif sfit ((o4.2.1 ++ ([32]:List UInt8)) ++ o5.2.1) ([32]:List UInt8) then
 (bif sfit (((o4.2.1 ++ ([32]:List UInt8)) ++ o5.2.1) ++ ([32]:List UInt8)) o2.2.1 then
 (bif sfit ((((o4.2.1 ++ ([32]:List UInt8)) ++ o5.2.1) ++ ([32]:List UInt8)) ++ o2.2.1) ([32]:List UInt8) then
 (bif sfit (((((o4.2.1 ++ ([32]:List UInt8)) ++ o5.2.1) ++ ([32]:List UInt8)) ++ o2.2.1) ++ ([32]:List UInt8)) o3.2.1 then
 (some ((),((((((o4.2.1 ++ ([32]:List UInt8)) ++ o5.2.1) ++ ([32]:List UInt8)) ++ o2.2.1) ++ ([32]:List UInt8)) ++ o3.2.1,()))) else none) else none) else none) else none) else none)) else none))))))
def Zcx {R:Type} (N:Nat) (b9:(List Int × List Int × Int) × List (List (Int × Int × Int × Int) × List (List (Int × Int × Int × Int))) × List (Int × Int × Int)) (l10:List (Int × Int × Int × Int)) (b11:Y_World) (K0:Option R) (K1:Int → Int → Bool → (List Int) → Option R):Nat → Int → Int → (List Int) → Option R
  | 0,_,_,_=>none
  | n + 1,last7,i8,l12 =>
    (bif decide (i8 < (ilen l10)) then
 (bif inb i8 (List.length l10) then
 (Wq (List.getD l10 (Int.toNat i8) (0,0,0,0)) fun e9000 =>
 (bif decide (e9000.2.1 < 0) then
 K0
 else
 (bif decide (e9000.2.1 ≥ (ilen l12)) then
 K0
 else
 (bif decide (e9000.1 ≤ last7) then
 K0
 else
 (bif decide (e9000.1 ≥ (ilen b9.2.2)) then
 K0
 else
 (bif inb e9000.2.1 (List.length l12) then
 (bif e9000.2.2.1 != (List.getD l12 (Int.toNat e9000.2.1) 0) then
 K0
 else
 (bif e9000.2.2.2 == e9000.2.2.1 then
 K0
 else
 (bif e9000.2.2.1 == 8 then
 K0
 else
 ((Zg3 N e9000).bind fun bq1 =>
 (bif seq bq1.2.1 ([]:List UInt8) then
 K0
 else
 (bif inb e9000.2.1 (List.length l12) then
 (Zcx N b9 l10 b11 K0 K1 n e9000.1 (iadd .i64 i8 1) (List.set l12 (Int.toNat e9000.2.1) e9000.2.2.2)) else none)))))) else none)))))) else none)
 else
 (K1 last7 i8 (decide (i8 < (ilen l10))) l12))
def Za4 {R:Type} (N:Nat) (b24:Y_World) (l25:List Int) (K0:Option R) (K1:Int → Bool → Option R):Nat → Int → Option R
  | 0,_=>none
  | n + 1,i23 =>
    (bif decide (i23 < (ilen l25)) then
 (bif inb i23 (List.length l25) then
 (bif inb i23 (List.length b24.2.2.2.2.2.1) then
 (bif (List.getD l25 (Int.toNat i23) 0) != (List.getD b24.2.2.2.2.2.1 (Int.toNat i23) d_Root).1 then
 K0
 else
 (Za4 N b24 l25 K0 K1 n (iadd .i64 i23 1))) else none) else none)
 else
 (K1 i23 (decide (i23 < (ilen l25)))))
def Zc7 (N:Nat) (code1:List Int):Option (Unit × (Bool × Unit)) :=
    ((Ztc N code1).bind fun o2 =>
 (bif o2.2.1 then
 (some ((),(true,())))
 else
 ((Zil N code1).bind fun o3 =>
 ((Zez N o3.2.1).bind fun o4 =>
 ((Zdj N o3.2.1).bind fun o5 =>
 (bif !o5.2.1 then
 (some ((),((ilen o4.2.1) == 0,())))
 else
 ((Zey N o3.2.1).bind fun o6 =>
 (bif (ilen o6.2.1.2.2.2.2.2.1) != (ilen o3.2.1.2.1) then
 (some ((),(false,())))
 else
 (bif ((decide ((0:Int) ≤ (ilen o3.2.1.2.1))) && (decide ((ilen o3.2.1.2.1) ≤ (ilen o3.2.1.2.1)))) && (room (Int.toNat (ilen o3.2.1.2.1))) then
 (Zcx N o3.2.1 o4.2.1 o6.2.1
 (some ((),(false,())))
 (fun last19 i20 t21 l22 =>
   (Za4 N o6.2.1 l22
 (some ((),(false,())))
 (fun i28 t29 =>
   (some ((),(true,()))))
  N 0))
  N (-1:Int) 0 (List.replicate (Int.toNat (ilen o3.2.1.2.1)) 0)) else none)))))))))
end
end Go.Sx
