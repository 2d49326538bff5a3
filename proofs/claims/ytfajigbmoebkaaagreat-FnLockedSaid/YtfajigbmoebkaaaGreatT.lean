/- What each Go function computes, as a Lean function. -/
import Derived.Test.YtfajigbmoebkaaaGreatM3
open List renaming length→Xa,getD→Xd,drop→Xcx,take→Xar,append→Xe,set→Xl,replicate→Xu
open Int renaming toNat→Xb
namespace Go.Sx
noncomputable section
set_option linter.unusedVariables false
def P4{a0 a1 a2 a3 a4 a5:Type}(x:a0×a1×a2×a3×a4×a5):a4:=x.2.2.2.2.1
def P5{a0 a1 a2 a3 a4 a5 a6:Type}(x:a0×a1×a2×a3×a4×a5×a6):a5:=x.2.2.2.2.2.1
def P6{a0 a1 a2 a3 a4 a5 a6 a7:Type}(x:a0×a1×a2×a3×a4×a5×a6×a7):a6:=x.2.2.2.2.2.2.1
def P7{a0 a1 a2 a3 a4 a5 a6 a7 a8:Type}(x:a0×a1×a2×a3×a4×a5×a6×a7×a8):a7:=x.2.2.2.2.2.2.2.1
def P8{a0 a1 a2 a3 a4 a5 a6 a7 a8 a9:Type}(x:a0×a1×a2×a3×a4×a5×a6×a7×a8×a9):a8:=x.2.2.2.2.2.2.2.2.1
def P9{a0 a1 a2 a3 a4 a5 a6 a7 a8 a9 a10:Type}(x:a0×a1×a2×a3×a4×a5×a6×a7×a8×a9×a10):a9:=x.2.2.2.2.2.2.2.2.2.1
def P10{a0 a1 a2 a3 a4 a5 a6 a7 a8 a9 a10 a11:Type}(x:a0×a1×a2×a3×a4×a5×a6×a7×a8×a9×a10×a11):a10:=x.2.2.2.2.2.2.2.2.2.2.1
def P11{a0 a1 a2 a3 a4 a5 a6 a7 a8 a9 a10 a11 a12:Type}(x:a0×a1×a2×a3×a4×a5×a6×a7×a8×a9×a10×a11×a12):a11:=x.2.2.2.2.2.2.2.2.2.2.2.1
def P12{a0 a1 a2 a3 a4 a5 a6 a7 a8 a9 a10 a11 a12 a13:Type}(x:a0×a1×a2×a3×a4×a5×a6×a7×a8×a9×a10×a11×a12×a13):a12:=x.2.2.2.2.2.2.2.2.2.2.2.2.1
def P13{a0 a1 a2 a3 a4 a5 a6 a7 a8 a9 a10 a11 a12 a13 a14:Type}(x:a0×a1×a2×a3×a4×a5×a6×a7×a8×a9×a10×a11×a12×a13×a14):a13:=x.2.2.2.2.2.2.2.2.2.2.2.2.2.1
def P14{a0 a1 a2 a3 a4 a5 a6 a7 a8 a9 a10 a11 a12 a13 a14 a15:Type}(x:a0×a1×a2×a3×a4×a5×a6×a7×a8×a9×a10×a11×a12×a13×a14×a15):a14:=x.2.2.2.2.2.2.2.2.2.2.2.2.2.2.1
def P15{a0 a1 a2 a3 a4 a5 a6 a7 a8 a9 a10 a11 a12 a13 a14 a15 a16:Type}(x:a0×a1×a2×a3×a4×a5×a6×a7×a8×a9×a10×a11×a12×a13×a14×a15×a16):a15:=x.2.2.2.2.2.2.2.2.2.2.2.2.2.2.2.1
def P16{a0 a1 a2 a3 a4 a5 a6 a7 a8 a9 a10 a11 a12 a13 a14 a15 a16 a17:Type}(x:a0×a1×a2×a3×a4×a5×a6×a7×a8×a9×a10×a11×a12×a13×a14×a15×a16×a17):a16:=x.2.2.2.2.2.2.2.2.2.2.2.2.2.2.2.2.1
def P18{a0 a1 a2 a3 a4 a5 a6 a7 a8 a9 a10 a11 a12 a13 a14 a15 a16 a17 a18 a19:Type}(x:a0×a1×a2×a3×a4×a5×a6×a7×a8×a9×a10×a11×a12×a13×a14×a15×a16×a17×a18×a19):a18:=x.2.2.2.2.2.2.2.2.2.2.2.2.2.2.2.2.2.2.1
def P19{a0 a1 a2 a3 a4 a5 a6 a7 a8 a9 a10 a11 a12 a13 a14 a15 a16 a17 a18 a19 a20:Type}(x:a0×a1×a2×a3×a4×a5×a6×a7×a8×a9×a10×a11×a12×a13×a14×a15×a16×a17×a18×a19×a20):a19:=x.2.2.2.2.2.2.2.2.2.2.2.2.2.2.2.2.2.2.2.1
def P20{a0 a1 a2 a3 a4 a5 a6 a7 a8 a9 a10 a11 a12 a13 a14 a15 a16 a17 a18 a19 a20 a21:Type}(x:a0×a1×a2×a3×a4×a5×a6×a7×a8×a9×a10×a11×a12×a13×a14×a15×a16×a17×a18×a19×a20×a21):a20:=x.2.2.2.2.2.2.2.2.2.2.2.2.2.2.2.2.2.2.2.2.1
def P24{a0 a1 a2 a3 a4 a5 a6 a7 a8 a9 a10 a11 a12 a13 a14 a15 a16 a17 a18 a19 a20 a21 a22 a23 a24 a25:Type}(x:a0×a1×a2×a3×a4×a5×a6×a7×a8×a9×a10×a11×a12×a13×a14×a15×a16×a17×a18×a19×a20×a21×a22×a23×a24×a25):a24:=x.2.2.2.2.2.2.2.2.2.2.2.2.2.2.2.2.2.2.2.2.2.2.2.2.1
def P28{a0 a1 a2 a3 a4 a5 a6 a7 a8 a9 a10 a11 a12 a13 a14 a15 a16 a17 a18 a19 a20 a21 a22 a23 a24 a25 a26 a27 a28 a29:Type}(x:a0×a1×a2×a3×a4×a5×a6×a7×a8×a9×a10×a11×a12×a13×a14×a15×a16×a17×a18×a19×a20×a21×a22×a23×a24×a25×a26×a27×a28×a29):a28:=x.2.2.2.2.2.2.2.2.2.2.2.2.2.2.2.2.2.2.2.2.2.2.2.2.2.2.2.2.1
def P29{a0 a1 a2 a3 a4 a5 a6 a7 a8 a9 a10 a11 a12 a13 a14 a15 a16 a17 a18 a19 a20 a21 a22 a23 a24 a25 a26 a27 a28 a29 a30:Type}(x:a0×a1×a2×a3×a4×a5×a6×a7×a8×a9×a10×a11×a12×a13×a14×a15×a16×a17×a18×a19×a20×a21×a22×a23×a24×a25×a26×a27×a28×a29×a30):a29:=x.2.2.2.2.2.2.2.2.2.2.2.2.2.2.2.2.2.2.2.2.2.2.2.2.2.2.2.2.2.1
def Q6{a0 a1 a2 a3 a4 a5 a6:Type}(x:a0×a1×a2×a3×a4×a5×a6):a6:=x.2.2.2.2.2.2
def Q9{a0 a1 a2 a3 a4 a5 a6 a7 a8 a9:Type}(x:a0×a1×a2×a3×a4×a5×a6×a7×a8×a9):a9:=x.2.2.2.2.2.2.2.2.2
def Q11{a0 a1 a2 a3 a4 a5 a6 a7 a8 a9 a10 a11:Type}(x:a0×a1×a2×a3×a4×a5×a6×a7×a8×a9×a10×a11):a11:=x.2.2.2.2.2.2.2.2.2.2.2
def Q21{a0 a1 a2 a3 a4 a5 a6 a7 a8 a9 a10 a11 a12 a13 a14 a15 a16 a17 a18 a19 a20 a21:Type}(x:a0×a1×a2×a3×a4×a5×a6×a7×a8×a9×a10×a11×a12×a13×a14×a15×a16×a17×a18×a19×a20×a21):a21:=x.2.2.2.2.2.2.2.2.2.2.2.2.2.2.2.2.2.2.2.2.2
def S0{a0 a1:Type}(v:a0)(x:a0×a1):a0×a1:=(v,x.2)
def S1{a0 a1 a2:Type}(v:a1)(x:a0×a1×a2):a0×a1×a2:=(x.1,v,x.2.2)
def S2{a0 a1 a2 a3:Type}(v:a2)(x:a0×a1×a2×a3):a0×a1×a2×a3:=(x.1,x.2.1,v,x.2.2.2)
def S3{a0 a1 a2 a3 a4:Type}(v:a3)(x:a0×a1×a2×a3×a4):a0×a1×a2×a3×a4:=(x.1,x.2.1,x.2.2.1,v,x.2.2.2.2)
def S4{a0 a1 a2 a3 a4 a5:Type}(v:a4)(x:a0×a1×a2×a3×a4×a5):a0×a1×a2×a3×a4×a5:=(x.1,x.2.1,x.2.2.1,x.2.2.2.1,v,x.2.2.2.2.2)
def S5{a0 a1 a2 a3 a4 a5 a6:Type}(v:a5)(x:a0×a1×a2×a3×a4×a5×a6):a0×a1×a2×a3×a4×a5×a6:=(x.1,x.2.1,x.2.2.1,x.2.2.2.1,x.2.2.2.2.1,v,x.2.2.2.2.2.2)
def S6{a0 a1 a2 a3 a4 a5 a6 a7:Type}(v:a6)(x:a0×a1×a2×a3×a4×a5×a6×a7):a0×a1×a2×a3×a4×a5×a6×a7:=(x.1,x.2.1,x.2.2.1,x.2.2.2.1,x.2.2.2.2.1,x.2.2.2.2.2.1,v,x.2.2.2.2.2.2.2)
def S7{a0 a1 a2 a3 a4 a5 a6 a7 a8:Type}(v:a7)(x:a0×a1×a2×a3×a4×a5×a6×a7×a8):a0×a1×a2×a3×a4×a5×a6×a7×a8:=(x.1,x.2.1,x.2.2.1,x.2.2.2.1,x.2.2.2.2.1,x.2.2.2.2.2.1,x.2.2.2.2.2.2.1,v,x.2.2.2.2.2.2.2.2)
def S8{a0 a1 a2 a3 a4 a5 a6 a7 a8 a9:Type}(v:a8)(x:a0×a1×a2×a3×a4×a5×a6×a7×a8×a9):a0×a1×a2×a3×a4×a5×a6×a7×a8×a9:=(x.1,x.2.1,x.2.2.1,x.2.2.2.1,x.2.2.2.2.1,x.2.2.2.2.2.1,x.2.2.2.2.2.2.1,x.2.2.2.2.2.2.2.1,v,x.2.2.2.2.2.2.2.2.2)
def S9{a0 a1 a2 a3 a4 a5 a6 a7 a8 a9 a10:Type}(v:a9)(x:a0×a1×a2×a3×a4×a5×a6×a7×a8×a9×a10):a0×a1×a2×a3×a4×a5×a6×a7×a8×a9×a10:=(x.1,x.2.1,x.2.2.1,x.2.2.2.1,x.2.2.2.2.1,x.2.2.2.2.2.1,x.2.2.2.2.2.2.1,x.2.2.2.2.2.2.2.1,x.2.2.2.2.2.2.2.2.1,v,x.2.2.2.2.2.2.2.2.2.2)
def S10{a0 a1 a2 a3 a4 a5 a6 a7 a8 a9 a10 a11:Type}(v:a10)(x:a0×a1×a2×a3×a4×a5×a6×a7×a8×a9×a10×a11):a0×a1×a2×a3×a4×a5×a6×a7×a8×a9×a10×a11:=(x.1,x.2.1,x.2.2.1,x.2.2.2.1,x.2.2.2.2.1,x.2.2.2.2.2.1,x.2.2.2.2.2.2.1,x.2.2.2.2.2.2.2.1,x.2.2.2.2.2.2.2.2.1,x.2.2.2.2.2.2.2.2.2.1,v,x.2.2.2.2.2.2.2.2.2.2.2)
def S11{a0 a1 a2 a3 a4 a5 a6 a7 a8 a9 a10 a11 a12:Type}(v:a11)(x:a0×a1×a2×a3×a4×a5×a6×a7×a8×a9×a10×a11×a12):a0×a1×a2×a3×a4×a5×a6×a7×a8×a9×a10×a11×a12:=(x.1,x.2.1,x.2.2.1,x.2.2.2.1,x.2.2.2.2.1,x.2.2.2.2.2.1,x.2.2.2.2.2.2.1,x.2.2.2.2.2.2.2.1,x.2.2.2.2.2.2.2.2.1,x.2.2.2.2.2.2.2.2.2.1,x.2.2.2.2.2.2.2.2.2.2.1,v,x.2.2.2.2.2.2.2.2.2.2.2.2)
def S12{a0 a1 a2 a3 a4 a5 a6 a7 a8 a9 a10 a11 a12 a13:Type}(v:a12)(x:a0×a1×a2×a3×a4×a5×a6×a7×a8×a9×a10×a11×a12×a13):a0×a1×a2×a3×a4×a5×a6×a7×a8×a9×a10×a11×a12×a13:=(x.1,x.2.1,x.2.2.1,x.2.2.2.1,x.2.2.2.2.1,x.2.2.2.2.2.1,x.2.2.2.2.2.2.1,x.2.2.2.2.2.2.2.1,x.2.2.2.2.2.2.2.2.1,x.2.2.2.2.2.2.2.2.2.1,x.2.2.2.2.2.2.2.2.2.2.1,x.2.2.2.2.2.2.2.2.2.2.2.1,v,x.2.2.2.2.2.2.2.2.2.2.2.2.2)
def S13{a0 a1 a2 a3 a4 a5 a6 a7 a8 a9 a10 a11 a12 a13 a14:Type}(v:a13)(x:a0×a1×a2×a3×a4×a5×a6×a7×a8×a9×a10×a11×a12×a13×a14):a0×a1×a2×a3×a4×a5×a6×a7×a8×a9×a10×a11×a12×a13×a14:=(x.1,x.2.1,x.2.2.1,x.2.2.2.1,x.2.2.2.2.1,x.2.2.2.2.2.1,x.2.2.2.2.2.2.1,x.2.2.2.2.2.2.2.1,x.2.2.2.2.2.2.2.2.1,x.2.2.2.2.2.2.2.2.2.1,x.2.2.2.2.2.2.2.2.2.2.1,x.2.2.2.2.2.2.2.2.2.2.2.1,x.2.2.2.2.2.2.2.2.2.2.2.2.1,v,x.2.2.2.2.2.2.2.2.2.2.2.2.2.2)
def S14{a0 a1 a2 a3 a4 a5 a6 a7 a8 a9 a10 a11 a12 a13 a14 a15:Type}(v:a14)(x:a0×a1×a2×a3×a4×a5×a6×a7×a8×a9×a10×a11×a12×a13×a14×a15):a0×a1×a2×a3×a4×a5×a6×a7×a8×a9×a10×a11×a12×a13×a14×a15:=(x.1,x.2.1,x.2.2.1,x.2.2.2.1,x.2.2.2.2.1,x.2.2.2.2.2.1,x.2.2.2.2.2.2.1,x.2.2.2.2.2.2.2.1,x.2.2.2.2.2.2.2.2.1,x.2.2.2.2.2.2.2.2.2.1,x.2.2.2.2.2.2.2.2.2.2.1,x.2.2.2.2.2.2.2.2.2.2.2.1,x.2.2.2.2.2.2.2.2.2.2.2.2.1,x.2.2.2.2.2.2.2.2.2.2.2.2.2.1,v,x.2.2.2.2.2.2.2.2.2.2.2.2.2.2.2)
def S15{a0 a1 a2 a3 a4 a5 a6 a7 a8 a9 a10 a11 a12 a13 a14 a15 a16:Type}(v:a15)(x:a0×a1×a2×a3×a4×a5×a6×a7×a8×a9×a10×a11×a12×a13×a14×a15×a16):a0×a1×a2×a3×a4×a5×a6×a7×a8×a9×a10×a11×a12×a13×a14×a15×a16:=(x.1,x.2.1,x.2.2.1,x.2.2.2.1,x.2.2.2.2.1,x.2.2.2.2.2.1,x.2.2.2.2.2.2.1,x.2.2.2.2.2.2.2.1,x.2.2.2.2.2.2.2.2.1,x.2.2.2.2.2.2.2.2.2.1,x.2.2.2.2.2.2.2.2.2.2.1,x.2.2.2.2.2.2.2.2.2.2.2.1,x.2.2.2.2.2.2.2.2.2.2.2.2.1,x.2.2.2.2.2.2.2.2.2.2.2.2.2.1,x.2.2.2.2.2.2.2.2.2.2.2.2.2.2.1,v,x.2.2.2.2.2.2.2.2.2.2.2.2.2.2.2.2)
def S16{a0 a1 a2 a3 a4 a5 a6 a7 a8 a9 a10 a11 a12 a13 a14 a15 a16 a17:Type}(v:a16)(x:a0×a1×a2×a3×a4×a5×a6×a7×a8×a9×a10×a11×a12×a13×a14×a15×a16×a17):a0×a1×a2×a3×a4×a5×a6×a7×a8×a9×a10×a11×a12×a13×a14×a15×a16×a17:=(x.1,x.2.1,x.2.2.1,x.2.2.2.1,x.2.2.2.2.1,x.2.2.2.2.2.1,x.2.2.2.2.2.2.1,x.2.2.2.2.2.2.2.1,x.2.2.2.2.2.2.2.2.1,x.2.2.2.2.2.2.2.2.2.1,x.2.2.2.2.2.2.2.2.2.2.1,x.2.2.2.2.2.2.2.2.2.2.2.1,x.2.2.2.2.2.2.2.2.2.2.2.2.1,x.2.2.2.2.2.2.2.2.2.2.2.2.2.1,x.2.2.2.2.2.2.2.2.2.2.2.2.2.2.1,x.2.2.2.2.2.2.2.2.2.2.2.2.2.2.2.1,v,x.2.2.2.2.2.2.2.2.2.2.2.2.2.2.2.2.2)
def S17{a0 a1 a2 a3 a4 a5 a6 a7 a8 a9 a10 a11 a12 a13 a14 a15 a16 a17 a18:Type}(v:a17)(x:a0×a1×a2×a3×a4×a5×a6×a7×a8×a9×a10×a11×a12×a13×a14×a15×a16×a17×a18):a0×a1×a2×a3×a4×a5×a6×a7×a8×a9×a10×a11×a12×a13×a14×a15×a16×a17×a18:=(x.1,x.2.1,x.2.2.1,x.2.2.2.1,x.2.2.2.2.1,x.2.2.2.2.2.1,x.2.2.2.2.2.2.1,x.2.2.2.2.2.2.2.1,x.2.2.2.2.2.2.2.2.1,x.2.2.2.2.2.2.2.2.2.1,x.2.2.2.2.2.2.2.2.2.2.1,x.2.2.2.2.2.2.2.2.2.2.2.1,x.2.2.2.2.2.2.2.2.2.2.2.2.1,x.2.2.2.2.2.2.2.2.2.2.2.2.2.1,x.2.2.2.2.2.2.2.2.2.2.2.2.2.2.1,x.2.2.2.2.2.2.2.2.2.2.2.2.2.2.2.1,x.2.2.2.2.2.2.2.2.2.2.2.2.2.2.2.2.1,v,x.2.2.2.2.2.2.2.2.2.2.2.2.2.2.2.2.2.2)
def S18{a0 a1 a2 a3 a4 a5 a6 a7 a8 a9 a10 a11 a12 a13 a14 a15 a16 a17 a18 a19:Type}(v:a18)(x:a0×a1×a2×a3×a4×a5×a6×a7×a8×a9×a10×a11×a12×a13×a14×a15×a16×a17×a18×a19):a0×a1×a2×a3×a4×a5×a6×a7×a8×a9×a10×a11×a12×a13×a14×a15×a16×a17×a18×a19:=(x.1,x.2.1,x.2.2.1,x.2.2.2.1,x.2.2.2.2.1,x.2.2.2.2.2.1,x.2.2.2.2.2.2.1,x.2.2.2.2.2.2.2.1,x.2.2.2.2.2.2.2.2.1,x.2.2.2.2.2.2.2.2.2.1,x.2.2.2.2.2.2.2.2.2.2.1,x.2.2.2.2.2.2.2.2.2.2.2.1,x.2.2.2.2.2.2.2.2.2.2.2.2.1,x.2.2.2.2.2.2.2.2.2.2.2.2.2.1,x.2.2.2.2.2.2.2.2.2.2.2.2.2.2.1,x.2.2.2.2.2.2.2.2.2.2.2.2.2.2.2.1,x.2.2.2.2.2.2.2.2.2.2.2.2.2.2.2.2.1,x.2.2.2.2.2.2.2.2.2.2.2.2.2.2.2.2.2.1,v,x.2.2.2.2.2.2.2.2.2.2.2.2.2.2.2.2.2.2.2)
def S19{a0 a1 a2 a3 a4 a5 a6 a7 a8 a9 a10 a11 a12 a13 a14 a15 a16 a17 a18 a19 a20:Type}(v:a19)(x:a0×a1×a2×a3×a4×a5×a6×a7×a8×a9×a10×a11×a12×a13×a14×a15×a16×a17×a18×a19×a20):a0×a1×a2×a3×a4×a5×a6×a7×a8×a9×a10×a11×a12×a13×a14×a15×a16×a17×a18×a19×a20:=(x.1,x.2.1,x.2.2.1,x.2.2.2.1,x.2.2.2.2.1,x.2.2.2.2.2.1,x.2.2.2.2.2.2.1,x.2.2.2.2.2.2.2.1,x.2.2.2.2.2.2.2.2.1,x.2.2.2.2.2.2.2.2.2.1,x.2.2.2.2.2.2.2.2.2.2.1,x.2.2.2.2.2.2.2.2.2.2.2.1,x.2.2.2.2.2.2.2.2.2.2.2.2.1,x.2.2.2.2.2.2.2.2.2.2.2.2.2.1,x.2.2.2.2.2.2.2.2.2.2.2.2.2.2.1,x.2.2.2.2.2.2.2.2.2.2.2.2.2.2.2.1,x.2.2.2.2.2.2.2.2.2.2.2.2.2.2.2.2.1,x.2.2.2.2.2.2.2.2.2.2.2.2.2.2.2.2.2.1,x.2.2.2.2.2.2.2.2.2.2.2.2.2.2.2.2.2.2.1,v,x.2.2.2.2.2.2.2.2.2.2.2.2.2.2.2.2.2.2.2.2)
def S20{a0 a1 a2 a3 a4 a5 a6 a7 a8 a9 a10 a11 a12 a13 a14 a15 a16 a17 a18 a19 a20 a21:Type}(v:a20)(x:a0×a1×a2×a3×a4×a5×a6×a7×a8×a9×a10×a11×a12×a13×a14×a15×a16×a17×a18×a19×a20×a21):a0×a1×a2×a3×a4×a5×a6×a7×a8×a9×a10×a11×a12×a13×a14×a15×a16×a17×a18×a19×a20×a21:=(x.1,x.2.1,x.2.2.1,x.2.2.2.1,x.2.2.2.2.1,x.2.2.2.2.2.1,x.2.2.2.2.2.2.1,x.2.2.2.2.2.2.2.1,x.2.2.2.2.2.2.2.2.1,x.2.2.2.2.2.2.2.2.2.1,x.2.2.2.2.2.2.2.2.2.2.1,x.2.2.2.2.2.2.2.2.2.2.2.1,x.2.2.2.2.2.2.2.2.2.2.2.2.1,x.2.2.2.2.2.2.2.2.2.2.2.2.2.1,x.2.2.2.2.2.2.2.2.2.2.2.2.2.2.1,x.2.2.2.2.2.2.2.2.2.2.2.2.2.2.2.1,x.2.2.2.2.2.2.2.2.2.2.2.2.2.2.2.2.1,x.2.2.2.2.2.2.2.2.2.2.2.2.2.2.2.2.2.1,x.2.2.2.2.2.2.2.2.2.2.2.2.2.2.2.2.2.2.1,x.2.2.2.2.2.2.2.2.2.2.2.2.2.2.2.2.2.2.2.1,v,x.2.2.2.2.2.2.2.2.2.2.2.2.2.2.2.2.2.2.2.2.2)
def U4{a0 a1 a2 a3 a4:Type}(v:a4)(x:a0×a1×a2×a3×a4):a0×a1×a2×a3×a4:=(x.1,x.2.1,x.2.2.1,x.2.2.2.1,v)
def U5{a0 a1 a2 a3 a4 a5:Type}(v:a5)(x:a0×a1×a2×a3×a4×a5):a0×a1×a2×a3×a4×a5:=(x.1,x.2.1,x.2.2.1,x.2.2.2.1,x.2.2.2.2.1,v)
def U6{a0 a1 a2 a3 a4 a5 a6:Type}(v:a6)(x:a0×a1×a2×a3×a4×a5×a6):a0×a1×a2×a3×a4×a5×a6:=(x.1,x.2.1,x.2.2.1,x.2.2.2.1,x.2.2.2.2.1,x.2.2.2.2.2.1,v)
def U7{a0 a1 a2 a3 a4 a5 a6 a7:Type}(v:a7)(x:a0×a1×a2×a3×a4×a5×a6×a7):a0×a1×a2×a3×a4×a5×a6×a7:=(x.1,x.2.1,x.2.2.1,x.2.2.2.1,x.2.2.2.2.1,x.2.2.2.2.2.1,x.2.2.2.2.2.2.1,v)
def U8{a0 a1 a2 a3 a4 a5 a6 a7 a8:Type}(v:a8)(x:a0×a1×a2×a3×a4×a5×a6×a7×a8):a0×a1×a2×a3×a4×a5×a6×a7×a8:=(x.1,x.2.1,x.2.2.1,x.2.2.2.1,x.2.2.2.2.1,x.2.2.2.2.2.1,x.2.2.2.2.2.2.1,x.2.2.2.2.2.2.2.1,v)
def U9{a0 a1 a2 a3 a4 a5 a6 a7 a8 a9:Type}(v:a9)(x:a0×a1×a2×a3×a4×a5×a6×a7×a8×a9):a0×a1×a2×a3×a4×a5×a6×a7×a8×a9:=(x.1,x.2.1,x.2.2.1,x.2.2.2.1,x.2.2.2.2.1,x.2.2.2.2.2.1,x.2.2.2.2.2.2.1,x.2.2.2.2.2.2.2.1,x.2.2.2.2.2.2.2.2.1,v)
def U10{a0 a1 a2 a3 a4 a5 a6 a7 a8 a9 a10:Type}(v:a10)(x:a0×a1×a2×a3×a4×a5×a6×a7×a8×a9×a10):a0×a1×a2×a3×a4×a5×a6×a7×a8×a9×a10:=(x.1,x.2.1,x.2.2.1,x.2.2.2.1,x.2.2.2.2.1,x.2.2.2.2.2.1,x.2.2.2.2.2.2.1,x.2.2.2.2.2.2.2.1,x.2.2.2.2.2.2.2.2.1,x.2.2.2.2.2.2.2.2.2.1,v)
def U11{a0 a1 a2 a3 a4 a5 a6 a7 a8 a9 a10 a11:Type}(v:a11)(x:a0×a1×a2×a3×a4×a5×a6×a7×a8×a9×a10×a11):a0×a1×a2×a3×a4×a5×a6×a7×a8×a9×a10×a11:=(x.1,x.2.1,x.2.2.1,x.2.2.2.1,x.2.2.2.2.1,x.2.2.2.2.2.1,x.2.2.2.2.2.2.1,x.2.2.2.2.2.2.2.1,x.2.2.2.2.2.2.2.2.1,x.2.2.2.2.2.2.2.2.2.1,x.2.2.2.2.2.2.2.2.2.2.1,v)
def U12{a0 a1 a2 a3 a4 a5 a6 a7 a8 a9 a10 a11 a12:Type}(v:a12)(x:a0×a1×a2×a3×a4×a5×a6×a7×a8×a9×a10×a11×a12):a0×a1×a2×a3×a4×a5×a6×a7×a8×a9×a10×a11×a12:=(x.1,x.2.1,x.2.2.1,x.2.2.2.1,x.2.2.2.2.1,x.2.2.2.2.2.1,x.2.2.2.2.2.2.1,x.2.2.2.2.2.2.2.1,x.2.2.2.2.2.2.2.2.1,x.2.2.2.2.2.2.2.2.2.1,x.2.2.2.2.2.2.2.2.2.2.1,x.2.2.2.2.2.2.2.2.2.2.2.1,v)
def U13{a0 a1 a2 a3 a4 a5 a6 a7 a8 a9 a10 a11 a12 a13:Type}(v:a13)(x:a0×a1×a2×a3×a4×a5×a6×a7×a8×a9×a10×a11×a12×a13):a0×a1×a2×a3×a4×a5×a6×a7×a8×a9×a10×a11×a12×a13:=(x.1,x.2.1,x.2.2.1,x.2.2.2.1,x.2.2.2.2.1,x.2.2.2.2.2.1,x.2.2.2.2.2.2.1,x.2.2.2.2.2.2.2.1,x.2.2.2.2.2.2.2.2.1,x.2.2.2.2.2.2.2.2.2.1,x.2.2.2.2.2.2.2.2.2.2.1,x.2.2.2.2.2.2.2.2.2.2.2.1,x.2.2.2.2.2.2.2.2.2.2.2.2.1,v)
def U14{a0 a1 a2 a3 a4 a5 a6 a7 a8 a9 a10 a11 a12 a13 a14:Type}(v:a14)(x:a0×a1×a2×a3×a4×a5×a6×a7×a8×a9×a10×a11×a12×a13×a14):a0×a1×a2×a3×a4×a5×a6×a7×a8×a9×a10×a11×a12×a13×a14:=(x.1,x.2.1,x.2.2.1,x.2.2.2.1,x.2.2.2.2.1,x.2.2.2.2.2.1,x.2.2.2.2.2.2.1,x.2.2.2.2.2.2.2.1,x.2.2.2.2.2.2.2.2.1,x.2.2.2.2.2.2.2.2.2.1,x.2.2.2.2.2.2.2.2.2.2.1,x.2.2.2.2.2.2.2.2.2.2.2.1,x.2.2.2.2.2.2.2.2.2.2.2.2.1,x.2.2.2.2.2.2.2.2.2.2.2.2.2.1,v)
def U15{a0 a1 a2 a3 a4 a5 a6 a7 a8 a9 a10 a11 a12 a13 a14 a15:Type}(v:a15)(x:a0×a1×a2×a3×a4×a5×a6×a7×a8×a9×a10×a11×a12×a13×a14×a15):a0×a1×a2×a3×a4×a5×a6×a7×a8×a9×a10×a11×a12×a13×a14×a15:=(x.1,x.2.1,x.2.2.1,x.2.2.2.1,x.2.2.2.2.1,x.2.2.2.2.2.1,x.2.2.2.2.2.2.1,x.2.2.2.2.2.2.2.1,x.2.2.2.2.2.2.2.2.1,x.2.2.2.2.2.2.2.2.2.1,x.2.2.2.2.2.2.2.2.2.2.1,x.2.2.2.2.2.2.2.2.2.2.2.1,x.2.2.2.2.2.2.2.2.2.2.2.2.1,x.2.2.2.2.2.2.2.2.2.2.2.2.2.1,x.2.2.2.2.2.2.2.2.2.2.2.2.2.2.1,v)
def U16{a0 a1 a2 a3 a4 a5 a6 a7 a8 a9 a10 a11 a12 a13 a14 a15 a16:Type}(v:a16)(x:a0×a1×a2×a3×a4×a5×a6×a7×a8×a9×a10×a11×a12×a13×a14×a15×a16):a0×a1×a2×a3×a4×a5×a6×a7×a8×a9×a10×a11×a12×a13×a14×a15×a16:=(x.1,x.2.1,x.2.2.1,x.2.2.2.1,x.2.2.2.2.1,x.2.2.2.2.2.1,x.2.2.2.2.2.2.1,x.2.2.2.2.2.2.2.1,x.2.2.2.2.2.2.2.2.1,x.2.2.2.2.2.2.2.2.2.1,x.2.2.2.2.2.2.2.2.2.2.1,x.2.2.2.2.2.2.2.2.2.2.2.1,x.2.2.2.2.2.2.2.2.2.2.2.2.1,x.2.2.2.2.2.2.2.2.2.2.2.2.2.1,x.2.2.2.2.2.2.2.2.2.2.2.2.2.2.1,x.2.2.2.2.2.2.2.2.2.2.2.2.2.2.2.1,v)
def U17{a0 a1 a2 a3 a4 a5 a6 a7 a8 a9 a10 a11 a12 a13 a14 a15 a16 a17:Type}(v:a17)(x:a0×a1×a2×a3×a4×a5×a6×a7×a8×a9×a10×a11×a12×a13×a14×a15×a16×a17):a0×a1×a2×a3×a4×a5×a6×a7×a8×a9×a10×a11×a12×a13×a14×a15×a16×a17:=(x.1,x.2.1,x.2.2.1,x.2.2.2.1,x.2.2.2.2.1,x.2.2.2.2.2.1,x.2.2.2.2.2.2.1,x.2.2.2.2.2.2.2.1,x.2.2.2.2.2.2.2.2.1,x.2.2.2.2.2.2.2.2.2.1,x.2.2.2.2.2.2.2.2.2.2.1,x.2.2.2.2.2.2.2.2.2.2.2.1,x.2.2.2.2.2.2.2.2.2.2.2.2.1,x.2.2.2.2.2.2.2.2.2.2.2.2.2.1,x.2.2.2.2.2.2.2.2.2.2.2.2.2.2.1,x.2.2.2.2.2.2.2.2.2.2.2.2.2.2.2.1,x.2.2.2.2.2.2.2.2.2.2.2.2.2.2.2.2.1,v)
def U18{a0 a1 a2 a3 a4 a5 a6 a7 a8 a9 a10 a11 a12 a13 a14 a15 a16 a17 a18:Type}(v:a18)(x:a0×a1×a2×a3×a4×a5×a6×a7×a8×a9×a10×a11×a12×a13×a14×a15×a16×a17×a18):a0×a1×a2×a3×a4×a5×a6×a7×a8×a9×a10×a11×a12×a13×a14×a15×a16×a17×a18:=(x.1,x.2.1,x.2.2.1,x.2.2.2.1,x.2.2.2.2.1,x.2.2.2.2.2.1,x.2.2.2.2.2.2.1,x.2.2.2.2.2.2.2.1,x.2.2.2.2.2.2.2.2.1,x.2.2.2.2.2.2.2.2.2.1,x.2.2.2.2.2.2.2.2.2.2.1,x.2.2.2.2.2.2.2.2.2.2.2.1,x.2.2.2.2.2.2.2.2.2.2.2.2.1,x.2.2.2.2.2.2.2.2.2.2.2.2.2.1,x.2.2.2.2.2.2.2.2.2.2.2.2.2.2.1,x.2.2.2.2.2.2.2.2.2.2.2.2.2.2.2.1,x.2.2.2.2.2.2.2.2.2.2.2.2.2.2.2.2.1,x.2.2.2.2.2.2.2.2.2.2.2.2.2.2.2.2.2.1,v)
def U19{a0 a1 a2 a3 a4 a5 a6 a7 a8 a9 a10 a11 a12 a13 a14 a15 a16 a17 a18 a19:Type}(v:a19)(x:a0×a1×a2×a3×a4×a5×a6×a7×a8×a9×a10×a11×a12×a13×a14×a15×a16×a17×a18×a19):a0×a1×a2×a3×a4×a5×a6×a7×a8×a9×a10×a11×a12×a13×a14×a15×a16×a17×a18×a19:=(x.1,x.2.1,x.2.2.1,x.2.2.2.1,x.2.2.2.2.1,x.2.2.2.2.2.1,x.2.2.2.2.2.2.1,x.2.2.2.2.2.2.2.1,x.2.2.2.2.2.2.2.2.1,x.2.2.2.2.2.2.2.2.2.1,x.2.2.2.2.2.2.2.2.2.2.1,x.2.2.2.2.2.2.2.2.2.2.2.1,x.2.2.2.2.2.2.2.2.2.2.2.2.1,x.2.2.2.2.2.2.2.2.2.2.2.2.2.1,x.2.2.2.2.2.2.2.2.2.2.2.2.2.2.1,x.2.2.2.2.2.2.2.2.2.2.2.2.2.2.2.1,x.2.2.2.2.2.2.2.2.2.2.2.2.2.2.2.2.1,x.2.2.2.2.2.2.2.2.2.2.2.2.2.2.2.2.2.1,x.2.2.2.2.2.2.2.2.2.2.2.2.2.2.2.2.2.2.1,v)
def U20{a0 a1 a2 a3 a4 a5 a6 a7 a8 a9 a10 a11 a12 a13 a14 a15 a16 a17 a18 a19 a20:Type}(v:a20)(x:a0×a1×a2×a3×a4×a5×a6×a7×a8×a9×a10×a11×a12×a13×a14×a15×a16×a17×a18×a19×a20):a0×a1×a2×a3×a4×a5×a6×a7×a8×a9×a10×a11×a12×a13×a14×a15×a16×a17×a18×a19×a20:=(x.1,x.2.1,x.2.2.1,x.2.2.2.1,x.2.2.2.2.1,x.2.2.2.2.2.1,x.2.2.2.2.2.2.1,x.2.2.2.2.2.2.2.1,x.2.2.2.2.2.2.2.2.1,x.2.2.2.2.2.2.2.2.2.1,x.2.2.2.2.2.2.2.2.2.2.1,x.2.2.2.2.2.2.2.2.2.2.2.1,x.2.2.2.2.2.2.2.2.2.2.2.2.1,x.2.2.2.2.2.2.2.2.2.2.2.2.2.1,x.2.2.2.2.2.2.2.2.2.2.2.2.2.2.1,x.2.2.2.2.2.2.2.2.2.2.2.2.2.2.2.1,x.2.2.2.2.2.2.2.2.2.2.2.2.2.2.2.2.1,x.2.2.2.2.2.2.2.2.2.2.2.2.2.2.2.2.2.1,x.2.2.2.2.2.2.2.2.2.2.2.2.2.2.2.2.2.2.1,x.2.2.2.2.2.2.2.2.2.2.2.2.2.2.2.2.2.2.2.1,v)
def U21{a0 a1 a2 a3 a4 a5 a6 a7 a8 a9 a10 a11 a12 a13 a14 a15 a16 a17 a18 a19 a20 a21:Type}(v:a21)(x:a0×a1×a2×a3×a4×a5×a6×a7×a8×a9×a10×a11×a12×a13×a14×a15×a16×a17×a18×a19×a20×a21):a0×a1×a2×a3×a4×a5×a6×a7×a8×a9×a10×a11×a12×a13×a14×a15×a16×a17×a18×a19×a20×a21:=(x.1,x.2.1,x.2.2.1,x.2.2.2.1,x.2.2.2.2.1,x.2.2.2.2.2.1,x.2.2.2.2.2.2.1,x.2.2.2.2.2.2.2.1,x.2.2.2.2.2.2.2.2.1,x.2.2.2.2.2.2.2.2.2.1,x.2.2.2.2.2.2.2.2.2.2.1,x.2.2.2.2.2.2.2.2.2.2.2.1,x.2.2.2.2.2.2.2.2.2.2.2.2.1,x.2.2.2.2.2.2.2.2.2.2.2.2.2.1,x.2.2.2.2.2.2.2.2.2.2.2.2.2.2.1,x.2.2.2.2.2.2.2.2.2.2.2.2.2.2.2.1,x.2.2.2.2.2.2.2.2.2.2.2.2.2.2.2.2.1,x.2.2.2.2.2.2.2.2.2.2.2.2.2.2.2.2.2.1,x.2.2.2.2.2.2.2.2.2.2.2.2.2.2.2.2.2.2.1,x.2.2.2.2.2.2.2.2.2.2.2.2.2.2.2.2.2.2.2.1,x.2.2.2.2.2.2.2.2.2.2.2.2.2.2.2.2.2.2.2.2.1,v)
abbrev Y_KidRun:=Int×Int×Int×Int×Int×Int×List Int×List (Int×Int×Int)×List (Int×Int)×List (Int×Int×List Int)×Bool×Int×Int×Int×Int
abbrev TY_KidRun:Ty:=.prod (.int .i64) (.prod (.int .i64) (.prod (.int .i64) (.prod (.int .i64) (.prod (.int .i64) (.prod (.int .i64) (.prod (.slice (.int .i64)) (.prod (.slice (.prod (.int .i64) (.prod (.int .i64) (.int .i64)))) (.prod (.slice (.prod (.int .i64) (.int .i64))) (.prod (.slice (.prod (.int .i64) (.prod (.int .i64) (.slice (.int .i64))))) (.prod (.bool) (.prod (.int .i64) (.prod (.int .i64) (.prod (.int .i64) (.int .i64))))))))))))))
abbrev Y_Family:=Int×Int×Int×Bool×List Int×List (Int×Int)×List (Int×Int×Int)×List Int×List (Int×Int)×List Y_KidRun
abbrev TY_Family:Ty:=.prod (.int .i64) (.prod (.int .i64) (.prod (.int .i64) (.prod (.bool) (.prod (.slice (.int .i64)) (.prod (.slice (.prod (.int .i64) (.int .i64))) (.prod (.slice (.prod (.int .i64) (.prod (.int .i64) (.int .i64)))) (.prod (.slice (.int .i64)) (.prod (.slice (.prod (.int .i64) (.int .i64))) (.slice (TY_KidRun))))))))))
abbrev Y_Root:=Int×Int×Int×Int×Int×Int×Int×Int×Int×Int×Int×Bool×List Int×List (Int×Int)×List (Int×Int)×List (Int×Int×Int×Int×List Int)×List (Int×Int×Int)×List Int×Bool×(Int×Int×Int×Int)×(Int×Int×Int×Int×Int×List (Int×Int)×List Int)×Y_Family
abbrev TY_Root:Ty:=.prod (.int .i64) (.prod (.int .i64) (.prod (.int .i64) (.prod (.int .i64) (.prod (.int .i64) (.prod (.int .i64) (.prod (.int .i64) (.prod (.int .i64) (.prod (.int .i64) (.prod (.int .i64) (.prod (.int .i64) (.prod (.bool) (.prod (.slice (.int .i64)) (.prod (.slice (.prod (.int .i64) (.int .i64))) (.prod (.slice (.prod (.int .i64) (.int .i64))) (.prod (.slice (.prod (.int .i64) (.prod (.int .i64) (.prod (.int .i64) (.prod (.int .i64) (.slice (.int .i64))))))) (.prod (.slice (.prod (.int .i64) (.prod (.int .i64) (.int .i64)))) (.prod (.slice (.int .i64)) (.prod (.bool) (.prod (.prod (.int .i64) (.prod (.int .i64) (.prod (.int .i64) (.int .i64)))) (.prod (.prod (.int .i64) (.prod (.int .i64) (.prod (.int .i64) (.prod (.int .i64) (.prod (.int .i64) (.prod (.slice (.prod (.int .i64) (.int .i64))) (.slice (.int .i64)))))))) (TY_Family)))))))))))))))))))))
abbrev Y_World:=Int×Int×(Int×List (Int×Int×Int))×(List Int×Int)×List (Int×Int×Int)×List Y_Root×List (Int×Int×List (Int×Int))
abbrev TY_World:Ty:=.prod (.int .i64) (.prod (.int .i64) (.prod (.prod (.int .i64) (.slice (.prod (.int .i64) (.prod (.int .i64) (.int .i64))))) (.prod (.prod (.slice (.int .i64)) (.int .i64)) (.prod (.slice (.prod (.int .i64) (.prod (.int .i64) (.int .i64)))) (.prod (.slice (TY_Root)) (.slice (.prod (.int .i64) (.prod (.int .i64) (.slice (.prod (.int .i64) (.int .i64)))))))))))
def d_KidRun:Y_KidRun:=(0,(0,(0,(0,(0,(0,(([]:List Int),(([]:List (Int×Int×Int)),(([]:List (Int×Int)),(([]:List (Int×Int×List Int)),(false,(0,0,0,0))))))))))))
def d_Family:Y_Family:=(0,(0,(0,(false,(([]:List Int),(([]:List (Int×Int)),(([]:List (Int×Int×Int)),(([]:List Int),(([]:List (Int×Int)),([]:List Y_KidRun))))))))))
def d_Root:Y_Root:=(0,(0,(0,(0,(0,(0,(0,(0,(0,(0,(0,(false,(([]:List Int),(([]:List (Int×Int)),(([]:List (Int×Int)),(([]:List (Int×Int×Int×Int×List Int)),(([]:List (Int×Int×Int)),(([]:List Int),(false,((0,0,0,0),((0,(0,(0,(0,(0,(([]:List (Int×Int)),([]:List Int))))))),d_Family)))))))))))))))))))))
def d_World:Y_World:=(0,(0,((0,([]:List (Int×Int×Int))),((([]:List Int),0),(([]:List (Int×Int×Int)),(([]:List Y_Root),([]:List (Int×Int×List (Int×Int)))))))))
def Zah(N:Nat)(x1:Int)(low2:Int)(high3:Int):Option (Unit×(Bool×Unit)):=
    (bif decide (x1≥low2)then
 (some ((),(decide (x1≤high3),())))
 else
 (some ((),(false,()))))
def Zfl(N:Nat)(v1:Int):Option (Unit×(Bool×Unit)):=
    ((Zah N v1 0 65535).bind λo2=>
 (some ((),(o2.2.1,()))))
def Zdc{R:Type}(N:Nat)(l2:List Int)(K0:Option R)(K1:Int→Bool→Option R):Nat→Int→Option R
  |0,_=>none
  |n+1,i3=>
    (bif decide (i3<(ilen l2))then
 (bif inb i3 (Xa l2)then
 ((Zfl N (Xd l2 (Xb i3) 0)).bind λo7=>
 (bif !o7.2.1 then
 K0
 else
 (Zdc N l2 K0 K1 n (iadd .i64 i3 1))))else none)
 else
 (K1 i3 (decide (i3<(ilen l2)))))
def Zgb(N:Nat)(l1:List Int):Option (Unit×(Bool×Unit)):=
    (bif (ilen l1) !=8 then
 (some ((),(false,())))
 else
 (Zdc N l1
 (some ((),(false,())))
 (λi8 t9=>
   (some ((),(true,()))))
  N 0))
def Zhb(N:Nat)(i1:Int):Option (Unit×(Bool×Unit)):=
    ((Zah N i1 0 7).bind λo2=>
 (some ((),(o2.2.1,()))))
def Zu(N:Nat)(i1:Int):Option (Unit×(Bool×Unit)):=
    ((Zah N i1 0 3).bind λo2=>
 (some ((),(o2.2.1,()))))
def Zt(N:Nat)(o1:Int×Int×Int×Int):Option (Unit×(Bool×Unit)):=
    (Wt ((bif o1.2.2.1==0 then
 (some ((),(o1.2.2.2==0,())))
 else
 (some ((),(false,())))):Option (Unit×(Bool×Unit))) λe9004=>
 (Wt (((Zu N o1.2.2.1).bind λbq2=>
 (bif bq2.2.1 then
 ((Zu N o1.2.2.2).bind λbq1=>
 (some ((),(bq1.2.1,()))))
 else
 (some ((),(false,()))))):Option (Unit×(Bool×Unit))) λe9006=>
 (Wt (((Zu N o1.2.2.1).bind λbq1=>
 (bif bq1.2.1 then
 (some ((),(o1.2.2.2==0,())))
 else
 (some ((),(false,()))))):Option (Unit×(Bool×Unit))) λe9007=>
 (bif o1.1==1 then
 ((Zu N o1.2.1).bind λbq2=>
 (bif bq2.2.1 then
 ((Zfl N o1.2.2.1).bind λbq1=>
 (bif bq1.2.1 then
 (some ((),(o1.2.2.2==0,())))
 else
 (some ((),(false,())))))
 else
 (some ((),(false,())))))
 else
 (Wt ((Wt ((bif o1.1==12 then
 ((Zah N o1.2.1 0 7).bind λbq3=>
 (bif bq3.2.1 then
 e9006
 else
 (some ((),(false,())))))
 else
 (bif o1.1==13 then
 ((Zu N o1.2.1).bind λbq2=>
 (bif bq2.2.1 then
 ((Zah N o1.2.2.1 0 7).bind λbq1=>
 (bif bq1.2.1 then
 (some ((),(o1.2.2.2==0,())))
 else
 (some ((),(false,())))))
 else
 (some ((),(false,())))))
 else
 (bif o1.1==14 then
 ((Zah N o1.2.1 0 7).bind λbq2=>
 (bif bq2.2.1 then
 e9007
 else
 (some ((),(false,())))))
 else
 (some ((),(false,())))))):Option (Unit×(Bool×Unit))) λe9002=>
 (Wt ((bif o1.2.1==0 then
 e9004
 else
 (some ((),(false,())))):Option (Unit×(Bool×Unit))) λe9008=>
 (bif o1.1==9 then
 (bif o1.1==9 then
 e9008
 else
 e9002)
 else
 (bif o1.1==10 then
 (bif o1.1==10 then
 e9008
 else
 e9002)
 else
 (bif o1.1==11 then
 e9008
 else
 e9002))))):Option (Unit×(Bool×Unit))) λe9000=>
 (Wt ((bif o1.1==5 then
 ((Zu N o1.2.1).bind λbq2=>
 (bif bq2.2.1 then
 ((Zhb N o1.2.2.1).bind λbq1=>
 (bif bq1.2.1 then
 (some ((),(o1.2.2.2==0,())))
 else
 (some ((),(false,())))))
 else
 (some ((),(false,())))))
 else
 (bif o1.1==6 then
 ((Zhb N o1.2.1).bind λbq2=>
 (bif bq2.2.1 then
 e9007
 else
 (some ((),(false,())))))
 else
 (bif o1.1==7 then
 ((Zu N o1.2.1).bind λbq2=>
 (bif bq2.2.1 then
 ((Zah N o1.2.2.1 1 20).bind λbq1=>
 (bif bq1.2.1 then
 (some ((),(o1.2.2.2==0,())))
 else
 (some ((),(false,())))))
 else
 (some ((),(false,())))))
 else
 (Wt (((Zu N o1.2.1).bind λbq1=>
 (bif bq1.2.1 then
 e9004
 else
 (some ((),(false,()))))):Option (Unit×(Bool×Unit))) λe9005=>
 (bif o1.1==8 then
 (bif o1.1==8 then
 e9005
 else
 e9000)
 else
 (bif o1.1==15 then
 (bif o1.1==15 then
 e9005
 else
 e9000)
 else
 (bif o1.1==16 then
 e9005
 else
 e9000))))))):Option (Unit×(Bool×Unit))) λe9001=>
 (Wt (((Zu N o1.2.1).bind λbq3=>
 (bif bq3.2.1 then
 e9006
 else
 (some ((),(false,()))))):Option (Unit×(Bool×Unit))) λe9003=>
 (bif o1.1==2 then
 (bif o1.1==2 then
 e9003
 else
 e9001)
 else
 (bif o1.1==3 then
 (bif o1.1==3 then
 e9003
 else
 e9001)
 else
 (bif o1.1==4 then
 e9003
 else
 e9001))))))))))
def Za5{R:Type}(N:Nat)(code3:List (Int×Int×Int×Int))(to4:Int)(K0:Option R)(K1:Int→Int→Bool→Option R):Nat→Int→Int→Option R
  |0,_,_=>none
  |n+1,d5,k6=>
    (bif decide (k6<to4)then
 (bif inb k6 (Xa code3)then
 (bif (Xd code3 (Xb k6) (0,0,0,0)).1==8 then
 (bif inb k6 (Xa code3)then
 (bif (Xd code3 (Xb k6) (0,0,0,0)).1==9 then
 (bif decide ((isub .i64 (iadd .i64 d5 1) 1)<0)then
 K0
 else
 (Za5 N code3 to4 K0 K1 n (isub .i64 (iadd .i64 d5 1) 1) (iadd .i64 k6 1)))
 else
 (bif decide ((iadd .i64 d5 1)<0)then
 K0
 else
 (Za5 N code3 to4 K0 K1 n (iadd .i64 d5 1) (iadd .i64 k6 1))))else none)
 else
 (bif inb k6 (Xa code3)then
 (bif (Xd code3 (Xb k6) (0,0,0,0)).1==9 then
 (bif decide ((isub .i64 d5 1)<0)then
 K0
 else
 (Za5 N code3 to4 K0 K1 n (isub .i64 d5 1) (iadd .i64 k6 1)))
 else
 (bif decide (d5<0)then
 K0
 else
 (Za5 N code3 to4 K0 K1 n d5 (iadd .i64 k6 1))))else none))else none)
 else
 (K1 d5 k6 (decide (k6<to4))))
def Zgc(N:Nat)(code1:List (Int×Int×Int×Int))(i2:Int):Option (Unit×(Bool×Unit)):=
    (bif inb i2 (Xa code1)then
 (bif decide ((iadd .i64 (iadd .i64 i2 1) (Xd code1 (Xb i2) (0,0,0,0)).2.2.1)>(ilen code1))then
 (some ((),(false,())))
 else
 (Za5 N code1 (iadd .i64 (iadd .i64 i2 1) (Xd code1 (Xb i2) (0,0,0,0)).2.2.1)
 (some ((),(false,())))
 (λd10 k11 t12=>
   (some ((),(d10==0,()))))
  N 0 (iadd .i64 i2 1)))else none)
def Za6{R:Type}(N:Nat)(code2:List (Int×Int×Int×Int))(K0:Option R)(K1:Int→Int→Int→Bool→Option R):Nat→Int→Int→Int→Option R
  |0,_,_,_=>none
  |n+1,d3,forks4,i5=>
    (bif decide (i5<(ilen code2))then
 (bif inb i5 (Xa code2)then
 ((Zt N (Xd code2 (Xb i5) (0,0,0,0))).bind λo12=>
 (bif !o12.2.1 then
 K0
 else
 (bif inb i5 (Xa code2)then
 (bif (Xd code2 (Xb i5) (0,0,0,0)).1==8 then
 (bif decide ((iadd .i64 d3 1)<0)then
 K0
 else
 (Za6 N code2 K0 K1 n (iadd .i64 d3 1) forks4 (iadd .i64 i5 1)))
 else
 (bif (Xd code2 (Xb i5) (0,0,0,0)).1==9 then
 (bif decide ((isub .i64 d3 1)<0)then
 K0
 else
 (Za6 N code2 K0 K1 n (isub .i64 d3 1) forks4 (iadd .i64 i5 1)))
 else
 (bif (Xd code2 (Xb i5) (0,0,0,0)).1==7 then
 ((Zgc N code2 i5).bind λo13=>
 (bif !o13.2.1 then
 K0
 else
 (bif decide (d3<0)then
 K0
 else
 (Za6 N code2 K0 K1 n d3 forks4 (iadd .i64 i5 1)))))
 else
 (bif (Xd code2 (Xb i5) (0,0,0,0)).1==11 then
 (bif decide (d3>0)then
 K0
 else
 (bif decide ((iadd .i64 forks4 1)>1)then
 K0
 else
 (bif decide (d3<0)then
 K0
 else
 (Za6 N code2 K0 K1 n d3 (iadd .i64 forks4 1) (iadd .i64 i5 1)))))
 else
 (bif decide (d3<0)then
 K0
 else
 (Za6 N code2 K0 K1 n d3 forks4 (iadd .i64 i5 1)))))))else none)))else none)
 else
 (K1 d3 forks4 i5 (decide (i5<(ilen code2)))))
def Zd2(N:Nat)(code1:List (Int×Int×Int×Int)):Option (Unit×(Bool×Unit)):=
    (bif decide ((ilen code1)>24)then
 (some ((),(false,())))
 else
 (Za6 N code1
 (some ((),(false,())))
 (λd14 forks15 i16 t17=>
   (some ((),(d14==0,()))))
  N 0 0 0))
def Zcu{R:Type}(N:Nat)(code2:List (Int×Int×Int×Int))(K0:Option R)(K1:Int→Bool→Option R):Nat→Int→Option R
  |0,_=>none
  |n+1,i3=>
    (bif decide (i3<(ilen code2))then
 (bif inb i3 (Xa code2)then
 (bif (Xd code2 (Xb i3) (0,0,0,0)).1==11 then
 K0
 else
 (Zcu N code2 K0 K1 n (iadd .i64 i3 1)))else none)
 else
 (K1 i3 (decide (i3<(ilen code2)))))
def Zc5(N:Nat)(code1:List (Int×Int×Int×Int)):Option (Unit×(Bool×Unit)):=
    (Zcu N code1
 (some ((),(true,())))
 (λi6 t7=>
   (some ((),(false,()))))
  N 0)
def Zcc(N:Nat)(o1:Int×Int×Int×Int):Option (Unit×(Int×Unit)):=
    ((Zt N o1).bind λo2=>
 (bif !o2.2.1 then
 (some ((),(0,())))
 else
 (bif o1.1==5 then
 (bif o1.1==5 then
 (some ((),(1,())))
 else
 (bif o1.1==12 then
 (bif o1.1==12 then
 (some ((),(2,())))
 else
 (some ((),(0,()))))
 else
 (bif o1.1==13 then
 (bif o1.1==13 then
 (some ((),(2,())))
 else
 (some ((),(0,()))))
 else
 (bif o1.1==14 then
 (bif o1.1==14 then
 (some ((),(2,())))
 else
 (some ((),(0,()))))
 else
 (bif o1.1==15 then
 (bif o1.1==15 then
 (some ((),(2,())))
 else
 (some ((),(0,()))))
 else
 (bif o1.1==16 then
 (some ((),(2,())))
 else
 (some ((),(0,())))))))))
 else
 (bif o1.1==6 then
 (some ((),(1,())))
 else
 (bif o1.1==12 then
 (bif o1.1==12 then
 (some ((),(2,())))
 else
 (some ((),(0,()))))
 else
 (bif o1.1==13 then
 (bif o1.1==13 then
 (some ((),(2,())))
 else
 (some ((),(0,()))))
 else
 (bif o1.1==14 then
 (bif o1.1==14 then
 (some ((),(2,())))
 else
 (some ((),(0,()))))
 else
 (bif o1.1==15 then
 (bif o1.1==15 then
 (some ((),(2,())))
 else
 (some ((),(0,()))))
 else
 (bif o1.1==16 then
 (some ((),(2,())))
 else
 (some ((),(0,()))))))))))))
def Zeh{R:Type}(N:Nat)(code4:List (Int×Int×Int×Int))(K0:Option R)(K1:Int→Bool→Option R):Nat→Int→Option R
  |0,_=>none
  |n+1,i5=>
    (bif decide (i5<(ilen code4))then
 (bif inb i5 (Xa code4)then
 ((Zcc N (Xd code4 (Xb i5) (0,0,0,0))).bind λo9=>
 (bif o9.2.1==2 then
 K0
 else
 (Zeh N code4 K0 K1 n (iadd .i64 i5 1))))else none)
 else
 (K1 i5 (decide (i5<(ilen code4)))))
def Zfm(N:Nat)(code1:List (Int×Int×Int×Int)):Option (Unit×(Bool×Unit)):=
    ((Zd2 N code1).bind λo2=>
 (bif !o2.2.1 then
 (some ((),(false,())))
 else
 ((Zc5 N code1).bind λo3=>
 (bif o3.2.1 then
 (some ((),(false,())))
 else
 (Zeh N code1
 (some ((),(false,())))
 (λi10 t11=>
   (some ((),(true,()))))
  N 0)))))
def Zcv{R:Type}(N:Nat)(b4:Int×List (Int×Int×Int))(K0:Option R)(K1:Int→Bool→Option R):Nat→Int→Option R
  |0,_=>none
  |n+1,i3=>
    (bif decide (i3<(ilen b4.2))then
 (bif inb i3 (Xa b4.2)then
 ((Zfl N (Xd b4.2 (Xb i3) (0,0,0)).1).bind λo10=>
 (bif !o10.2.1 then
 K0
 else
 ((Zah N (Xd b4.2 (Xb i3) (0,0,0)).2.1 0 b4.1).bind λo11=>
 (bif !o11.2.1 then
 K0
 else
 ((Zah N (Xd b4.2 (Xb i3) (0,0,0)).2.2 0 99).bind λo12=>
 (bif !o12.2.1 then
 K0
 else
 (Zcv N b4 K0 K1 n (iadd .i64 i3 1))))))))else none)
 else
 (K1 i3 (decide (i3<(ilen b4.2)))))
def Zfn(N:Nat)(m1:Int×List (Int×Int×Int)):Option (Unit×(Bool×Unit)):=
    (bif (ilen m1.2) !=8 then
 (some ((),(false,())))
 else
 ((Zah N m1.1 0 1000000).bind λo2=>
 (bif !o2.2.1 then
 (some ((),(false,())))
 else
 (Zcv N m1
 (some ((),(false,())))
 (λi13 t14=>
   (some ((),(true,()))))
  N 0))))
def Zq(N:Nat)(x1:Int)(lo2:Int)(hi3:Int):Option (Unit×(Bool×Unit)):=
    (bif decide (x1≥lo2)then
 (some ((),(decide (x1≤hi3),())))
 else
 (some ((),(false,()))))
def Zv(N:Nat)(r1:Int):Option (Unit×(Bool×Unit)):=
    ((Zq N r1 0 3).bind λo2=>
 (some ((),(o2.2.1,()))))
def Zax(N:Nat)(v1:Int):Option (Unit×(Bool×Unit)):=
    ((Zq N v1 0 65535).bind λo2=>
 (some ((),(o2.2.1,()))))
def Za8(N:Nat)(i1:Int):Option (Unit×(Bool×Unit)):=
    ((Zq N i1 0 7).bind λo2=>
 (some ((),(o2.2.1,()))))
def Za2(N:Nat)(k1:Int):Option (Unit×(Bool×Unit)):=
    ((Zq N k1 0 7).bind λo2=>
 (some ((),(o2.2.1,()))))
def Zr(N:Nat)(o1:Int×Int×Int×Int):Option (Unit×(Bool×Unit)):=
    (Wt ((bif o1.2.2.1==0 then
 (some ((),(o1.2.2.2==0,())))
 else
 (some ((),(false,())))):Option (Unit×(Bool×Unit))) λe9004=>
 (Wt (((Zv N o1.2.2.1).bind λbq2=>
 (bif bq2.2.1 then
 ((Zv N o1.2.2.2).bind λbq1=>
 (some ((),(bq1.2.1,()))))
 else
 (some ((),(false,()))))):Option (Unit×(Bool×Unit))) λe9006=>
 (Wt (((Zv N o1.2.2.1).bind λbq1=>
 (bif bq1.2.1 then
 (some ((),(o1.2.2.2==0,())))
 else
 (some ((),(false,()))))):Option (Unit×(Bool×Unit))) λe9007=>
 (bif o1.1==1 then
 ((Zv N o1.2.1).bind λbq2=>
 (bif bq2.2.1 then
 ((Zax N o1.2.2.1).bind λbq1=>
 (bif bq1.2.1 then
 (some ((),(o1.2.2.2==0,())))
 else
 (some ((),(false,())))))
 else
 (some ((),(false,())))))
 else
 (Wt ((Wt ((bif o1.1==12 then
 ((Za2 N o1.2.1).bind λbq3=>
 (bif bq3.2.1 then
 e9006
 else
 (some ((),(false,())))))
 else
 (bif o1.1==13 then
 ((Zv N o1.2.1).bind λbq2=>
 (bif bq2.2.1 then
 ((Za2 N o1.2.2.1).bind λbq1=>
 (bif bq1.2.1 then
 (some ((),(o1.2.2.2==0,())))
 else
 (some ((),(false,())))))
 else
 (some ((),(false,())))))
 else
 (bif o1.1==14 then
 ((Za2 N o1.2.1).bind λbq2=>
 (bif bq2.2.1 then
 e9007
 else
 (some ((),(false,())))))
 else
 (some ((),(false,())))))):Option (Unit×(Bool×Unit))) λe9002=>
 (Wt ((bif o1.2.1==0 then
 e9004
 else
 (some ((),(false,())))):Option (Unit×(Bool×Unit))) λe9008=>
 (bif o1.1==9 then
 (bif o1.1==9 then
 e9008
 else
 e9002)
 else
 (bif o1.1==10 then
 (bif o1.1==10 then
 e9008
 else
 e9002)
 else
 (bif o1.1==11 then
 e9008
 else
 e9002))))):Option (Unit×(Bool×Unit))) λe9000=>
 (Wt ((bif o1.1==5 then
 ((Zv N o1.2.1).bind λbq2=>
 (bif bq2.2.1 then
 ((Za8 N o1.2.2.1).bind λbq1=>
 (bif bq1.2.1 then
 (some ((),(o1.2.2.2==0,())))
 else
 (some ((),(false,())))))
 else
 (some ((),(false,())))))
 else
 (bif o1.1==6 then
 ((Za8 N o1.2.1).bind λbq2=>
 (bif bq2.2.1 then
 e9007
 else
 (some ((),(false,())))))
 else
 (bif o1.1==7 then
 ((Zv N o1.2.1).bind λbq2=>
 (bif bq2.2.1 then
 ((Zq N o1.2.2.1 1 20).bind λbq1=>
 (bif bq1.2.1 then
 (some ((),(o1.2.2.2==0,())))
 else
 (some ((),(false,())))))
 else
 (some ((),(false,())))))
 else
 (Wt (((Zv N o1.2.1).bind λbq1=>
 (bif bq1.2.1 then
 e9004
 else
 (some ((),(false,()))))):Option (Unit×(Bool×Unit))) λe9005=>
 (bif o1.1==8 then
 (bif o1.1==8 then
 e9005
 else
 e9000)
 else
 (bif o1.1==15 then
 (bif o1.1==15 then
 e9005
 else
 e9000)
 else
 (bif o1.1==16 then
 e9005
 else
 e9000))))))):Option (Unit×(Bool×Unit))) λe9001=>
 (Wt (((Zv N o1.2.1).bind λbq3=>
 (bif bq3.2.1 then
 e9006
 else
 (some ((),(false,()))))):Option (Unit×(Bool×Unit))) λe9003=>
 (bif o1.1==2 then
 (bif o1.1==2 then
 e9003
 else
 e9001)
 else
 (bif o1.1==3 then
 (bif o1.1==3 then
 e9003
 else
 e9001)
 else
 (bif o1.1==4 then
 e9003
 else
 e9001))))))))))
def Zhj(N:Nat)(o1:Int×Int×Int×Int):Option (Unit×(Int×Unit)):=
    ((Zr N o1).bind λo2=>
 (bif !o2.2.1 then
 (some ((),(0,())))
 else
 (bif o1.1==5 then
 (bif o1.1==5 then
 (some ((),(1,())))
 else
 (bif o1.1==12 then
 (bif o1.1==12 then
 (some ((),(2,())))
 else
 (some ((),(0,()))))
 else
 (bif o1.1==13 then
 (bif o1.1==13 then
 (some ((),(2,())))
 else
 (some ((),(0,()))))
 else
 (bif o1.1==14 then
 (bif o1.1==14 then
 (some ((),(2,())))
 else
 (some ((),(0,()))))
 else
 (bif o1.1==15 then
 (bif o1.1==15 then
 (some ((),(2,())))
 else
 (some ((),(0,()))))
 else
 (bif o1.1==16 then
 (some ((),(2,())))
 else
 (some ((),(0,())))))))))
 else
 (bif o1.1==6 then
 (some ((),(1,())))
 else
 (bif o1.1==12 then
 (bif o1.1==12 then
 (some ((),(2,())))
 else
 (some ((),(0,()))))
 else
 (bif o1.1==13 then
 (bif o1.1==13 then
 (some ((),(2,())))
 else
 (some ((),(0,()))))
 else
 (bif o1.1==14 then
 (bif o1.1==14 then
 (some ((),(2,())))
 else
 (some ((),(0,()))))
 else
 (bif o1.1==15 then
 (bif o1.1==15 then
 (some ((),(2,())))
 else
 (some ((),(0,()))))
 else
 (bif o1.1==16 then
 (some ((),(2,())))
 else
 (some ((),(0,()))))))))))))
def Zi6(N:Nat)(o1:Int×Int×Int×Int):Option (Unit×(Int×Unit)):=
    (bif o1.1==8 then
 (some ((),(1,())))
 else
 (bif o1.1==9 then
 (some ((),((-1:Int),())))
 else
 (some ((),(0,())))))
def Zb0{R:Type}(N:Nat)(t3:List (Int×Int×Int×Int))(K0:Option R)(K1:Int→Int→Bool→Option R):Nat→Int→Int→Option R
  |0,_,_=>none
  |n+1,n2,t5=>
    (bif decide (t5<(ilen t3))then
 (bif inb t5 (Xa t3)then
 ((Zi6 N (Xd t3 (Xb t5) (0,0,0,0))).bind λo11=>
 (bif decide ((iadd .i64 n2 o11.2.1)<0)then
 K0
 else
 (Zb0 N t3 K0 K1 n (iadd .i64 n2 o11.2.1) (iadd .i64 t5 1))))else none)
 else
 (K1 n2 t5 (decide (t5<(ilen t3)))))
def Zbv(N:Nat)(code1:List (Int×Int×Int×Int)):Option (Unit×(Bool×Unit)):=
    (Zb0 N code1
 (some ((),(false,())))
 (λn12 t13 t14=>
   (some ((),(n12==0,()))))
  N 0 0)
def Zb5{R:Type}(N:Nat)(i3:Int)(t5:List (Int×Int×Int×Int))(K0:Int→Int→Bool→Option R):Nat→Int→Int→Option R
  |0,_,_=>none
  |n+1,n4,t7=>
    (bif decide (t7<(ilen t5))then
 (bif inb t7 (Xa t5)then
 (bif decide (t7<i3)then
 ((Zi6 N (Xd t5 (Xb t7) (0,0,0,0))).bind λo13=>
 (Zb5 N i3 t5 K0 n (iadd .i64 n4 o13.2.1) (iadd .i64 t7 1)))
 else
 (Zb5 N i3 t5 K0 n n4 (iadd .i64 t7 1)))else none)
 else
 (K0 n4 t7 (decide (t7<(ilen t5)))))
def Zev(N:Nat)(code1:List (Int×Int×Int×Int))(i2:Int):Option (Unit×(Int×Unit)):=
    (Zb5 N i2 code1
 (λn14 t15 t16=>
   (some ((),(n14,()))))
  N 0 0)
def Zbw{R:Type}(N:Nat)(code3:List (Int×Int×Int×Int))(K0:Option R)(K1:Int→Int→Bool→Option R):Nat→Int→Int→Option R
  |0,_,_=>none
  |n+1,forks4,t7=>
    (bif decide (t7<(ilen code3))then
 (bif inb t7 (Xa code3)then
 ((Zr N (Xd code3 (Xb t7) (0,0,0,0))).bind λo17=>
 (bif !o17.2.1 then
 K0
 else
 (bif (Xd code3 (Xb t7) (0,0,0,0)).1==7 then
 (bif decide ((iadd .i64 (iadd .i64 t7 1) (Xd code3 (Xb t7) (0,0,0,0)).2.2.1)>(ilen code3))then
 K0
 else
 (bif (((decide ((0:Int)≤(iadd .i64 (iadd .i64 t7 1) (Xd code3 (Xb t7) (0,0,0,0)).2.2.1)))&&(decide ((iadd .i64 (iadd .i64 t7 1) (Xd code3 (Xb t7) (0,0,0,0)).2.2.1)≤((Xa code3):Int))))&&(decide ((0:Int)≤(iadd .i64 t7 1))))&&(decide ((iadd .i64 t7 1)≤(iadd .i64 (iadd .i64 t7 1) (Xd code3 (Xb t7) (0,0,0,0)).2.2.1)))then
 ((Zbv N (Xcx (Xb (iadd .i64 t7 1)) (Xar (Xb (iadd .i64 (iadd .i64 t7 1) (Xd code3 (Xb t7) (0,0,0,0)).2.2.1)) code3))).bind λo18=>
 (bif !o18.2.1 then
 K0
 else
 (Zbw N code3 K0 K1 n forks4 (iadd .i64 t7 1))))else none))
 else
 (bif (Xd code3 (Xb t7) (0,0,0,0)).1==11 then
 (bif decide ((iadd .i64 forks4 1)>1)then
 K0
 else
 ((Zev N code3 t7).bind λo19=>
 (bif o19.2.1 !=0 then
 K0
 else
 (Zbw N code3 K0 K1 n (iadd .i64 forks4 1) (iadd .i64 t7 1)))))
 else
 (Zbw N code3 K0 K1 n forks4 (iadd .i64 t7 1))))))else none)
 else
 (K1 forks4 t7 (decide (t7<(ilen code3)))))
def Zby(N:Nat)(code1:List (Int×Int×Int×Int)):Option (Unit×(Bool×Unit)):=
    (bif decide ((ilen code1)>24)then
 (some ((),(false,())))
 else
 ((Zbv N code1).bind λo2=>
 (bif !o2.2.1 then
 (some ((),(false,())))
 else
 (Zbw N code1
 (some ((),(false,())))
 (λforks20 t21 t22=>
   (some ((),(true,()))))
  N 0 0))))
def Zei{R:Type}(N:Nat)(code2:List (Int×Int×Int×Int))(K0:Option R)(K1:Int→Bool→Option R):Nat→Int→Option R
  |0,_=>none
  |n+1,t5=>
    (bif decide (t5<(ilen code2))then
 (bif inb t5 (Xa code2)then
 (bif (Xd code2 (Xb t5) (0,0,0,0)).1==11 then
 K0
 else
 ((Zhj N (Xd code2 (Xb t5) (0,0,0,0))).bind λo10=>
 (bif o10.2.1==2 then
 K0
 else
 (Zei N code2 K0 K1 n (iadd .i64 t5 1)))))else none)
 else
 (K1 t5 (decide (t5<(ilen code2)))))
def Zfo(N:Nat)(code1:List (Int×Int×Int×Int)):Option (Unit×(Bool×Unit)):=
    (Zei N code1
 (some ((),(false,())))
 (λt11 t12=>
   ((Zby N code1).bind λo13=>
 (some ((),(o13.2.1,())))))
  N 0)
def Za0{R:Type}(N:Nat)(l3:List Int)(n4:Int)(K0:Option R)(K1:Int→Bool→Option R):Nat→Int→Option R
  |0,_=>none
  |n+1,t7=>
    (bif decide (t7<(ilen l3))then
 (bif inb t7 (Xa l3)then
 ((Zax N (Xd l3 (Xb t7) 0)).bind λo12=>
 (bif !o12.2.1 then
 K0
 else
 (Za0 N l3 n4 K0 K1 n (iadd .i64 t7 1))))else none)
 else
 (K1 t7 (decide (t7<(ilen l3)))))
def Z9(N:Nat)(l1:List Int)(n2:Int):Option (Unit×(Bool×Unit)):=
    (Za0 N l1 n2
 (some ((),(false,())))
 (λt13 t14=>
   (some ((),((ilen l1)==n2,()))))
  N 0)
def Zdd{R:Type}(N:Nat)(l2:List (Int×Int))(K0:Option R)(K1:Int→Bool→Option R):Nat→Int→Option R
  |0,_=>none
  |n+1,t5=>
    (bif decide (t5<(ilen l2))then
 (bif inb t5 (Xa l2)then
 ((Za8 N (Xd l2 (Xb t5) (0,0)).1).bind λo12=>
 (bif !o12.2.1 then
 K0
 else
 ((Zax N (Xd l2 (Xb t5) (0,0)).2).bind λo13=>
 (bif !o13.2.1 then
 K0
 else
 (Zdd N l2 K0 K1 n (iadd .i64 t5 1))))))else none)
 else
 (K1 t5 (decide (t5<(ilen l2)))))
def Zbz(N:Nat)(l1:List (Int×Int)):Option (Unit×(Bool×Unit)):=
    (Zdd N l1
 (some ((),(false,())))
 (λt14 t15=>
   (some ((),(decide ((ilen l1)≤300),()))))
  N 0)
def Zde{R:Type}(N:Nat)(t3:List Int)(K0:Int→Bool→(List (Int×Int×Int))→Option R):Nat→Int→(List (Int×Int×Int))→Option R
  |0,_,_=>none
  |n+1,t5,l8=>
    (bif decide (t5<(ilen t3))then
 (bif inb t5 (Xa t3)then
 (bif room ((Xa l8)+(Xa ([(Xd t3 (Xb t5) (0:Int),((0:Int),(0:Int)))])))then
 (Zde N t3 K0 n (iadd .i64 t5 1) (Xe l8 ([(Xd t3 (Xb t5) 0,(0,0))])))else none)else none)
 else
 (K0 t5 (decide (t5<(ilen t3))) l8))
def Zbg(N:Nat)(l1:List Int):Option (Unit×((Int×List (Int×Int×Int))×(Bool×Unit))):=
    ((Z9 N l1 8).bind λo2=>
 (bif !o2.2.1 then
 (some ((),((0,([]:List (Int×Int×Int))),(false,()))))
 else
 (Zde N l1
 (λt12 t13 l14=>
   (some ((),((0,l14),(true,())))))
  N 0 ([]:List (Int×Int×Int)))))
def Zx(N:Nat)(l1:List Int):Option (Unit×((List Int)×Unit)):=
    (bif room (Xa l1)then
 (some ((),(l1,())))else none)
def Zg7{R:Type}(N:Nat)(l4:List (Int×Int))(cell5:Int)(K0:Int→Option R)(K1:Int→Bool→Option R):Nat→Int→Option R
  |0,_=>none
  |n+1,i6=>
    (bif decide (i6≥0)then
 (bif inb i6 (Xa l4)then
 (bif (Xd l4 (Xb i6) (0,0)).1==cell5 then
 (bif inb i6 (Xa l4)then
 (K0 (Xd l4 (Xb i6) (0,0)).2)else none)
 else
 (Zg7 N l4 cell5 K0 K1 n (isub .i64 i6 1)))else none)
 else
 (K1 i6 (decide (i6≥0))))
def Zfk(N:Nat)(l1:List (Int×Int))(cell2:Int):Option (Unit×(Int×(Bool×Unit))):=
    ((Zbz N l1).bind λo3=>
 (bif !o3.2.1 then
 (some ((),(0,(false,()))))
 else
 (Zg7 N l1 cell2
 (λt10=>
   (some ((),(t10,(true,())))))
 (λi11 t12=>
   (some ((),(0,(false,())))))
  N (isub .i64 (ilen l1) 1))))
def Zgo{R:Type}(N:Nat)(l3:List (Int×Int))(K0:Int→Bool→(List (Int×Int))→Option R):Nat→Int→(List (Int×Int))→Option R
  |0,_,_=>none
  |n+1,t4,l5=>
    (bif decide (t4<8)then
 ((Zfk N l3 t4).bind λo10=>
 (bif o10.2.2.1 then
 (bif room ((Xa l5)+(Xa ([(t4,o10.2.1)])))then
 (Zgo N l3 K0 n (iadd .i64 t4 1) (Xe l5 ([(t4,o10.2.1)])))else none)
 else
 (Zgo N l3 K0 n (iadd .i64 t4 1) l5)))
 else
 (K0 t4 (decide (t4<8)) l5))
def Zd3(N:Nat)(l1:List (Int×Int)):Option (Unit×((List (Int×Int))×Unit)):=
    ((Zbz N l1).bind λo2=>
 (bif !o2.2.1 then
 (some ((),(([]:List (Int×Int)),())))
 else
 (Zgo N l1
 (λt11 t12 l13=>
   (some ((),(l13,()))))
  N 0 ([]:List (Int×Int)))))
def Zcl{R:Type}(N:Nat)(regs7:List Int)(kids8:Int)(t9:Int)(b15:Int)(l19:List (Int×Int))(l20:List Int)(K0:Int→Bool→(List (Int×Int×Int))→Option R):Nat→Int→(List (Int×Int×Int))→Option R
  |0,_,_=>none
  |n+1,t10,l21=>
    (bif decide (t10<t9)then
 (bif inb t10 (Xa l19)then
 (bif room ((Xa l21)+(Xa ([((Xd l19 (Xb t10) ((0:Int),(0:Int))).1,((Xd l19 (Xb t10) ((0:Int),(0:Int))).2,(0:Int)))])))then
 (Zcl N regs7 kids8 t9 b15 l19 l20 K0 n (iadd .i64 t10 1) (Xe l21 ([((Xd l19 (Xb t10) (0,0)).1,((Xd l19 (Xb t10) (0,0)).2,0))])))else none)else none)
 else
 (K0 t10 (decide (t10<t9)) l21))
def Zbb{R:Type}(N:Nat)(regs28:List Int)(t29:Int)(b35:Int)(l39:List Int)(l40:List (Int×Int))(l41:List (Int×Int×Int))(K0:Int→Bool→(List Y_KidRun)→Option R):Nat→Int→(List Y_KidRun)→Option R
  |0,_,_=>none
  |n+1,t30,l42=>
    (bif decide (t30<t29)then
 ((Zx N regs28).bind λbq1=>
 (bif room ((Xa l42)+(Xa ([((0:Int),((0:Int),((0:Int),((0:Int),((0:Int),((0:Int),(bq1.2.1,(([]:List (Int×Int×Int)),(([]:List (Int×Int)),(([]:List (Int×Int×List Int)),(false,((0:Int),((0:Int),((0:Int),(0:Int)))))))))))))))])))then
 (Zbb N regs28 t29 b35 l39 l40 l41 K0 n (iadd .i64 t30 1) (Xe l42 ([(0,(0,(0,(0,(0,(0,(bq1.2.1,(([]:List (Int×Int×Int)),(([]:List (Int×Int)),(([]:List (Int×Int×List Int)),(false,(0,0,0,0))))))))))))])))else none))
 else
 (K0 t30 (decide (t30<t29)) l42))
def Zdj(N:Nat)(rv1:Int)(regs2:List Int)(writes3:List (Int×Int))(kids4:Int):Option (Unit×(Y_Family×Unit)):=
    ((Zx N regs2).bind λo5=>
 ((Zd3 N writes3).bind λo6=>
 (Zcl N regs2 kids4 (ilen o6.2.1) rv1 o6.2.1 o5.2.1
 (λt25 t26 l27=>
   (Zbb N regs2 kids4 rv1 o5.2.1 o6.2.1 l27
 (λt49 t50 l51=>
   (some ((),((rv1,(0,(0,(false,(o5.2.1,(o6.2.1,(l27,(([]:List Int),(([]:List (Int×Int)),l51))))))))),()))))
  N 0 ([]:List Y_KidRun)))
  N 0 ([]:List (Int×Int×Int)))))
def Zi7(N:Nat)(e1:Int×Int×Int)(a2:Int):Option ((Int×Unit)×(Bool×Unit)):=
    (some ((a2,()),(e1.1==a2,())))
def Zg{R:Type}(N:Nat)(s3:List (Int×Int×Int))(K0:Int→Int→Option R)(K1:Int→Bool→Int→Option R):Nat→Int→Int→Option R
  |0,_,_=>none
  |n+1,t5,b6=>
    (bif decide (t5<(ilen s3))then
 (bif inb t5 (Xa s3)then
 ((Zi7 N (Xd s3 (Xb t5) (0,0,0)) b6).bind λo14=>
 (bif o14.2.1 then
 (K0 t5 o14.1.1)
 else
 (Zg N s3 K0 K1 n (iadd .i64 t5 1) o14.1.1)))else none)
 else
 (K1 t5 (decide (t5<(ilen s3))) b6))
def Ze(N:Nat)(s1:List (Int×Int×Int))(cap2:Int):Option ((Int×Unit)×(Int×Unit)):=
    (Zg N s1
 (λt15 b16=>
   (some ((b16,()),(t15,()))))
 (λt17 t18 b19=>
   (some ((b19,()),((-1:Int),()))))
  N 0 cap2)
def Zcm(N:Nat)(f1:Y_Family)(cell2:Int):Option (Unit×(Int×Unit)):=
    ((Ze N f1.2.2.2.2.2.2.1 cell2).bind λo3=>
 (some ((),(o3.2.1,()))))
def Zbe(N:Nat)(f1:Y_Family)(k2:Int):Option ((Y_Family×Unit)×Unit):=
    (bif inb k2 (Xa (Q9 f1))then
 ((Zx N (P4 f1)).bind λbq1=>
 (bif inb k2 (Xa (Q9 f1))then
 (some (((U9 (Xl (Q9 f1) (Xb k2) (0,(0,(f1.2.1,(iadd .i64 (Xd (Q9 f1) (Xb k2) d_KidRun).2.2.2.1 1,(0,(0,(bq1.2.1,(([]:List (Int×Int×Int)),(([]:List (Int×Int)),(([]:List (Int×Int×List Int)),(false,(0,0,0,0))))))))))))) f1),()),()))else none))else none)
def Zfp(N:Nat)(cell1:Int):Option (Unit×((Int×Int×Int×Int)×(Bool×Unit))):=
    ((Za8 N cell1).bind λo2=>
 (bif !o2.2.1 then
 (some ((),((0,0,0,0),(false,()))))
 else
 (some ((),((cell1,(0,0,0)),(true,()))))))
def Zej{R:Type}(N:Nat)(t2:List (Int×Int×Int))(b5:Int×List (Int×Int×Int))(K0:Option R)(K1:Int→Bool→Option R):Nat→Int→Option R
  |0,_=>none
  |n+1,t4=>
    (bif decide (t4<(ilen b5.2))then
 (bif inb t4 (Xa t2)then
 ((Zax N (Xd t2 (Xb t4) (0,0,0)).1).bind λo14=>
 (bif !o14.2.1 then
 K0
 else
 ((Zq N (Xd t2 (Xb t4) (0,0,0)).2.1 0 b5.1).bind λo15=>
 (bif !o15.2.1 then
 K0
 else
 ((Zq N (Xd t2 (Xb t4) (0,0,0)).2.2 0 99).bind λo16=>
 (bif !o16.2.1 then
 K0
 else
 (Zej N t2 b5 K0 K1 n (iadd .i64 t4 1))))))))else none)
 else
 (K1 t4 (decide (t4<(ilen b5.2)))))
def Zb1(N:Nat)(m1:Int×List (Int×Int×Int)):Option (Unit×(Bool×Unit)):=
    (Zej N m1.2 m1
 (some ((),(false,())))
 (λt17 t18=>
   (bif (ilen m1.2)==8 then
 ((Zq N m1.1 0 1000000).bind λo19=>
 (some ((),(o19.2.1,()))))
 else
 (some ((),(false,())))))
  N 0)
def Zl0(N:Nat)(p1:Int×Int×Int×Int):Option (Unit×(Bool×Unit)):=
    ((Za8 N p1.1).bind λo2=>
 (bif o2.2.1 then
 ((Zq N p1.2.1 0 4).bind λo3=>
 (bif o3.2.1 then
 ((Zq N p1.2.2.1 0 1000000).bind λo4=>
 (bif o4.2.1 then
 ((Zax N p1.2.2.2).bind λo5=>
 (some ((),(o5.2.1,()))))
 else
 (some ((),(false,())))))
 else
 (some ((),(false,())))))
 else
 (some ((),(false,())))))
def Zek(N:Nat)(m1:Int×List (Int×Int×Int))(rv2:Int)(p3:Int×Int×Int×Int):Option (Unit×((Int×Int×Int×Int)×Unit)):=
    ((Zb1 N m1).bind λo4=>
 (bif !o4.2.1 then
 (some ((),(p3,())))
 else
 ((Zl0 N p3).bind λo5=>
 (bif !o5.2.1 then
 (some ((),(p3,())))
 else
 (bif inb p3.1 (Xa m1.2)then
 (bif p3.2.1==0 then
 (bif (Xd m1.2 (Xb p3.1) (0,0,0)).2.2==0 then
 (bif decide ((Xd m1.2 (Xb p3.1) (0,0,0)).2.1≤rv2)then
 (some ((),((p3.1,(1,((Xd m1.2 (Xb p3.1) (0,0,0)).2.1,p3.2.2.2))),())))
 else
 (some ((),((p3.1,(4,p3.2.2)),()))))
 else
 (some ((),((p3.1,(4,p3.2.2)),()))))
 else
 (bif p3.2.1==1 then
 (some ((),((p3.1,(2,(p3.2.2.1,(Xd m1.2 (Xb p3.1) (0,0,0)).1))),())))
 else
 (bif p3.2.1==2 then
 (bif (Xd m1.2 (Xb p3.1) (0,0,0)).2.2==0 then
 (bif (Xd m1.2 (Xb p3.1) (0,0,0)).2.1==p3.2.2.1 then
 (some ((),((p3.1,(3,p3.2.2)),())))
 else
 (some ((),((p3.1,(4,p3.2.2)),()))))
 else
 (some ((),((p3.1,(4,p3.2.2)),()))))
 else
 (some ((),(p3,()))))))else none)))))
def Zid(N:Nat)(f1:Y_Family)(k2:Int)(o3:Int×Int×Int×Int)(m4:Int×List (Int×Int×Int)):Option ((Y_Family×Unit)×Unit):=
    (bif inb k2 (Xa (Q9 f1))then
 (Wt (Xd (Q9 f1) (Xb k2) d_KidRun) λe9000=>
 ((Zfk N (P8 e9000) o3.2.2.1).bind λbq4=>
 (bif bq4.2.2.1 then
 (bif inb o3.2.1 (Xa (P6 e9000))then
 (some (((U9 (Xl (Q9 f1) (Xb k2) (S6 (Xl (P6 e9000) (Xb o3.2.1) bq4.2.1) (S1 (iadd .i64 e9000.2.1 1) e9000))) f1),()),()))else none)
 else
 ((Zcm N (U9 (Xl (Q9 f1) (Xb k2) e9000) f1) o3.2.2.1).bind λbq3=>
 (bif decide (bq3.2.1≥0)then
 (bif inb bq3.2.1 (Xa (P6 f1))then
 (Wt (Xd (P6 f1) (Xb bq3.2.1) (0,0,0)) λe9001=>
 (bif decide (e9001.2.2>e9000.2.2.1)then
 ((Zbe N (U9 (Xl (Q9 f1) (Xb k2) e9000) f1) k2).bind λbq1=>
 (some ((bq1.1.1,()),())))
 else
 (bif inb o3.2.1 (Xa (P6 e9000))then
 (bif room ((Xa (P7 e9000))+(Xa ([e9001])))then
 (some (((U9 (Xl (Q9 f1) (Xb k2) (S7 (Xe (P7 e9000) ([e9001])) (S6 (Xl (P6 e9000) (Xb o3.2.1) e9001.2.1) (S1 (iadd .i64 e9000.2.1 1) e9000)))) f1),()),()))else none)else none)))else none)
 else
 (bif !(P10 e9000)then
 ((Zfp N o3.2.2.1).bind λbq2=>
 ((Zek N m4 f1.1 bq2.2.1).bind λbq1=>
 (bif bq1.2.1.2.1==4 then
 (some (((U9 (Xl (Q9 f1) (Xb k2) (U11 bq1.2.1 (S10 true e9000))) (S3 true f1)),()),()))
 else
 (bif bq1.2.1.2.1==3 then
 (bif inb o3.2.1 (Xa (P6 e9000))then
 (bif room ((Xa (P7 e9000))+(Xa ([(o3.2.2.1,(bq1.2.1.2.2.2,(-1:Int)))])))then
 (some (((U9 (Xl (Q9 f1) (Xb k2) (U14 0 (S13 0 (S12 0 (S11 0 (S10 false (S7 (Xe (P7 e9000) ([(o3.2.2.1,(bq1.2.1.2.2.2,(-1:Int)))])) (S6 (Xl (P6 e9000) (Xb o3.2.1) bq1.2.1.2.2.2) (S1 (iadd .i64 e9000.2.1 1) e9000))))))))) f1),()),()))else none)else none)
 else
 (some (((U9 (Xl (Q9 f1) (Xb k2) (U11 bq1.2.1 (S10 true e9000))) f1),()),()))))))
 else
 ((Zek N m4 f1.1 (Q11 e9000)).bind λbq1=>
 (bif bq1.2.1.2.1==4 then
 (some (((U9 (Xl (Q9 f1) (Xb k2) (U11 bq1.2.1 e9000)) (S3 true f1)),()),()))
 else
 (bif bq1.2.1.2.1==3 then
 (bif inb o3.2.1 (Xa (P6 e9000))then
 (bif room ((Xa (P7 e9000))+(Xa ([(o3.2.2.1,(bq1.2.1.2.2.2,(-1:Int)))])))then
 (some (((U9 (Xl (Q9 f1) (Xb k2) (U14 0 (S13 0 (S12 0 (S11 0 (S10 false (S7 (Xe (P7 e9000) ([(o3.2.2.1,(bq1.2.1.2.2.2,(-1:Int)))])) (S6 (Xl (P6 e9000) (Xb o3.2.1) bq1.2.1.2.2.2) (S1 (iadd .i64 e9000.2.1 1) e9000))))))))) f1),()),()))else none)else none)
 else
 (some (((U9 (Xl (Q9 f1) (Xb k2) (U11 bq1.2.1 e9000)) f1),()),())))))))))))else none)
def Zbh(N:Nat)(l1:List (Int×Int)):Option (Unit×((List (Int×Int))×Unit)):=
    (bif room (Xa l1)then
 (some ((),(l1,())))else none)
def Zel{R:Type}(N:Nat)(code4:List (Int×Int×Int×Int))(K0:Int→Option R)(K1:Int→Int→Bool→Option R):Nat→Int→Int→Option R
  |0,_,_=>none
  |n+1,n5,k6=>
    (bif decide (k6<(ilen code4))then
 (bif inb k6 (Xa code4)then
 ((Zi6 N (Xd code4 (Xb k6) (0,0,0,0))).bind λo12=>
 (bif (iadd .i64 n5 o12.2.1)==0 then
 (K0 k6)
 else
 (Zel N code4 K0 K1 n (iadd .i64 n5 o12.2.1) (iadd .i64 k6 1))))else none)
 else
 (K1 n5 k6 (decide (k6<(ilen code4)))))
def Zfq(N:Nat)(code1:List (Int×Int×Int×Int))(i2:Int):Option (Unit×(Int×Unit)):=
    ((Zq N i2 0 (isub .i64 (ilen code1) 1)).bind λo3=>
 (bif !o3.2.1 then
 (some ((),((-1:Int),())))
 else
 (bif inb i2 (Xa code1)then
 (bif (Xd code1 (Xb i2) (0,0,0,0)).1 !=8 then
 (some ((),((-1:Int),())))
 else
 (Zel N code1
 (λt13=>
   (some ((),(t13,()))))
 (λn14 k15 t16=>
   (some ((),((-1:Int),()))))
  N 0 i2))else none)))
def Zh1(N:Nat)(x1:Y_KidRun)(code2:List (Int×Int×Int×Int)):Option ((Y_KidRun×Unit)×Unit):=
    (bif (ilen (P9 x1))==0 then
 (some (((S8 ([]:List (Int×Int)) (S5 2 (S0 1 x1))),()),()))
 else
 (Wt (isub .i64 (ilen (P9 x1)) 1) λe9001=>
 (bif inb e9001 (Xa (P9 x1))then
 (bif ((decide ((0:Int)≤e9001))&&(decide (e9001≤((Xa (P9 x1)):Int))))&&(decide (e9001≤((Xb e9001):Int)))then
 (Wt (Xd (P9 x1) (Xb e9001) (0,(0,([]:List Int)))) λe9000=>
 ((Zx N e9000.2.2).bind λbq3=>
 (bif inb e9000.1 (Xa code2)then
 (bif inb (Xd code2 (Xb e9000.1) (0,0,0,0)).2.1 (Xa bq3.2.1)then
 (bif (decide ((0:Int)≤e9000.2.1))&&(decide (e9000.2.1≤((Xa (P8 x1)):Int)))then
 ((Zbh N (Xar (Xb e9000.2.1) (P8 x1))).bind λbq2=>
 ((Zfq N code2 e9000.1).bind λbq1=>
 (some (((S9 (Xar (Xb e9001) (P9 x1)) (S8 bq2.2.1 (S6 (Xl bq3.2.1 (Xb (Xd code2 (Xb e9000.1) (0,0,0,0)).2.1) 0) (S1 (iadd .i64 bq1.2.1 1) x1)))),()),()))))else none)else none)else none)))else none)else none)))
def Zmr(N:Nat)(o1:Int×Int×Int×Int)(regs2:List Int):Option (Unit×((List Int)×(Bool×Unit))):=
    ((Zx N regs2).bind λo3=>
 ((Zr N o1).bind λo4=>
 (bif !o4.2.1 then
 (some ((),(o3.2.1,(false,()))))
 else
 (bif decide (o1.1>4)then
 (some ((),(o3.2.1,(false,()))))
 else
 ((Z9 N regs2 4).bind λo5=>
 (bif !o5.2.1 then
 (some ((),(o3.2.1,(false,()))))
 else
 (bif o1.1==1 then
 (bif inb o1.2.1 (Xa o3.2.1)then
 (some ((),(Xl o3.2.1 (Xb o1.2.1) o1.2.2.1,(true,()))))else none)
 else
 (bif o1.1==2 then
 (bif inb o1.2.2.1 (Xa regs2)then
 (bif inb o1.2.2.2 (Xa regs2)then
 (bif inz 65536 then
 (bif inb o1.2.1 (Xa o3.2.1)then
 (some ((),(Xl o3.2.1 (Xb o1.2.1) (irem (iadd .i64 (Xd regs2 (Xb o1.2.2.1) 0) (Xd regs2 (Xb o1.2.2.2) 0)) 65536),(true,()))))else none)else none)else none)else none)
 else
 (bif o1.1==3 then
 (bif inb o1.2.2.1 (Xa regs2)then
 (bif inb o1.2.2.2 (Xa regs2)then
 (bif inz 65536 then
 (bif inb o1.2.1 (Xa o3.2.1)then
 (some ((),(Xl o3.2.1 (Xb o1.2.1) (irem (iadd .i64 (isub .i64 (Xd regs2 (Xb o1.2.2.1) 0) (Xd regs2 (Xb o1.2.2.2) 0)) 65536) 65536),(true,()))))else none)else none)else none)else none)
 else
 (bif inb o1.2.1 (Xa o3.2.1)then
 (bif inb o1.2.2.1 (Xa regs2)then
 (bif inb o1.2.2.2 (Xa regs2)then
 (bif decide ((Xd regs2 (Xb o1.2.2.1) 0)<(Xd regs2 (Xb o1.2.2.2) 0))then
 (bif inb o1.2.1 (Xa (Xl o3.2.1 (Xb o1.2.1) 0))then
 (Wt (Xl o3.2.1 (Xb o1.2.1) 0) λs6=>
 (some ((),(Xl s6 (Xb o1.2.1) 1,(true,())))))else none)
 else
 (some ((),(Xl o3.2.1 (Xb o1.2.1) 0,(true,())))))else none)else none)else none))))))))))
def Ziu(N:Nat)(f1:Y_Family)(k2:Int)(code3:List (Int×Int×Int×Int))(m4:Int×List (Int×Int×Int)):Option ((Y_Family×Unit)×Unit):=
    (bif inb k2 (Xa (Q9 f1))then
 (Wt (Xd (Q9 f1) (Xb k2) d_KidRun) λe9000=>
 (bif decide (e9000.2.1≥(ilen code3))then
 (some (((U9 (Xl (Q9 f1) (Xb k2) (S5 1 (S0 1 e9000))) f1),()),()))
 else
 (bif inb e9000.2.1 (Xa code3)then
 (Wt (Xd code3 (Xb e9000.2.1) (0,0,0,0)) λe9001=>
 (bif e9001.1==5 then
 ((Zid N (U9 (Xl (Q9 f1) (Xb k2) e9000) f1) k2 e9001 m4).bind λbq1=>
 (some ((bq1.1.1,()),())))
 else
 (bif e9001.1==10 then
 ((Zh1 N e9000 code3).bind λbq1=>
 (some (((U9 (Xl (Q9 f1) (Xb k2) bq1.1.1) f1),()),())))
 else
 (bif e9001.1==6 then
 (bif inb e9001.2.2.1 (Xa (P6 e9000))then
 (bif room ((Xa (P8 e9000))+(Xa ([(e9001.2.1,Xd (P6 e9000) (Xb e9001.2.2.1) (0:Int))])))then
 (some (((U9 (Xl (Q9 f1) (Xb k2) (S8 (Xe (P8 e9000) ([(e9001.2.1,Xd (P6 e9000) (Xb e9001.2.2.1) 0)])) (S1 (iadd .i64 e9000.2.1 1) e9000))) f1),()),()))else none)else none)
 else
 (bif e9001.1==7 then
 (bif inb e9001.2.1 (Xa (P6 e9000))then
 (bif (Xd (P6 e9000) (Xb e9001.2.1) 0)==0 then
 (some (((U9 (Xl (Q9 f1) (Xb k2) (e9000.1,(iadd .i64 (iadd .i64 e9000.2.1 e9001.2.2.1) 1,e9000.2.2))) f1),()),()))
 else
 (some (((U9 (Xl (Q9 f1) (Xb k2) (e9000.1,(iadd .i64 e9000.2.1 1,e9000.2.2))) f1),()),())))else none)
 else
 (bif e9001.1==8 then
 ((Zx N (P6 e9000)).bind λbq1=>
 (bif room ((Xa (P9 e9000))+(Xa ([(e9000.2.1,(ilen (P8 e9000),bq1.2.1))])))then
 (some (((U9 (Xl (Q9 f1) (Xb k2) (S9 (Xe (P9 e9000) ([(e9000.2.1,(ilen (P8 e9000),bq1.2.1))])) (S1 (iadd .i64 e9000.2.1 1) e9000))) f1),()),()))else none))
 else
 (bif e9001.1==9 then
 (Wt (isub .i64 (ilen (P9 e9000)) 1) λe9002=>
 (bif inb e9002 (Xa (P9 e9000))then
 (bif (decide ((0:Int)≤e9002))&&(decide (e9002≤((Xa (P9 e9000)):Int)))then
 (Wt (Xd (P9 e9000) (Xb e9002) (0,(0,([]:List Int)))) λe9003=>
 (bif inb e9003.1 (Xa code3)then
 (bif inb (Xd code3 (Xb e9003.1) (0,0,0,0)).2.1 (Xa (P6 e9000))then
 (some (((U9 (Xl (Q9 f1) (Xb k2) (S9 (Xar (Xb e9002) (P9 e9000)) (S6 (Xl (P6 e9000) (Xb (Xd code3 (Xb e9003.1) (0,0,0,0)).2.1) 1) (S1 (iadd .i64 e9000.2.1 1) e9000)))) f1),()),()))else none)else none))else none)else none))
 else
 ((Zmr N e9001 (P6 e9000)).bind λbq1=>
 (some (((U9 (Xl (Q9 f1) (Xb k2) (S6 bq1.2.1 (S1 (iadd .i64 e9000.2.1 1) e9000))) f1),()),()))))))))))else none)))else none)
def Zal(N:Nat)(x1:List (Int×Int×Int)):Option (((List (Int×Int×Int))×Unit)×Unit):=Zm6 rngE cfE N x1
def Zaw{R:Type}(N:Nat)(k4:Int)(t5:Int)(b7:Int)(b8:Int)(b9:Int)(b10:Bool)(b11:Int)(b12:Int)(b13:Int)(b14:Int)(b15:Int)(b16:Int)(b17:Bool)(b18:Int)(b19:Int)(b20:Int)(b21:Int)(l22:List (Int×Int))(l23:List Int)(l24:List (Int×Int))(l26:List Int)(l27:List (Int×Int))(l28:List Y_KidRun)(i29:Nat)(l30:List Int)(l31:List (Int×Int×Int))(l32:List (Int×Int))(l33:List (Int×Int×List Int))(K0:Int→Bool→(List (Int×Int×Int))→Option R):Nat→Int→(List (Int×Int×Int))→Option R
  |0,_,_=>none
  |n+1,t6,l25=>
    (bif decide (t6<t5)then
 (bif inb t6 (Xa l22)then
 (Wt (Xd l22 (Xb t6) (0,0)) λe9000=>
 ((Zcm N (b7,(b8,(b9,(b10,(l23,(l24,(l25,(l26,(l27,Xl l28 i29 (b11,(b12,(b13,(b14,(b15,(b16,(l30,(l31,(l32,(l33,(b17,(b18,(b19,(b20,b21))))))))))))))))))))))) e9000.1).bind λbq1=>
 (bif decide (bq1.2.1≥0)then
 (bif inb bq1.2.1 (Xa l25)then
 (Zaw N k4 t5 b7 b8 b9 b10 b11 b12 b13 b14 b15 b16 b17 b18 b19 b20 b21 l22 l23 l24 l26 l27 l28 i29 l30 l31 l32 l33 K0 n (iadd .i64 t6 1) (Xl l25 (Xb bq1.2.1) (e9000.1,(e9000.2,b8))))else none)
 else
 (bif room ((Xa l25)+(Xa ([(e9000.1,(e9000.2,b8))])))then
 (Zaw N k4 t5 b7 b8 b9 b10 b11 b12 b13 b14 b15 b16 b17 b18 b19 b20 b21 l22 l23 l24 l26 l27 l28 i29 l30 l31 l32 l33 K0 n (iadd .i64 t6 1) (Xe l25 ([(e9000.1,(e9000.2,b8))])))else none))))else none)
 else
 (K0 t6 (decide (t6<t5)) l25))
def Za4{R:Type}(N:Nat)(k43:Int)(t44:Int)(b46:Int)(b47:Int)(b48:Int)(b49:Bool)(b50:Int)(b51:Int)(b52:Int)(b53:Int)(b54:Int)(b55:Int)(b56:Bool)(b57:Int)(b58:Int)(b59:Int)(b60:Int)(l61:List (Int×Int×Int))(l62:List Int)(l63:List (Int×Int))(l64:List (Int×Int×Int))(l65:List Int)(l67:List Y_KidRun)(i68:Nat)(l69:List Int)(l70:List (Int×Int))(l71:List (Int×Int×List Int))(K0:Int→Bool→(List (Int×Int))→Option R):Nat→Int→(List (Int×Int))→Option R
  |0,_,_=>none
  |n+1,t45,l66=>
    (bif decide (t45<t44)then
 (bif inb t45 (Xa l61)then
 (Wt (Xd l61 (Xb t45) (0,0,0)) λe9000=>
 (bif e9000.2.2==(-1:Int)then
 (bif room ((Xa l66)+(Xa ([(e9000.1,e9000.2.1)])))then
 (Za4 N k43 t44 b46 b47 b48 b49 b50 b51 b52 b53 b54 b55 b56 b57 b58 b59 b60 l61 l62 l63 l64 l65 l67 i68 l69 l70 l71 K0 n (iadd .i64 t45 1) (Xe l66 ([(e9000.1,e9000.2.1)])))else none)
 else
 (Za4 N k43 t44 b46 b47 b48 b49 b50 b51 b52 b53 b54 b55 b56 b57 b58 b59 b60 l61 l62 l63 l64 l65 l67 i68 l69 l70 l71 K0 n (iadd .i64 t45 1) l66)))else none)
 else
 (K0 t45 (decide (t45<t44)) l66))
def Zbq(N:Nat)(f1:Y_Family)(k2:Int):Option ((Y_Family×Unit)×Unit):=
    (bif inb k2 (Xa (Q9 f1))then
 ((Zd3 N (Xd (Q9 f1) (Xb k2) d_KidRun).2.2.2.2.2.2.2.2.1).bind λo3=>
 (Zaw N k2 (ilen o3.2.1) f1.1 (iadd .i64 f1.2.1 1) f1.2.2.1 f1.2.2.2.1 (Xd (Q9 f1) (Xb k2) d_KidRun).1 (Xd (Q9 f1) (Xb k2) d_KidRun).2.1 (Xd (Q9 f1) (Xb k2) d_KidRun).2.2.1 (Xd (Q9 f1) (Xb k2) d_KidRun).2.2.2.1 (Xd (Q9 f1) (Xb k2) d_KidRun).2.2.2.2.1 (Xd (Q9 f1) (Xb k2) d_KidRun).2.2.2.2.2.1 (Xd (Q9 f1) (Xb k2) d_KidRun).2.2.2.2.2.2.2.2.2.2.1 (Xd (Q9 f1) (Xb k2) d_KidRun).2.2.2.2.2.2.2.2.2.2.2.1 (Xd (Q9 f1) (Xb k2) d_KidRun).2.2.2.2.2.2.2.2.2.2.2.2.1 (Xd (Q9 f1) (Xb k2) d_KidRun).2.2.2.2.2.2.2.2.2.2.2.2.2.1 (Xd (Q9 f1) (Xb k2) d_KidRun).2.2.2.2.2.2.2.2.2.2.2.2.2.2 o3.2.1 (P4 f1) (P5 f1) (P7 f1) (P8 f1) (Q9 f1) (Xb k2) (Xd (Q9 f1) (Xb k2) d_KidRun).2.2.2.2.2.2.1 (Xd (Q9 f1) (Xb k2) d_KidRun).2.2.2.2.2.2.2.1 (Xd (Q9 f1) (Xb k2) d_KidRun).2.2.2.2.2.2.2.2.1 (Xd (Q9 f1) (Xb k2) d_KidRun).2.2.2.2.2.2.2.2.2.1
 (λt39 t40 l41=>
   ((Zal N l41).bind λo42=>
 (Za4 N k2 (ilen (Xd (Q9 f1) (Xb k2) d_KidRun).2.2.2.2.2.2.2.1) f1.1 (iadd .i64 f1.2.1 1) f1.2.2.1 f1.2.2.2.1 (Xd (Q9 f1) (Xb k2) d_KidRun).1 (Xd (Q9 f1) (Xb k2) d_KidRun).2.1 (Xd (Q9 f1) (Xb k2) d_KidRun).2.2.1 (Xd (Q9 f1) (Xb k2) d_KidRun).2.2.2.1 (Xd (Q9 f1) (Xb k2) d_KidRun).2.2.2.2.1 (Xd (Q9 f1) (Xb k2) d_KidRun).2.2.2.2.2.1 (Xd (Q9 f1) (Xb k2) d_KidRun).2.2.2.2.2.2.2.2.2.2.1 (Xd (Q9 f1) (Xb k2) d_KidRun).2.2.2.2.2.2.2.2.2.2.2.1 (Xd (Q9 f1) (Xb k2) d_KidRun).2.2.2.2.2.2.2.2.2.2.2.2.1 (Xd (Q9 f1) (Xb k2) d_KidRun).2.2.2.2.2.2.2.2.2.2.2.2.2.1 (Xd (Q9 f1) (Xb k2) d_KidRun).2.2.2.2.2.2.2.2.2.2.2.2.2.2 (Xd (Q9 f1) (Xb k2) d_KidRun).2.2.2.2.2.2.2.1 (P4 f1) (P5 f1) o42.1.1 (P7 f1) (Q9 f1) (Xb k2) (Xd (Q9 f1) (Xb k2) d_KidRun).2.2.2.2.2.2.1 (Xd (Q9 f1) (Xb k2) d_KidRun).2.2.2.2.2.2.2.2.1 (Xd (Q9 f1) (Xb k2) d_KidRun).2.2.2.2.2.2.2.2.2.1
 (λt75 t76 l77=>
   (bif room ((Xa (P7 f1))+(Xa ([k2])))then
 (some (((f1.1,(iadd .i64 f1.2.1 1,(0,(U6 (Xl (Q9 f1) (Xb k2) (S9 ([]:List (Int×Int×List Int)) (S4 0 (S0 3 (Xd (Q9 f1) (Xb k2) d_KidRun))))) (S5 l77 (S4 (Xe (P7 f1) ([k2])) (S3 o42.1.1 f1.2.2.2))))))),()),()))else none))
  N 0 (P8 f1))))
  N 0 (P6 f1)))else none)
def Zie(N:Nat)(f1:Y_Family)(k2:Int)(code3:List (Int×Int×Int×Int))(m4:Int×List (Int×Int×Int)):Option ((Y_Family×Unit)×Unit):=
    (bif f1.2.2.2.1 then
 (some ((f1,()),()))
 else
 (bif inb k2 (Xa (Q9 f1))then
 (Wt (Xd (Q9 f1) (Xb k2) d_KidRun) λe9000=>
 (Wt (Xl (Q9 f1) (Xb k2) e9000) λe9001=>
 (bif e9000.1==0 then
 ((Ziu N (U9 e9001 f1) k2 code3 m4).bind λbq1=>
 (some ((bq1.1.1,()),())))
 else
 (bif e9000.1==1 then
 (bif f1.2.2.1==0 then
 (some (((U9 (Xl (Q9 f1) (Xb k2) (2,e9000.2)) (S2 (iadd .i64 k2 1) f1)),()),()))
 else
 (some (((U9 e9001 f1),()),())))
 else
 (bif e9000.1==2 then
 (bif (P4 e9000)==(ilen (P7 e9000))then
 ((Zbq N (U9 e9001 f1) k2).bind λbq1=>
 (some ((bq1.1.1,()),())))
 else
 (bif inb (P4 e9000) (Xa (P7 e9000))then
 (Wt (Xd (P7 e9000) (Xb (P4 e9000)) (0,0,0)) λe9002=>
 ((Zcm N (U9 e9001 f1) e9002.1).bind λbq2=>
 (Wt (Xl (Q9 f1) (Xb k2) (S4 (iadd .i64 (P4 e9000) 1) e9000)) λe9003=>
 (bif decide (bq2.2.1≥0)then
 (bif inb bq2.2.1 (Xa (P6 f1))then
 (bif inb (P4 e9000) (Xa (P7 e9000))then
 (bif (Xd (P6 f1) (Xb bq2.2.1) (0,0,0)).2.2==e9002.2.2 then
 (some (((U9 e9003 f1),()),()))
 else
 ((Zbe N (U9 e9001 (S2 0 f1)) k2).bind λbq1=>
 (some ((bq1.1.1,()),()))))else none)else none)
 else
 (bif inb (P4 e9000) (Xa (P7 e9000))then
 (bif (-1:Int)==e9002.2.2 then
 (some (((U9 e9003 f1),()),()))
 else
 ((Zbe N (U9 e9001 (S2 0 f1)) k2).bind λbq1=>
 (some ((bq1.1.1,()),()))))else none)))))else none))
 else
 (some (((U9 e9001 f1),()),())))))))else none))
def Zcd(N:Nat)(m1:Int×List (Int×Int×Int)):Option (Unit×((Int×List (Int×Int×Int))×Unit)):=
    (bif room (Xa m1.2)then
 (some ((),(m1,())))else none)
def Zo4(N:Nat)(m1:Int×List (Int×Int×Int)):Option (Unit×((Int×List (Int×Int×Int))×(Int×Unit))):=
    ((Zcd N m1).bind λo2=>
 ((Zb1 N m1).bind λo3=>
 (bif !o3.2.1 then
 (some ((),(o2.2.1,(0,()))))
 else
 (bif m1.1==1000000 then
 (some ((),(o2.2.1,(0,()))))
 else
 (some ((),((iadd .i64 o2.2.1.1 1,o2.2.1.2),(iadd .i64 o2.2.1.1 1,()))))))))
def Zto(N:Nat)(code1:List Int):Option (Unit×(Bool×Unit)):=
    (some ((),(decide ((ilen code1)>1048576),())))
def Zcw{R:Type}(N:Nat)(code2:List Int)(K0:Int→Int→Bool→Option R):Nat→Int→Int→Option R
  |0,_,_=>none
  |n+1,h3,i4=>
    (bif decide (i4<(ilen code2))then
 (bif decide (i4<4000)then
 (bif inb i4 (Xa code2)then
 (Zcw N code2 K0 n (iand .i64 (iadd .i64 (iadd .i64 (imul .i64 h3 131) (IntKind.wrap .i64 (Xd code2 (Xb i4) 0))) 7) 1073741823) (iadd .i64 i4 1))else none)
 else
 (K0 h3 i4 (decide (i4<4000))))
 else
 (K0 h3 i4 false))
def Zgz(N:Nat)(code1:List Int):Option (Unit×((List Int×Int×Int)×Unit)):=
    (Zcw N code1
 (λh8 i9 t10=>
   (some ((),((code1,(0,h8)),()))))
  N (iadd .i64 10101 (ilen code1)) 0)
def Zmx(N:Nat)(code1:List Int)(most2:Int):Option (Unit×(Int×Unit)):=
    (bif inz 20 then
 (bif decide ((iadd .i64 2 (iquo .i64 (ilen code1) 20))>most2)then
 (some ((),(most2,())))
 else
 (some ((),(iadd .i64 2 (iquo .i64 (ilen code1) 20),()))))else none)
def Zgd(N:Nat)(c1:List Int×Int×Int):Option (((List Int×Int×Int)×Unit)×(Int×Unit)):=
    (bif inn 33 then
 (bif inn 45 then
 (bif decide (c1.2.1<(ilen c1.1))then
 (bif inb c1.2.1 (Xa c1.1)then
 (some (((c1.1,(iadd .i64 c1.2.1 1,iadd .i64 (imul .i64 c1.2.2 6364136223846793005) 1442695040888963407)),()),(iand .i64 (iadd .i64 (iand .i64 (ixor .i64 (ishr .i64 (iadd .i64 (imul .i64 c1.2.2 6364136223846793005) 1442695040888963407) 33) (ishr .i64 (iadd .i64 (imul .i64 c1.2.2 6364136223846793005) 1442695040888963407) 45)) 255) (IntKind.wrap .i64 (Xd c1.1 (Xb c1.2.1) 0))) 255,())))else none)
 else
 (some (((c1.1,(c1.2.1,iadd .i64 (imul .i64 c1.2.2 6364136223846793005) 1442695040888963407)),()),(iand .i64 (ixor .i64 (ishr .i64 (iadd .i64 (imul .i64 c1.2.2 6364136223846793005) 1442695040888963407) 33) (ishr .i64 (iadd .i64 (imul .i64 c1.2.2 6364136223846793005) 1442695040888963407) 45)) 255,()))))else none)else none)
def Zb(N:Nat)(c1:List Int×Int×Int)(n2:Int):Option (((List Int×Int×Int)×Unit)×(Int×Unit)):=
    (bif decide (n2≤0)then
 (some ((c1,()),(0,())))
 else
 (bif decide (n2≤256)then
 ((Zgd N c1).bind λo3=>
 (bif inz n2 then
 (some ((o3.1.1,()),(irem o3.2.1 n2,())))else none))
 else
 ((Zgd N c1).bind λo4=>
 ((Zgd N o4.1.1).bind λo5=>
 ((Zgd N o5.1.1).bind λo6=>
 ((Zgd N o6.1.1).bind λo7=>
 (bif inz n2 then
 (some ((o7.1.1,()),(irem (iadd .i64 (iadd .i64 (iadd .i64 (imul .i64 o4.2.1 16777216) (imul .i64 o5.2.1 65536)) (imul .i64 o6.2.1 256)) o7.2.1) n2,())))else none)))))))
def Zw(N:Nat)(c1:List Int×Int×Int)(n2:Int):Option (((List Int×Int×Int)×Unit)×(Bool×Unit)):=
    ((Zb N c1 n2).bind λo3=>
 (some ((o3.1.1,()),(o3.2.1==0,()))))
def Zbn(N:Nat)(c1:List Int×Int×Int)(list2:List Int):Option (((List Int×Int×Int)×Unit)×(Int×Unit)):=
    ((Zb N c1 (ilen list2)).bind λo3=>
 (bif inb o3.2.1 (Xa list2)then
 (some ((o3.1.1,()),(Xd list2 (Xb o3.2.1) 0,())))else none))
def Zhc(N:Nat)(c1:List Int×Int×Int):Option (((List Int×Int×Int)×Unit)×(Int×Unit)):=
    ((Zw N c1 6).bind λo2=>
 (bif o2.2.1 then
 ((Zbn N o2.1.1 ([0,65535,65534,256])).bind λo3=>
 (some ((o3.1.1,()),(o3.2.1,()))))
 else
 ((Zb N o2.1.1 9).bind λo4=>
 (some ((o4.1.1,()),(o4.2.1,()))))))
def Zcs{R:Type}(N:Nat)(K0:Int→Bool→(List Int×Int×Int)→(List Int)→Option R):Nat→Int→(List Int×Int×Int)→(List Int)→Option R
  |0,_,_,_=>none
  |n+1,i2,b3,l4=>
    (bif decide (i2<8)then
 ((Zhc N b3).bind λo10=>
 (bif room ((Xa l4)+(Xa ([o10.2.1])))then
 (Zcs N K0 n (iadd .i64 i2 1) o10.1.1 (Xe l4 ([o10.2.1])))else none))
 else
 (K0 i2 (decide (i2<8)) b3 l4))
def Zch(N:Nat)(c1:List Int×Int×Int):Option (((List Int×Int×Int)×Unit)×((List Int)×Unit)):=
    (Zcs N
 (λi11 t12 b13 l14=>
   (some ((b13,()),(l14,()))))
  N 0 c1 ([]:List Int))
def Zcn{R:Type}(N:Nat)(b7:Int)(l8:List Int)(K0:Int→Bool→(List Int×Int×Int)→(List Int)→Option R):Nat→Int→(List Int×Int×Int)→(List Int)→Option R
  |0,_,_,_=>none
  |n+1,i4,b5,l9=>
    (bif decide (i4<8)then
 ((Zw N b5 2).bind λo18=>
 (bif o18.2.1 then
 ((Zhc N o18.1.1).bind λo19=>
 (bif room ((Xa l9)+(Xa ([(iadd .i64 (1:Int) o19.2.1)])))then
 (Zcn N b7 l8 K0 n (iadd .i64 i4 1) o19.1.1 (Xe l9 ([(iadd .i64 1 o19.2.1)])))else none))
 else
 (bif room ((Xa l9)+(Xa ([(0:Int)])))then
 (Zcn N b7 l8 K0 n (iadd .i64 i4 1) o18.1.1 (Xe l9 ([0])))else none)))
 else
 (K0 i4 (decide (i4<8)) b5 l9))
def Zco(N:Nat)(c1:List Int×Int×Int):Option (((List Int×Int×Int)×Unit)×((List Int×List Int×Int)×Unit)):=
    ((Zch N c1).bind λo2=>
 ((Zhc N o2.1.1).bind λo3=>
 (Zcn N o3.2.1 o2.2.1
 (λi20 t21 b22 l23=>
   (some ((b22,()),((o2.2.1,(l23,o3.2.1)),()))))
  N 0 o3.1.1 ([]:List Int))))
def Za(N:Nat)(c1:List Int×Int×Int):Option (((List Int×Int×Int)×Unit)×(Int×Unit)):=
    ((Zb N c1 4).bind λo2=>
 (some ((o2.1.1,()),(o2.2.1,()))))
def Zbx(N:Nat)(c1:List Int×Int×Int):Option (((List Int×Int×Int)×Unit)×(Int×Unit)):=
    ((Zw N c1 8).bind λo2=>
 (bif o2.2.1 then
 ((Zb N o2.1.1 8).bind λo3=>
 (some ((o3.1.1,()),(o3.2.1,()))))
 else
 ((Zb N o2.1.1 3).bind λo4=>
 (some ((o4.1.1,()),(o4.2.1,()))))))
def Zk(N:Nat)(c1:List Int×Int×Int):Option (((List Int×Int×Int)×Unit)×(Int×Unit)):=
    ((Zw N c1 4).bind λo2=>
 (bif o2.2.1 then
 ((Zb N o2.1.1 8).bind λo3=>
 (some ((o3.1.1,()),(o3.2.1,()))))
 else
 ((Zbn N o2.1.1 ([0,4,1])).bind λo4=>
 (some ((o4.1.1,()),(o4.2.1,()))))))
def Zj(N:Nat)(c1:List Int×Int×Int)(kind2:Int):Option (((List Int×Int×Int)×Unit)×((Int×Int×Int×Int)×Unit)):=
    (bif kind2==1 then
 ((Za N c1).bind λo3=>
 ((Zhc N o3.1.1).bind λo4=>
 (some ((o4.1.1,()),((kind2,(o3.2.1,(o4.2.1,0))),())))))
 else
 (bif kind2==2 then
 (bif kind2==2 then
 ((Za N c1).bind λo5=>
 ((Za N o5.1.1).bind λo6=>
 ((Za N o6.1.1).bind λo7=>
 (some ((o7.1.1,()),((kind2,(o5.2.1,(o6.2.1,o7.2.1))),()))))))
 else
 (bif kind2==5 then
 ((Za N c1).bind λo8=>
 ((Zbx N o8.1.1).bind λo9=>
 (some ((o9.1.1,()),((kind2,(o8.2.1,(o9.2.1,0))),())))))
 else
 (bif kind2==6 then
 ((Zbx N c1).bind λo10=>
 ((Za N o10.1.1).bind λo11=>
 (some ((o11.1.1,()),((kind2,(o10.2.1,(o11.2.1,0))),())))))
 else
 (bif kind2==7 then
 ((Za N c1).bind λo12=>
 ((Zb N o12.1.1 3).bind λo13=>
 (some ((o13.1.1,()),((kind2,(o12.2.1,(iadd .i64 1 o13.2.1,0))),())))))
 else
 (bif kind2==8 then
 (bif kind2==8 then
 ((Za N c1).bind λo14=>
 (some ((o14.1.1,()),((kind2,(o14.2.1,(0,0))),()))))
 else
 (bif kind2==12 then
 ((Zk N c1).bind λo15=>
 ((Za N o15.1.1).bind λo16=>
 ((Za N o16.1.1).bind λo17=>
 (some ((o17.1.1,()),((kind2,(o15.2.1,(o16.2.1,o17.2.1))),()))))))
 else
 (bif kind2==13 then
 ((Za N c1).bind λo18=>
 ((Zk N o18.1.1).bind λo19=>
 (some ((o19.1.1,()),((kind2,(o18.2.1,(o19.2.1,0))),())))))
 else
 (bif kind2==14 then
 ((Zk N c1).bind λo20=>
 ((Za N o20.1.1).bind λo21=>
 (some ((o21.1.1,()),((kind2,(o20.2.1,(o21.2.1,0))),())))))
 else
 (some ((c1,()),((kind2,(0,0,0)),())))))))
 else
 (bif kind2==15 then
 (bif kind2==15 then
 ((Za N c1).bind λo22=>
 (some ((o22.1.1,()),((kind2,(o22.2.1,(0,0))),()))))
 else
 (bif kind2==12 then
 ((Zk N c1).bind λo23=>
 ((Za N o23.1.1).bind λo24=>
 ((Za N o24.1.1).bind λo25=>
 (some ((o25.1.1,()),((kind2,(o23.2.1,(o24.2.1,o25.2.1))),()))))))
 else
 (bif kind2==13 then
 ((Za N c1).bind λo26=>
 ((Zk N o26.1.1).bind λo27=>
 (some ((o27.1.1,()),((kind2,(o26.2.1,(o27.2.1,0))),())))))
 else
 (bif kind2==14 then
 ((Zk N c1).bind λo28=>
 ((Za N o28.1.1).bind λo29=>
 (some ((o29.1.1,()),((kind2,(o28.2.1,(o29.2.1,0))),())))))
 else
 (some ((c1,()),((kind2,(0,0,0)),())))))))
 else
 (bif kind2==16 then
 ((Za N c1).bind λo30=>
 (some ((o30.1.1,()),((kind2,(o30.2.1,(0,0))),()))))
 else
 (bif kind2==12 then
 ((Zk N c1).bind λo31=>
 ((Za N o31.1.1).bind λo32=>
 ((Za N o32.1.1).bind λo33=>
 (some ((o33.1.1,()),((kind2,(o31.2.1,(o32.2.1,o33.2.1))),()))))))
 else
 (bif kind2==13 then
 ((Za N c1).bind λo34=>
 ((Zk N o34.1.1).bind λo35=>
 (some ((o35.1.1,()),((kind2,(o34.2.1,(o35.2.1,0))),())))))
 else
 (bif kind2==14 then
 ((Zk N c1).bind λo36=>
 ((Za N o36.1.1).bind λo37=>
 (some ((o37.1.1,()),((kind2,(o36.2.1,(o37.2.1,0))),())))))
 else
 (some ((c1,()),((kind2,(0,0,0)),())))))))))))))
 else
 (bif kind2==3 then
 (bif kind2==3 then
 ((Za N c1).bind λo38=>
 ((Za N o38.1.1).bind λo39=>
 ((Za N o39.1.1).bind λo40=>
 (some ((o40.1.1,()),((kind2,(o38.2.1,(o39.2.1,o40.2.1))),()))))))
 else
 (bif kind2==5 then
 ((Za N c1).bind λo41=>
 ((Zbx N o41.1.1).bind λo42=>
 (some ((o42.1.1,()),((kind2,(o41.2.1,(o42.2.1,0))),())))))
 else
 (bif kind2==6 then
 ((Zbx N c1).bind λo43=>
 ((Za N o43.1.1).bind λo44=>
 (some ((o44.1.1,()),((kind2,(o43.2.1,(o44.2.1,0))),())))))
 else
 (bif kind2==7 then
 ((Za N c1).bind λo45=>
 ((Zb N o45.1.1 3).bind λo46=>
 (some ((o46.1.1,()),((kind2,(o45.2.1,(iadd .i64 1 o46.2.1,0))),())))))
 else
 (bif kind2==8 then
 (bif kind2==8 then
 ((Za N c1).bind λo47=>
 (some ((o47.1.1,()),((kind2,(o47.2.1,(0,0))),()))))
 else
 (bif kind2==12 then
 ((Zk N c1).bind λo48=>
 ((Za N o48.1.1).bind λo49=>
 ((Za N o49.1.1).bind λo50=>
 (some ((o50.1.1,()),((kind2,(o48.2.1,(o49.2.1,o50.2.1))),()))))))
 else
 (bif kind2==13 then
 ((Za N c1).bind λo51=>
 ((Zk N o51.1.1).bind λo52=>
 (some ((o52.1.1,()),((kind2,(o51.2.1,(o52.2.1,0))),())))))
 else
 (bif kind2==14 then
 ((Zk N c1).bind λo53=>
 ((Za N o53.1.1).bind λo54=>
 (some ((o54.1.1,()),((kind2,(o53.2.1,(o54.2.1,0))),())))))
 else
 (some ((c1,()),((kind2,(0,0,0)),())))))))
 else
 (bif kind2==15 then
 (bif kind2==15 then
 ((Za N c1).bind λo55=>
 (some ((o55.1.1,()),((kind2,(o55.2.1,(0,0))),()))))
 else
 (bif kind2==12 then
 ((Zk N c1).bind λo56=>
 ((Za N o56.1.1).bind λo57=>
 ((Za N o57.1.1).bind λo58=>
 (some ((o58.1.1,()),((kind2,(o56.2.1,(o57.2.1,o58.2.1))),()))))))
 else
 (bif kind2==13 then
 ((Za N c1).bind λo59=>
 ((Zk N o59.1.1).bind λo60=>
 (some ((o60.1.1,()),((kind2,(o59.2.1,(o60.2.1,0))),())))))
 else
 (bif kind2==14 then
 ((Zk N c1).bind λo61=>
 ((Za N o61.1.1).bind λo62=>
 (some ((o62.1.1,()),((kind2,(o61.2.1,(o62.2.1,0))),())))))
 else
 (some ((c1,()),((kind2,(0,0,0)),())))))))
 else
 (bif kind2==16 then
 ((Za N c1).bind λo63=>
 (some ((o63.1.1,()),((kind2,(o63.2.1,(0,0))),()))))
 else
 (bif kind2==12 then
 ((Zk N c1).bind λo64=>
 ((Za N o64.1.1).bind λo65=>
 ((Za N o65.1.1).bind λo66=>
 (some ((o66.1.1,()),((kind2,(o64.2.1,(o65.2.1,o66.2.1))),()))))))
 else
 (bif kind2==13 then
 ((Za N c1).bind λo67=>
 ((Zk N o67.1.1).bind λo68=>
 (some ((o68.1.1,()),((kind2,(o67.2.1,(o68.2.1,0))),())))))
 else
 (bif kind2==14 then
 ((Zk N c1).bind λo69=>
 ((Za N o69.1.1).bind λo70=>
 (some ((o70.1.1,()),((kind2,(o69.2.1,(o70.2.1,0))),())))))
 else
 (some ((c1,()),((kind2,(0,0,0)),())))))))))))))
 else
 (bif kind2==4 then
 ((Za N c1).bind λo71=>
 ((Za N o71.1.1).bind λo72=>
 ((Za N o72.1.1).bind λo73=>
 (some ((o73.1.1,()),((kind2,(o71.2.1,(o72.2.1,o73.2.1))),()))))))
 else
 (bif kind2==5 then
 ((Za N c1).bind λo74=>
 ((Zbx N o74.1.1).bind λo75=>
 (some ((o75.1.1,()),((kind2,(o74.2.1,(o75.2.1,0))),())))))
 else
 (bif kind2==6 then
 ((Zbx N c1).bind λo76=>
 ((Za N o76.1.1).bind λo77=>
 (some ((o77.1.1,()),((kind2,(o76.2.1,(o77.2.1,0))),())))))
 else
 (bif kind2==7 then
 ((Za N c1).bind λo78=>
 ((Zb N o78.1.1 3).bind λo79=>
 (some ((o79.1.1,()),((kind2,(o78.2.1,(iadd .i64 1 o79.2.1,0))),())))))
 else
 (bif kind2==8 then
 (bif kind2==8 then
 ((Za N c1).bind λo80=>
 (some ((o80.1.1,()),((kind2,(o80.2.1,(0,0))),()))))
 else
 (bif kind2==12 then
 ((Zk N c1).bind λo81=>
 ((Za N o81.1.1).bind λo82=>
 ((Za N o82.1.1).bind λo83=>
 (some ((o83.1.1,()),((kind2,(o81.2.1,(o82.2.1,o83.2.1))),()))))))
 else
 (bif kind2==13 then
 ((Za N c1).bind λo84=>
 ((Zk N o84.1.1).bind λo85=>
 (some ((o85.1.1,()),((kind2,(o84.2.1,(o85.2.1,0))),())))))
 else
 (bif kind2==14 then
 ((Zk N c1).bind λo86=>
 ((Za N o86.1.1).bind λo87=>
 (some ((o87.1.1,()),((kind2,(o86.2.1,(o87.2.1,0))),())))))
 else
 (some ((c1,()),((kind2,(0,0,0)),())))))))
 else
 (bif kind2==15 then
 (bif kind2==15 then
 ((Za N c1).bind λo88=>
 (some ((o88.1.1,()),((kind2,(o88.2.1,(0,0))),()))))
 else
 (bif kind2==12 then
 ((Zk N c1).bind λo89=>
 ((Za N o89.1.1).bind λo90=>
 ((Za N o90.1.1).bind λo91=>
 (some ((o91.1.1,()),((kind2,(o89.2.1,(o90.2.1,o91.2.1))),()))))))
 else
 (bif kind2==13 then
 ((Za N c1).bind λo92=>
 ((Zk N o92.1.1).bind λo93=>
 (some ((o93.1.1,()),((kind2,(o92.2.1,(o93.2.1,0))),())))))
 else
 (bif kind2==14 then
 ((Zk N c1).bind λo94=>
 ((Za N o94.1.1).bind λo95=>
 (some ((o95.1.1,()),((kind2,(o94.2.1,(o95.2.1,0))),())))))
 else
 (some ((c1,()),((kind2,(0,0,0)),())))))))
 else
 (bif kind2==16 then
 ((Za N c1).bind λo96=>
 (some ((o96.1.1,()),((kind2,(o96.2.1,(0,0))),()))))
 else
 (bif kind2==12 then
 ((Zk N c1).bind λo97=>
 ((Za N o97.1.1).bind λo98=>
 ((Za N o98.1.1).bind λo99=>
 (some ((o99.1.1,()),((kind2,(o97.2.1,(o98.2.1,o99.2.1))),()))))))
 else
 (bif kind2==13 then
 ((Za N c1).bind λo100=>
 ((Zk N o100.1.1).bind λo101=>
 (some ((o101.1.1,()),((kind2,(o100.2.1,(o101.2.1,0))),())))))
 else
 (bif kind2==14 then
 ((Zk N c1).bind λo102=>
 ((Za N o102.1.1).bind λo103=>
 (some ((o103.1.1,()),((kind2,(o102.2.1,(o103.2.1,0))),())))))
 else
 (some ((c1,()),((kind2,(0,0,0)),()))))))))))))))))
def Zc{R:Type}(N:Nat)(rec:(List Int×Int×Int)→Int→Int→Bool→Option (((List Int×Int×Int)×Unit)×((List (Int×Int×Int×Int))×Unit)))(most6:Int)(deep7:Int)(kid8:Bool)(K0:Int→Bool→(List Int×Int×Int)→(List (Int×Int×Int×Int))→Option R):Nat→Int→(List Int×Int×Int)→(List (Int×Int×Int×Int))→Option R
  |0,_,_,_=>none
  |n+1,n9,b10,l11=>
    (bif decide (n9>0)then
 (bif decide ((ilen l11)<most6)then
 ((Zb N b10 20).bind λo84=>
 (bif decide (o84.2.1<5)then
 ((Zj N o84.1.1 5).bind λo85=>
 (bif room ((Xa l11)+(Xa ([o85.2.1])))then
 (Zc N rec most6 deep7 kid8 K0 n (isub .i64 n9 1) o85.1.1 (Xe l11 ([o85.2.1])))else none))
 else
 (bif decide (o84.2.1<10)then
 ((Zj N o84.1.1 6).bind λo86=>
 (bif room ((Xa l11)+(Xa ([o86.2.1])))then
 (Zc N rec most6 deep7 kid8 K0 n (isub .i64 n9 1) o86.1.1 (Xe l11 ([o86.2.1])))else none))
 else
 (bif decide (o84.2.1<12)then
 ((Zb N o84.1.1 4).bind λo87=>
 ((Zj N o87.1.1 (iadd .i64 1 o87.2.1)).bind λo88=>
 (bif room ((Xa l11)+(Xa ([o88.2.1])))then
 (Zc N rec most6 deep7 kid8 K0 n (isub .i64 n9 1) o88.1.1 (Xe l11 ([o88.2.1])))else none)))
 else
 (bif o84.2.1==12 then
 (bif decide (deep7>0)then
 (bif decide ((isub .i64 most6 (ilen l11))≥4)then
 ((rec o84.1.1 (isub .i64 (isub .i64 most6 (ilen l11)) 3) (isub .i64 deep7 1) kid8).bind λo89=>
 ((Zj N o89.1.1 8).bind λo90=>
 (bif room ((Xa l11)+(Xa ([o90.2.1])))then
 (bif room ((Xa (Xe l11 ([o90.2.1])))+(Xa o89.2.1))then
 ((Zw N o90.1.1 3).bind λo91=>
 (bif o91.2.1 then
 (bif room ((Xa (Xe (Xe l11 ([o90.2.1])) o89.2.1))+(Xa ([((10:Int),((0:Int),((0:Int),(0:Int))))])))then
 (bif room ((Xa (Xe (Xe (Xe l11 ([o90.2.1])) o89.2.1) ([(10,(0,0,0))])))+(Xa ([((9:Int),((0:Int),((0:Int),(0:Int))))])))then
 (Zc N rec most6 deep7 kid8 K0 n (isub .i64 n9 1) o91.1.1 (Xe (Xe (Xe (Xe l11 ([o90.2.1])) o89.2.1) ([(10,(0,0,0))])) ([(9,(0,0,0))])))else none)else none)
 else
 (bif room ((Xa (Xe (Xe l11 ([o90.2.1])) o89.2.1))+(Xa ([((9:Int),((0:Int),((0:Int),(0:Int))))])))then
 (Zc N rec most6 deep7 kid8 K0 n (isub .i64 n9 1) o91.1.1 (Xe (Xe (Xe l11 ([o90.2.1])) o89.2.1) ([(9,(0,0,0))])))else none)))else none)else none)))
 else
 (bif o84.2.1==13 then
 (bif decide ((isub .i64 most6 (ilen l11))≥3)then
 ((rec o84.1.1 2 0 kid8).bind λo92=>
 ((Zj N o92.1.1 7).bind λo93=>
 (bif room ((Xa l11)+(Xa ([(o93.2.1.1,(o93.2.1.2.1,(ilen o92.2.1,o93.2.1.2.2.2)))])))then
 (bif room ((Xa (Xe l11 ([(o93.2.1.1,(o93.2.1.2.1,(ilen o92.2.1,o93.2.1.2.2.2)))])))+(Xa o92.2.1))then
 (Zc N rec most6 deep7 kid8 K0 n (isub .i64 n9 1) o93.1.1 (Xe (Xe l11 ([(o93.2.1.1,(o93.2.1.2.1,(ilen o92.2.1,o93.2.1.2.2.2)))])) o92.2.1))else none)else none)))
 else
 (bif o84.2.1==14 then
 ((Zw N o84.1.1 6).bind λo94=>
 (bif o94.2.1 then
 (bif room ((Xa l11)+(Xa ([((10:Int),((0:Int),((0:Int),(0:Int))))])))then
 (Zc N rec most6 deep7 kid8 K0 n (isub .i64 n9 1) o94.1.1 (Xe l11 ([(10,(0,0,0))])))else none)
 else
 (bif kid8 then
 ((Zb N o94.1.1 3).bind λo95=>
 ((Zj N o95.1.1 (iadd .i64 1 o95.2.1)).bind λo96=>
 (bif room ((Xa l11)+(Xa ([o96.2.1])))then
 (Zc N rec most6 deep7 kid8 K0 n (isub .i64 n9 1) o96.1.1 (Xe l11 ([o96.2.1])))else none)))
 else
 ((Zb N o94.1.1 5).bind λo97=>
 ((Zj N o97.1.1 (iadd .i64 12 o97.2.1)).bind λo98=>
 (bif room ((Xa l11)+(Xa ([o98.2.1])))then
 (Zc N rec most6 deep7 kid8 K0 n (isub .i64 n9 1) o98.1.1 (Xe l11 ([o98.2.1])))else none))))))
 else
 (bif kid8 then
 ((Zb N o84.1.1 3).bind λo99=>
 ((Zj N o99.1.1 (iadd .i64 1 o99.2.1)).bind λo100=>
 (bif room ((Xa l11)+(Xa ([o100.2.1])))then
 (Zc N rec most6 deep7 kid8 K0 n (isub .i64 n9 1) o100.1.1 (Xe l11 ([o100.2.1])))else none)))
 else
 ((Zb N o84.1.1 5).bind λo101=>
 ((Zj N o101.1.1 (iadd .i64 12 o101.2.1)).bind λo102=>
 (bif room ((Xa l11)+(Xa ([o102.2.1])))then
 (Zc N rec most6 deep7 kid8 K0 n (isub .i64 n9 1) o102.1.1 (Xe l11 ([o102.2.1])))else none))))))
 else
 (bif o84.2.1==14 then
 ((Zw N o84.1.1 6).bind λo103=>
 (bif o103.2.1 then
 (bif room ((Xa l11)+(Xa ([((10:Int),((0:Int),((0:Int),(0:Int))))])))then
 (Zc N rec most6 deep7 kid8 K0 n (isub .i64 n9 1) o103.1.1 (Xe l11 ([(10,(0,0,0))])))else none)
 else
 (bif kid8 then
 ((Zb N o103.1.1 3).bind λo104=>
 ((Zj N o104.1.1 (iadd .i64 1 o104.2.1)).bind λo105=>
 (bif room ((Xa l11)+(Xa ([o105.2.1])))then
 (Zc N rec most6 deep7 kid8 K0 n (isub .i64 n9 1) o105.1.1 (Xe l11 ([o105.2.1])))else none)))
 else
 ((Zb N o103.1.1 5).bind λo106=>
 ((Zj N o106.1.1 (iadd .i64 12 o106.2.1)).bind λo107=>
 (bif room ((Xa l11)+(Xa ([o107.2.1])))then
 (Zc N rec most6 deep7 kid8 K0 n (isub .i64 n9 1) o107.1.1 (Xe l11 ([o107.2.1])))else none))))))
 else
 (bif kid8 then
 ((Zb N o84.1.1 3).bind λo108=>
 ((Zj N o108.1.1 (iadd .i64 1 o108.2.1)).bind λo109=>
 (bif room ((Xa l11)+(Xa ([o109.2.1])))then
 (Zc N rec most6 deep7 kid8 K0 n (isub .i64 n9 1) o109.1.1 (Xe l11 ([o109.2.1])))else none)))
 else
 ((Zb N o84.1.1 5).bind λo110=>
 ((Zj N o110.1.1 (iadd .i64 12 o110.2.1)).bind λo111=>
 (bif room ((Xa l11)+(Xa ([o111.2.1])))then
 (Zc N rec most6 deep7 kid8 K0 n (isub .i64 n9 1) o111.1.1 (Xe l11 ([o111.2.1])))else none)))))))
 else
 (bif o84.2.1==13 then
 (bif decide ((isub .i64 most6 (ilen l11))≥3)then
 ((rec o84.1.1 2 0 kid8).bind λo112=>
 ((Zj N o112.1.1 7).bind λo113=>
 (bif room ((Xa l11)+(Xa ([(o113.2.1.1,(o113.2.1.2.1,(ilen o112.2.1,o113.2.1.2.2.2)))])))then
 (bif room ((Xa (Xe l11 ([(o113.2.1.1,(o113.2.1.2.1,(ilen o112.2.1,o113.2.1.2.2.2)))])))+(Xa o112.2.1))then
 (Zc N rec most6 deep7 kid8 K0 n (isub .i64 n9 1) o113.1.1 (Xe (Xe l11 ([(o113.2.1.1,(o113.2.1.2.1,(ilen o112.2.1,o113.2.1.2.2.2)))])) o112.2.1))else none)else none)))
 else
 (bif o84.2.1==14 then
 ((Zw N o84.1.1 6).bind λo114=>
 (bif o114.2.1 then
 (bif room ((Xa l11)+(Xa ([((10:Int),((0:Int),((0:Int),(0:Int))))])))then
 (Zc N rec most6 deep7 kid8 K0 n (isub .i64 n9 1) o114.1.1 (Xe l11 ([(10,(0,0,0))])))else none)
 else
 (bif kid8 then
 ((Zb N o114.1.1 3).bind λo115=>
 ((Zj N o115.1.1 (iadd .i64 1 o115.2.1)).bind λo116=>
 (bif room ((Xa l11)+(Xa ([o116.2.1])))then
 (Zc N rec most6 deep7 kid8 K0 n (isub .i64 n9 1) o116.1.1 (Xe l11 ([o116.2.1])))else none)))
 else
 ((Zb N o114.1.1 5).bind λo117=>
 ((Zj N o117.1.1 (iadd .i64 12 o117.2.1)).bind λo118=>
 (bif room ((Xa l11)+(Xa ([o118.2.1])))then
 (Zc N rec most6 deep7 kid8 K0 n (isub .i64 n9 1) o118.1.1 (Xe l11 ([o118.2.1])))else none))))))
 else
 (bif kid8 then
 ((Zb N o84.1.1 3).bind λo119=>
 ((Zj N o119.1.1 (iadd .i64 1 o119.2.1)).bind λo120=>
 (bif room ((Xa l11)+(Xa ([o120.2.1])))then
 (Zc N rec most6 deep7 kid8 K0 n (isub .i64 n9 1) o120.1.1 (Xe l11 ([o120.2.1])))else none)))
 else
 ((Zb N o84.1.1 5).bind λo121=>
 ((Zj N o121.1.1 (iadd .i64 12 o121.2.1)).bind λo122=>
 (bif room ((Xa l11)+(Xa ([o122.2.1])))then
 (Zc N rec most6 deep7 kid8 K0 n (isub .i64 n9 1) o122.1.1 (Xe l11 ([o122.2.1])))else none))))))
 else
 (bif o84.2.1==14 then
 ((Zw N o84.1.1 6).bind λo123=>
 (bif o123.2.1 then
 (bif room ((Xa l11)+(Xa ([((10:Int),((0:Int),((0:Int),(0:Int))))])))then
 (Zc N rec most6 deep7 kid8 K0 n (isub .i64 n9 1) o123.1.1 (Xe l11 ([(10,(0,0,0))])))else none)
 else
 (bif kid8 then
 ((Zb N o123.1.1 3).bind λo124=>
 ((Zj N o124.1.1 (iadd .i64 1 o124.2.1)).bind λo125=>
 (bif room ((Xa l11)+(Xa ([o125.2.1])))then
 (Zc N rec most6 deep7 kid8 K0 n (isub .i64 n9 1) o125.1.1 (Xe l11 ([o125.2.1])))else none)))
 else
 ((Zb N o123.1.1 5).bind λo126=>
 ((Zj N o126.1.1 (iadd .i64 12 o126.2.1)).bind λo127=>
 (bif room ((Xa l11)+(Xa ([o127.2.1])))then
 (Zc N rec most6 deep7 kid8 K0 n (isub .i64 n9 1) o127.1.1 (Xe l11 ([o127.2.1])))else none))))))
 else
 (bif kid8 then
 ((Zb N o84.1.1 3).bind λo128=>
 ((Zj N o128.1.1 (iadd .i64 1 o128.2.1)).bind λo129=>
 (bif room ((Xa l11)+(Xa ([o129.2.1])))then
 (Zc N rec most6 deep7 kid8 K0 n (isub .i64 n9 1) o129.1.1 (Xe l11 ([o129.2.1])))else none)))
 else
 ((Zb N o84.1.1 5).bind λo130=>
 ((Zj N o130.1.1 (iadd .i64 12 o130.2.1)).bind λo131=>
 (bif room ((Xa l11)+(Xa ([o131.2.1])))then
 (Zc N rec most6 deep7 kid8 K0 n (isub .i64 n9 1) o131.1.1 (Xe l11 ([o131.2.1])))else none)))))))
 else
 (bif o84.2.1==13 then
 (bif decide ((isub .i64 most6 (ilen l11))≥3)then
 ((rec o84.1.1 2 0 kid8).bind λo132=>
 ((Zj N o132.1.1 7).bind λo133=>
 (bif room ((Xa l11)+(Xa ([(o133.2.1.1,(o133.2.1.2.1,(ilen o132.2.1,o133.2.1.2.2.2)))])))then
 (bif room ((Xa (Xe l11 ([(o133.2.1.1,(o133.2.1.2.1,(ilen o132.2.1,o133.2.1.2.2.2)))])))+(Xa o132.2.1))then
 (Zc N rec most6 deep7 kid8 K0 n (isub .i64 n9 1) o133.1.1 (Xe (Xe l11 ([(o133.2.1.1,(o133.2.1.2.1,(ilen o132.2.1,o133.2.1.2.2.2)))])) o132.2.1))else none)else none)))
 else
 (bif o84.2.1==14 then
 ((Zw N o84.1.1 6).bind λo134=>
 (bif o134.2.1 then
 (bif room ((Xa l11)+(Xa ([((10:Int),((0:Int),((0:Int),(0:Int))))])))then
 (Zc N rec most6 deep7 kid8 K0 n (isub .i64 n9 1) o134.1.1 (Xe l11 ([(10,(0,0,0))])))else none)
 else
 (bif kid8 then
 ((Zb N o134.1.1 3).bind λo135=>
 ((Zj N o135.1.1 (iadd .i64 1 o135.2.1)).bind λo136=>
 (bif room ((Xa l11)+(Xa ([o136.2.1])))then
 (Zc N rec most6 deep7 kid8 K0 n (isub .i64 n9 1) o136.1.1 (Xe l11 ([o136.2.1])))else none)))
 else
 ((Zb N o134.1.1 5).bind λo137=>
 ((Zj N o137.1.1 (iadd .i64 12 o137.2.1)).bind λo138=>
 (bif room ((Xa l11)+(Xa ([o138.2.1])))then
 (Zc N rec most6 deep7 kid8 K0 n (isub .i64 n9 1) o138.1.1 (Xe l11 ([o138.2.1])))else none))))))
 else
 (bif kid8 then
 ((Zb N o84.1.1 3).bind λo139=>
 ((Zj N o139.1.1 (iadd .i64 1 o139.2.1)).bind λo140=>
 (bif room ((Xa l11)+(Xa ([o140.2.1])))then
 (Zc N rec most6 deep7 kid8 K0 n (isub .i64 n9 1) o140.1.1 (Xe l11 ([o140.2.1])))else none)))
 else
 ((Zb N o84.1.1 5).bind λo141=>
 ((Zj N o141.1.1 (iadd .i64 12 o141.2.1)).bind λo142=>
 (bif room ((Xa l11)+(Xa ([o142.2.1])))then
 (Zc N rec most6 deep7 kid8 K0 n (isub .i64 n9 1) o142.1.1 (Xe l11 ([o142.2.1])))else none))))))
 else
 (bif o84.2.1==14 then
 ((Zw N o84.1.1 6).bind λo143=>
 (bif o143.2.1 then
 (bif room ((Xa l11)+(Xa ([((10:Int),((0:Int),((0:Int),(0:Int))))])))then
 (Zc N rec most6 deep7 kid8 K0 n (isub .i64 n9 1) o143.1.1 (Xe l11 ([(10,(0,0,0))])))else none)
 else
 (bif kid8 then
 ((Zb N o143.1.1 3).bind λo144=>
 ((Zj N o144.1.1 (iadd .i64 1 o144.2.1)).bind λo145=>
 (bif room ((Xa l11)+(Xa ([o145.2.1])))then
 (Zc N rec most6 deep7 kid8 K0 n (isub .i64 n9 1) o145.1.1 (Xe l11 ([o145.2.1])))else none)))
 else
 ((Zb N o143.1.1 5).bind λo146=>
 ((Zj N o146.1.1 (iadd .i64 12 o146.2.1)).bind λo147=>
 (bif room ((Xa l11)+(Xa ([o147.2.1])))then
 (Zc N rec most6 deep7 kid8 K0 n (isub .i64 n9 1) o147.1.1 (Xe l11 ([o147.2.1])))else none))))))
 else
 (bif kid8 then
 ((Zb N o84.1.1 3).bind λo148=>
 ((Zj N o148.1.1 (iadd .i64 1 o148.2.1)).bind λo149=>
 (bif room ((Xa l11)+(Xa ([o149.2.1])))then
 (Zc N rec most6 deep7 kid8 K0 n (isub .i64 n9 1) o149.1.1 (Xe l11 ([o149.2.1])))else none)))
 else
 ((Zb N o84.1.1 5).bind λo150=>
 ((Zj N o150.1.1 (iadd .i64 12 o150.2.1)).bind λo151=>
 (bif room ((Xa l11)+(Xa ([o151.2.1])))then
 (Zc N rec most6 deep7 kid8 K0 n (isub .i64 n9 1) o151.1.1 (Xe l11 ([o151.2.1])))else none)))))))))))
 else
 (K0 n9 (decide ((ilen l11)<most6)) b10 l11))
 else
 (K0 n9 false b10 l11))
def Zce(N:Nat):Nat→(List Int×Int×Int)→Int→Int→Bool→Option (((List Int×Int×Int)×Unit)×((List (Int×Int×Int×Int))×Unit))
  |0,_,_,_,_=>none
  |m+1,c1,most2,deep3,kid4=>
    ((Zb N c1 most2).bind λo5=>
 (Zc N (Zce N m) most2 deep3 kid4
 (λn152 t153 b154 l155=>
   (some ((b154,()),(l155,()))))
  N (iadd .i64 1 o5.2.1) o5.1.1 ([]:List (Int×Int×Int×Int))))
def Zi8(N:Nat)(c1:List Int×Int×Int)(most2:Int)(deep3:Int)(kid4:Bool):Option (((List Int×Int×Int)×Unit)×((List (Int×Int×Int×Int))×Unit)):=Zce N N c1 most2 deep3 kid4
def Zf1{R:Type}(N:Nat)(l12:List (Int×Int×Int×Int))(K0:Int→Bool→(List Int×Int×Int)→(List (List (Int×Int×Int×Int)))→Option R):Nat→Int→(List Int×Int×Int)→(List (List (Int×Int×Int×Int)))→Option R
  |0,_,_,_=>none
  |n+1,n10,b11,l13=>
    (bif decide (n10>0)then
 ((Zb N b11 5).bind λo20=>
 ((Zi8 N o20.1.1 (iadd .i64 2 o20.2.1) 1 true).bind λo21=>
 (bif room ((Xa l13)+(Xa ([o21.2.1])))then
 (Zf1 N l12 K0 n (isub .i64 n10 1) o21.1.1 (Xe l13 ([o21.2.1])))else none)))
 else
 (K0 n10 (decide (n10>0)) b11 l13))
def Zca(N:Nat)(c1:List Int×Int×Int)(forks2:Bool):Option (((List Int×Int×Int)×Unit)×((List (Int×Int×Int×Int)×List (List (Int×Int×Int×Int)))×Unit)):=
    (bif !forks2 then
 ((Zb N c1 8).bind λo3=>
 ((Zi8 N o3.1.1 (iadd .i64 3 o3.2.1) 2 false).bind λo4=>
 (some ((o4.1.1,()),((o4.2.1,([]:List (List (Int×Int×Int×Int)))),())))))
 else
 ((Zb N c1 4).bind λo5=>
 ((Zi8 N o5.1.1 (iadd .i64 1 o5.2.1) 1 false).bind λo6=>
 ((Zb N o6.1.1 4).bind λo7=>
 ((Zi8 N o7.1.1 (iadd .i64 1 o7.2.1) 1 false).bind λo8=>
 (bif room ((Xa o6.2.1)+(Xa ([((11:Int),((0:Int),((0:Int),(0:Int))))])))then
 (bif room ((Xa (Xe o6.2.1 ([(11,(0,0,0))])))+(Xa o8.2.1))then
 ((Zb N o8.1.1 3).bind λo9=>
 (Zf1 N (Xe (Xe o6.2.1 ([(11,(0,0,0))])) o8.2.1)
 (λn22 t23 b24 l25=>
   (some ((b24,()),((Xe (Xe o6.2.1 ([(11,(0,0,0))])) o8.2.1,l25),()))))
  N (iadd .i64 1 o9.2.1) o9.1.1 ([]:List (List (Int×Int×Int×Int)))))else none)else none))))))
def Zz{R:Type}(N:Nat)(n4:Int)(most5:Int)(K0:Int→Int→Bool→(List Int×Int×Int)→(List (Int×Int×Int))→Option R):Nat→Int→Int→(List Int×Int×Int)→(List (Int×Int×Int))→Option R
  |0,_,_,_,_=>none
  |n+1,who6,i7,b8,l9=>
    (bif decide (i7<most5)then
 ((Zw N b8 3).bind λo29=>
 (bif o29.2.1 then
 ((Zb N o29.1.1 n4).bind λo30=>
 ((Zw N o30.1.1 2).bind λo31=>
 (bif o31.2.1 then
 ((Zb N o31.1.1 3).bind λo32=>
 ((Zw N o32.1.1 2).bind λo33=>
 (bif o33.2.1 then
 ((Zw N o33.1.1 40).bind λo34=>
 (bif o34.2.1 then
 (bif room ((Xa l9)+(Xa ([((3:Int),(o30.2.1,(0:Int)))])))then
 (Zz N n4 most5 K0 n o30.2.1 (iadd .i64 i7 1) o34.1.1 (Xe l9 ([(3,(o30.2.1,0))])))else none)
 else
 (bif room ((Xa l9)+(Xa ([((1:Int),(o30.2.1,(0:Int)))])))then
 (Zz N n4 most5 K0 n o30.2.1 (iadd .i64 i7 1) o34.1.1 (Xe l9 ([(1,(o30.2.1,0))])))else none)))
 else
 ((Zw N o33.1.1 40).bind λo35=>
 (bif o35.2.1 then
 (bif room ((Xa l9)+(Xa ([((3:Int),(o30.2.1,(0:Int)))])))then
 (Zz N n4 most5 K0 n o30.2.1 (iadd .i64 i7 1) o35.1.1 (Xe l9 ([(3,(o30.2.1,0))])))else none)
 else
 (bif room ((Xa l9)+(Xa ([((2:Int),(o30.2.1,o32.2.1))])))then
 (Zz N n4 most5 K0 n o30.2.1 (iadd .i64 i7 1) o35.1.1 (Xe l9 ([(2,(o30.2.1,o32.2.1))])))else none))))))
 else
 ((Zw N o31.1.1 40).bind λo36=>
 (bif o36.2.1 then
 (bif room ((Xa l9)+(Xa ([((3:Int),(o30.2.1,(0:Int)))])))then
 (Zz N n4 most5 K0 n o30.2.1 (iadd .i64 i7 1) o36.1.1 (Xe l9 ([(3,(o30.2.1,0))])))else none)
 else
 (bif room ((Xa l9)+(Xa ([((1:Int),(o30.2.1,(0:Int)))])))then
 (Zz N n4 most5 K0 n o30.2.1 (iadd .i64 i7 1) o36.1.1 (Xe l9 ([(1,(o30.2.1,0))])))else none))))))
 else
 ((Zw N o29.1.1 2).bind λo37=>
 (bif o37.2.1 then
 ((Zb N o37.1.1 3).bind λo38=>
 ((Zw N o38.1.1 2).bind λo39=>
 (bif o39.2.1 then
 ((Zw N o39.1.1 40).bind λo40=>
 (bif o40.2.1 then
 (bif room ((Xa l9)+(Xa ([((3:Int),(who6,(0:Int)))])))then
 (Zz N n4 most5 K0 n who6 (iadd .i64 i7 1) o40.1.1 (Xe l9 ([(3,(who6,0))])))else none)
 else
 (bif room ((Xa l9)+(Xa ([((1:Int),(who6,(0:Int)))])))then
 (Zz N n4 most5 K0 n who6 (iadd .i64 i7 1) o40.1.1 (Xe l9 ([(1,(who6,0))])))else none)))
 else
 ((Zw N o39.1.1 40).bind λo41=>
 (bif o41.2.1 then
 (bif room ((Xa l9)+(Xa ([((3:Int),(who6,(0:Int)))])))then
 (Zz N n4 most5 K0 n who6 (iadd .i64 i7 1) o41.1.1 (Xe l9 ([(3,(who6,0))])))else none)
 else
 (bif room ((Xa l9)+(Xa ([((2:Int),(who6,o38.2.1))])))then
 (Zz N n4 most5 K0 n who6 (iadd .i64 i7 1) o41.1.1 (Xe l9 ([(2,(who6,o38.2.1))])))else none))))))
 else
 ((Zw N o37.1.1 40).bind λo42=>
 (bif o42.2.1 then
 (bif room ((Xa l9)+(Xa ([((3:Int),(who6,(0:Int)))])))then
 (Zz N n4 most5 K0 n who6 (iadd .i64 i7 1) o42.1.1 (Xe l9 ([(3,(who6,0))])))else none)
 else
 (bif room ((Xa l9)+(Xa ([((1:Int),(who6,(0:Int)))])))then
 (Zz N n4 most5 K0 n who6 (iadd .i64 i7 1) o42.1.1 (Xe l9 ([(1,(who6,0))])))else none)))))))
 else
 (K0 who6 i7 (decide (i7<most5)) b8 l9))
def Zc6(N:Nat)(c1:List Int×Int×Int)(n2:Int)(most3:Int):Option (((List Int×Int×Int)×Unit)×((List (Int×Int×Int))×Unit)):=
    (Zz N n2 most3
 (λwho43 i44 t45 b46 l47=>
   (some ((b46,()),(l47,()))))
  N 0 0 c1 ([]:List (Int×Int×Int)))
def Zbi{R:Type}(N:Nat)(how6:Int)(most7:Int)(n8:Int)(b12:Int)(l13:List Int)(l14:List Int)(K0:Int→Bool→(List Int×Int×Int)→(List (List (Int×Int×Int×Int)×List (List (Int×Int×Int×Int))))→Option R):Nat→Int→(List Int×Int×Int)→(List (List (Int×Int×Int×Int)×List (List (Int×Int×Int×Int))))→Option R
  |0,_,_,_=>none
  |n+1,i9,b10,l15=>
    (bif decide (i9<n8)then
 (bif how6==2 then
 ((Zca N b10 true).bind λo28=>
 (bif room ((Xa l15)+(Xa ([o28.2.1])))then
 (Zbi N how6 most7 n8 b12 l13 l14 K0 n (iadd .i64 i9 1) o28.1.1 (Xe l15 ([o28.2.1])))else none))
 else
 (bif how6==0 then
 ((Zw N b10 3).bind λo29=>
 ((Zca N o29.1.1 o29.2.1).bind λo30=>
 (bif room ((Xa l15)+(Xa ([o30.2.1])))then
 (Zbi N how6 most7 n8 b12 l13 l14 K0 n (iadd .i64 i9 1) o30.1.1 (Xe l15 ([o30.2.1])))else none)))
 else
 ((Zca N b10 false).bind λo31=>
 (bif room ((Xa l15)+(Xa ([o31.2.1])))then
 (Zbi N how6 most7 n8 b12 l13 l14 K0 n (iadd .i64 i9 1) o31.1.1 (Xe l15 ([o31.2.1])))else none))))
 else
 (K0 i9 (decide (i9<n8)) b10 l15))
def Zcx(N:Nat)(c1:List Int×Int×Int)(how2:Int)(most3:Int):Option (((List Int×Int×Int)×Unit)×(((List Int×List Int×Int)×List (List (Int×Int×Int×Int)×List (List (Int×Int×Int×Int)))×List (Int×Int×Int))×Unit)):=
    ((Zco N c1).bind λo4=>
 ((Zb N o4.1.1 4).bind λo5=>
 (Zbi N how2 most3 (iadd .i64 1 o5.2.1) o4.2.1.2.2 o4.2.1.1 o4.2.1.2.1
 (λi32 t33 b34 l35=>
   ((Zb N b34 (iadd .i64 most3 1)).bind λo36=>
 ((Zc6 N o36.1.1 (iadd .i64 1 o5.2.1) o36.2.1).bind λo37=>
 (some ((o37.1.1,()),((o4.2.1,(l35,o37.2.1)),()))))))
  N 0 o5.1.1 ([]:List (List (Int×Int×Int×Int)×List (List (Int×Int×Int×Int)))))))
def Zif(N:Nat)(c1:List Int×Int×Int):Option (((List Int×Int×Int)×Unit)×((List Int×List Int×Int)×Unit)):=
    ((Zco N c1).bind λo2=>
 ((Zb N o2.1.1 16).bind λo3=>
 (bif o3.2.1==0 then
 (bif (decide ((0:Int)≤7))&&(decide ((7:Int)≤((Xa o2.2.1.1):Int)))then
 (some ((o3.1.1,()),((Xar (Xb 7) o2.2.1.1,o2.2.1.2),())))else none)
 else
 (bif o3.2.1==1 then
 ((Zb N o3.1.1 8).bind λo4=>
 (bif inb o4.2.1 (Xa o2.2.1.2.1)then
 (some ((o4.1.1,()),((o2.2.1.1,(Xl o2.2.1.2.1 (Xb o4.2.1) 65537,o2.2.1.2.2)),())))else none))
 else
 (bif o3.2.1==2 then
 (some ((o3.1.1,()),((o2.2.1.1,(o2.2.1.2.1,65536)),())))
 else
 (bif o3.2.1==3 then
 (bif (decide ((0:Int)≤3))&&(decide ((3:Int)≤((Xa o2.2.1.2.1):Int)))then
 (some ((o3.1.1,()),((o2.2.1.1,(Xar (Xb 3) o2.2.1.2.1,o2.2.1.2.2)),())))else none)
 else
 (bif o3.2.1==4 then
 ((Zb N o3.1.1 8).bind λo5=>
 (bif inb o5.2.1 (Xa o2.2.1.1)then
 (some ((o5.1.1,()),((Xl o2.2.1.1 (Xb o5.2.1) (-1:Int),o2.2.1.2),())))else none))
 else
 (some ((o3.1.1,()),(o2.2.1,()))))))))))
def Zny(N:Nat)(c1:List Int×Int×Int):Option (((List Int×Int×Int)×Unit)×((Int×Int×Int×Int)×Unit)):=
    ((Zb N c1 16).bind λo2=>
 ((Zj N o2.1.1 (iadd .i64 1 o2.2.1)).bind λo3=>
 ((Zb N o3.1.1 16).bind λo4=>
 (bif o4.2.1==0 then
 ((Zbn N o4.1.1 ([(-1:Int),4,8])).bind λo5=>
 (some ((o5.1.1,()),((o3.2.1.1,(o5.2.1,o3.2.1.2.2)),()))))
 else
 (bif o4.2.1==1 then
 ((Zbn N o4.1.1 ([(-1:Int),4,8,65536,21])).bind λo6=>
 (some ((o6.1.1,()),((o3.2.1.1,(o3.2.1.2.1,(o6.2.1,o3.2.1.2.2.2))),()))))
 else
 (bif o4.2.1==2 then
 ((Zbn N o4.1.1 ([(-1:Int),4,1])).bind λo7=>
 (some ((o7.1.1,()),((o3.2.1.1,(o3.2.1.2.1,(o3.2.1.2.2.1,o7.2.1))),()))))
 else
 (bif o4.2.1==3 then
 ((Zbn N o4.1.1 ([0,17,(-3:Int)])).bind λo8=>
 (some ((o8.1.1,()),((o8.2.1,o3.2.1.2),()))))
 else
 (some ((o4.1.1,()),(o3.2.1,()))))))))))
def Zf2{R:Type}(N:Nat)(K0:Bool→(List Int×Int×Int)→(List (Int×Int×Int×Int))→Option R):Nat→(List Int×Int×Int)→(List (Int×Int×Int×Int))→Option R
  |0,_,_=>none
  |n+1,b6,l7=>
    ((Zb N b6 2).bind λo12=>
 (bif decide ((ilen l7)<(iadd .i64 24 o12.2.1))then
 (bif room ((Xa l7)+(Xa ([((1:Int),((0:Int),((0:Int),(0:Int))))])))then
 (Zf2 N K0 n o12.1.1 (Xe l7 ([(1,(0,0,0))])))else none)
 else
 (K0 (decide ((ilen l7)<(iadd .i64 24 o12.2.1))) o12.1.1 l7)))
def Zd4(N:Nat)(c1:List Int×Int×Int)(code2:List (Int×Int×Int×Int)):Option (((List Int×Int×Int)×Unit)×((List (Int×Int×Int×Int))×Unit)):=
    (bif room ((Xa ([]:List (Int×Int×Int×Int)))+(Xa code2))then
 (bif (ilen (Xe ([]:List (Int×Int×Int×Int)) code2))==0 then
 (some ((c1,()),([(9,(0,0,0))],())))
 else
 ((Zb N c1 (ilen (Xe ([]:List (Int×Int×Int×Int)) code2))).bind λo3=>
 ((Zb N o3.1.1 6).bind λo4=>
 (bif o4.2.1==0 then
 ((Zny N o4.1.1).bind λo5=>
 (bif inb o3.2.1 (Xa (Xe ([]:List (Int×Int×Int×Int)) code2))then
 (some ((o5.1.1,()),(Xl (Xe ([]:List (Int×Int×Int×Int)) code2) (Xb o3.2.1) o5.2.1,())))else none))
 else
 (bif o4.2.1==1 then
 (bif inb o3.2.1 (Xa (Xe ([]:List (Int×Int×Int×Int)) code2))then
 (some ((o4.1.1,()),(Xl (Xe ([]:List (Int×Int×Int×Int)) code2) (Xb o3.2.1) (11,(0,0,0)),())))else none)
 else
 (bif o4.2.1==2 then
 (both
 (bif (decide ((0:Int)≤o3.2.1))&&(decide (o3.2.1≤((Xa (Xe ([]:List (Int×Int×Int×Int)) code2)):Int)))then
 (bif (decide ((0:Int)≤(iadd .i64 o3.2.1 1)))&&(decide ((iadd .i64 o3.2.1 1)≤((Xa (Xe ([]:List (Int×Int×Int×Int)) code2)):Int)))then
 (bif room ((Xb o3.2.1)+(Xa (Xcx (Xb (iadd .i64 o3.2.1 1)) (Xar (Xa (Xe ([]:List (Int×Int×Int×Int)) code2)) (Xe ([]:List (Int×Int×Int×Int)) code2)))))then
 (some ((o4.1.1,()),(Xe (Xar (Xb o3.2.1) (Xe ([]:List (Int×Int×Int×Int)) code2)) (Xcx (Xb (iadd .i64 o3.2.1 1)) (Xar (Xa (Xe ([]:List (Int×Int×Int×Int)) code2)) (Xe ([]:List (Int×Int×Int×Int)) code2))),())))else none)else none)else none)
 (bif (decide ((0:Int)≤(iadd .i64 o3.2.1 1)))&&(decide ((iadd .i64 o3.2.1 1)≤((Xa (Xe ([]:List (Int×Int×Int×Int)) code2)):Int)))then
 (bif (decide ((0:Int)≤o3.2.1))&&(decide (o3.2.1≤((Xa (Xe ([]:List (Int×Int×Int×Int)) code2)):Int)))then
 (bif room ((Xb o3.2.1)+(Xa (Xcx (Xb (iadd .i64 o3.2.1 1)) (Xar (Xa (Xe ([]:List (Int×Int×Int×Int)) code2)) (Xe ([]:List (Int×Int×Int×Int)) code2)))))then
 (some ((o4.1.1,()),(Xe (Xar (Xb o3.2.1) (Xe ([]:List (Int×Int×Int×Int)) code2)) (Xcx (Xb (iadd .i64 o3.2.1 1)) (Xar (Xa (Xe ([]:List (Int×Int×Int×Int)) code2)) (Xe ([]:List (Int×Int×Int×Int)) code2))),())))else none)else none)else none))
 else
 (bif o4.2.1==3 then
 (Zf2 N
 (λt13 b14 l15=>
   (some ((b14,()),(l15,()))))
  N o4.1.1 (Xe ([]:List (Int×Int×Int×Int)) code2))
 else
 (bif o4.2.1==4 then
 (bif inb o3.2.1 (Xa (Xe ([]:List (Int×Int×Int×Int)) code2))then
 (bif inb o3.2.1 (Xa (Xe ([]:List (Int×Int×Int×Int)) code2))then
 (some ((o4.1.1,()),(Xl (Xe ([]:List (Int×Int×Int×Int)) code2) (Xb o3.2.1) ((Xd (Xe ([]:List (Int×Int×Int×Int)) code2) (Xb o3.2.1) (0,0,0,0)).1,((Xd (Xe ([]:List (Int×Int×Int×Int)) code2) (Xb o3.2.1) (0,0,0,0)).2.1,(iadd .i64 (Xd (Xe ([]:List (Int×Int×Int×Int)) code2) (Xb o3.2.1) (0,0,0,0)).2.2.1 1,(Xd (Xe ([]:List (Int×Int×Int×Int)) code2) (Xb o3.2.1) (0,0,0,0)).2.2.2))),())))else none)else none)
 else
 ((Zb N o4.1.1 2).bind λo16=>
 (bif inb o3.2.1 (Xa (Xe ([]:List (Int×Int×Int×Int)) code2))then
 (some ((o16.1.1,()),(Xl (Xe ([]:List (Int×Int×Int×Int)) code2) (Xb o3.2.1) (isub .i64 9 o16.2.1,(0,0,0)),())))else none))))))))))else none)
def Zjn(N:Nat)(c1:List Int×Int×Int):Option (((List Int×Int×Int)×Unit)×((List (Int×Int×Int×Int)×List (List (Int×Int×Int×Int)))×Unit)):=
    ((Zw N c1 2).bind λo2=>
 ((Zca N o2.1.1 o2.2.1).bind λo3=>
 ((Zb N o3.1.1 10).bind λo4=>
 (bif o4.2.1==0 then
 ((Zd4 N o4.1.1 o3.2.1.1).bind λo5=>
 (some ((o5.1.1,()),((o5.2.1,o3.2.1.2),()))))
 else
 (bif o4.2.1==1 then
 (bif decide ((ilen o3.2.1.2)>0)then
 ((Zb N o4.1.1 (ilen o3.2.1.2)).bind λo6=>
 (bif inb o6.2.1 (Xa o3.2.1.2)then
 ((Zd4 N o6.1.1 (Xd o3.2.1.2 (Xb o6.2.1) ([]:List (Int×Int×Int×Int)))).bind λo7=>
 (bif inb o6.2.1 (Xa o3.2.1.2)then
 (some ((o7.1.1,()),((o3.2.1.1,Xl o3.2.1.2 (Xb o6.2.1) o7.2.1),())))else none))else none))
 else
 (some ((o4.1.1,()),(o3.2.1,()))))
 else
 (bif o4.2.1==2 then
 (bif room ((Xa o3.2.1.2)+(Xa ([([]:List (Int×Int×Int×Int))])))then
 (some ((o4.1.1,()),((o3.2.1.1,Xe o3.2.1.2 ([([]:List (Int×Int×Int×Int))])),())))else none)
 else
 (bif o4.2.1==3 then
 (some ((o4.1.1,()),((o3.2.1.1,([]:List (List (Int×Int×Int×Int)))),())))
 else
 (some ((o4.1.1,()),(o3.2.1,()))))))))))
def Zf3{R:Type}(N:Nat)(b7:List Int×Int×Int)(b9:Int)(l10:List Int)(l11:List Int)(l13:List (Int×Int×Int))(K0:Bool→(List (List (Int×Int×Int×Int)×List (List (Int×Int×Int×Int))))→Option R):Nat→(List (List (Int×Int×Int×Int)×List (List (Int×Int×Int×Int))))→Option R
  |0,_=>none
  |n+1,l12=>
    (bif decide ((ilen l12)<5)then
 (bif room ((Xa l12)+(Xa ([(([]:List (Int×Int×Int×Int)),([]:List (List (Int×Int×Int×Int))))])))then
 (Zf3 N b7 b9 l10 l11 l13 K0 n (Xe l12 ([(([]:List (Int×Int×Int×Int)),([]:List (List (Int×Int×Int×Int))))])))else none)
 else
 (K0 (decide ((ilen l12)<5)) l12))
def Zf4{R:Type}(N:Nat)(b20:Int)(l21:List Int)(l22:List Int)(l23:List (List (Int×Int×Int×Int)×List (List (Int×Int×Int×Int))))(K0:Bool→(List Int×Int×Int)→(List (Int×Int×Int))→Option R):Nat→(List Int×Int×Int)→(List (Int×Int×Int))→Option R
  |0,_,_=>none
  |n+1,b18,l24=>
    ((Zb N b18 2).bind λo30=>
 (bif decide ((ilen l24)<(iadd .i64 400 o30.2.1))then
 (bif room ((Xa l24)+(Xa ([((1:Int),((0:Int),(0:Int)))])))then
 (Zf4 N b20 l21 l22 l23 K0 n o30.1.1 (Xe l24 ([(1,(0,0))])))else none)
 else
 (K0 (decide ((ilen l24)<(iadd .i64 400 o30.2.1))) o30.1.1 l24)))
def Zge(N:Nat)(c1:List Int×Int×Int)(most2:Int):Option (((List Int×Int×Int)×Unit)×(((List Int×List Int×Int)×List (List (Int×Int×Int×Int)×List (List (Int×Int×Int×Int)))×List (Int×Int×Int))×Unit)):=
    ((Zcx N c1 0 most2).bind λo3=>
 ((Zb N o3.1.1 30).bind λo4=>
 (bif o4.2.1==0 then
 ((Zif N o4.1.1).bind λo5=>
 (some ((o5.1.1,()),((o5.2.1,o3.2.1.2),()))))
 else
 (bif o4.2.1==1 then
 ((Zjn N o4.1.1).bind λo6=>
 (bif inb 0 (Xa o3.2.1.2.1)then
 (some ((o6.1.1,()),((o3.2.1.1,(Xl o3.2.1.2.1 (Xb 0) o6.2.1,o3.2.1.2.2)),())))else none))
 else
 (bif o4.2.1==2 then
 (Zf3 N o4.1.1 o3.2.1.1.2.2 o3.2.1.1.1 o3.2.1.1.2.1 o3.2.1.2.2
 (λt16 l17=>
   (some ((o4.1.1,()),((o3.2.1.1,(l17,o3.2.1.2.2)),()))))
  N o3.2.1.2.1)
 else
 (bif o4.2.1==3 then
 (bif room ((Xa o3.2.1.2.2)+(Xa ([((4:Int),((0:Int),(0:Int))),((1:Int),((4:Int),(0:Int))),((2:Int),((0:Int),(3:Int))),((2:Int),((0:Int),(-1:Int))),((3:Int),((-1:Int),(0:Int)))])))then
 (some ((o4.1.1,()),((o3.2.1.1,(o3.2.1.2.1,Xe o3.2.1.2.2 ([(4,(0,0)),(1,(4,0)),(2,(0,3)),(2,(0,(-1:Int))),(3,((-1:Int),0))]))),())))else none)
 else
 (bif o4.2.1==4 then
 (Zf4 N o3.2.1.1.2.2 o3.2.1.1.1 o3.2.1.1.2.1 o3.2.1.2.1
 (λt31 b32 l33=>
   (some ((b32,()),((o3.2.1.1,(o3.2.1.2.1,l33)),()))))
  N o4.1.1 o3.2.1.2.2)
 else
 (some ((o4.1.1,()),(o3.2.1,()))))))))))
def Zkw(N:Nat)(code1:List Int):Option (Unit×(((List Int×List Int×Int)×List (List (Int×Int×Int×Int)×List (List (Int×Int×Int×Int)))×List (Int×Int×Int))×Unit)):=
    ((Zgz N code1).bind λo2=>
 ((Zmx N code1 200).bind λo3=>
 ((Zge N o2.2.1 (iadd .i64 60 o3.2.1)).bind λo4=>
 (some ((),(o4.2.1,()))))))
def Zbr{R:Type}(N:Nat)(b5:List Int×List Int×Int)(K0:Option R)(K1:Int→Bool→Option R):Nat→Int→Option R
  |0,_=>none
  |n+1,i4=>
    (bif decide (i4<(ilen b5.2.1))then
 (bif inb i4 (Xa b5.2.1)then
 ((Zah N (Xd b5.2.1 (Xb i4) 0) 0 65536).bind λo9=>
 (bif !o9.2.1 then
 K0
 else
 (Zbr N b5 K0 K1 n (iadd .i64 i4 1))))else none)
 else
 (K1 i4 (decide (i4<(ilen b5.2.1)))))
def Zdk(N:Nat)(s1:List Int×List Int×Int):Option (Unit×(Bool×Unit)):=
    ((Zgb N s1.1).bind λo2=>
 (bif !o2.2.1 then
 (some ((),(false,())))
 else
 (bif (ilen s1.2.1) !=8 then
 (some ((),(false,())))
 else
 ((Zfl N s1.2.2).bind λo3=>
 (bif !o3.2.1 then
 (some ((),(false,())))
 else
 (Zbr N s1
 (some ((),(false,())))
 (λi10 t11=>
   (some ((),(true,()))))
  N 0))))))
def Zci{R:Type}(N:Nat)(b5:List (Int×Int×Int×Int)×List (List (Int×Int×Int×Int)))(K0:Option R)(K1:Int→Bool→Option R):Nat→Int→Option R
  |0,_=>none
  |n+1,i4=>
    (bif decide (i4<(ilen b5.2))then
 (bif inb i4 (Xa b5.2)then
 ((Zfm N (Xd b5.2 (Xb i4) ([]:List (Int×Int×Int×Int)))).bind λo9=>
 (bif !o9.2.1 then
 K0
 else
 (Zci N b5 K0 K1 n (iadd .i64 i4 1))))else none)
 else
 (K1 i4 (decide (i4<(ilen b5.2)))))
def Zd5(N:Nat)(p1:List (Int×Int×Int×Int)×List (List (Int×Int×Int×Int))):Option (Unit×(Bool×Unit)):=
    ((Zd2 N p1.1).bind λo2=>
 (bif !o2.2.1 then
 (some ((),(false,())))
 else
 (bif decide ((ilen p1.2)>3)then
 (some ((),(false,())))
 else
 ((Zc5 N p1.1).bind λo3=>
 (bif !(beq o3.2.1 (decide ((ilen p1.2)>0)))then
 (some ((),(false,())))
 else
 (Zci N p1
 (some ((),(false,())))
 (λi10 t11=>
   (some ((),(true,()))))
  N 0))))))
def Zbs{R:Type}(N:Nat)(b4:(List Int×List Int×Int)×List (List (Int×Int×Int×Int)×List (List (Int×Int×Int×Int)))×List (Int×Int×Int))(K0:Option R)(K1:Int→Bool→Option R):Nat→Int→Option R
  |0,_=>none
  |n+1,i3=>
    (bif decide (i3<(ilen b4.2.1))then
 (bif inb i3 (Xa b4.2.1)then
 ((Zd5 N (Xd b4.2.1 (Xb i3) (([]:List (Int×Int×Int×Int)),([]:List (List (Int×Int×Int×Int)))))).bind λo8=>
 (bif !o8.2.1 then
 K0
 else
 (Zbs N b4 K0 K1 n (iadd .i64 i3 1))))else none)
 else
 (K1 i3 (decide (i3<(ilen b4.2.1)))))
def Zdl(N:Nat)(s1:(List Int×List Int×Int)×List (List (Int×Int×Int×Int)×List (List (Int×Int×Int×Int)))×List (Int×Int×Int)):Option (Unit×(Bool×Unit)):=
    ((Zdk N s1.1).bind λo2=>
 (bif !o2.2.1 then
 (some ((),(false,())))
 else
 (bif decide ((ilen s1.2.1)>4)then
 (some ((),(false,())))
 else
 (bif decide ((ilen s1.2.2)>400)then
 (some ((),(false,())))
 else
 (Zbs N s1
 (some ((),(false,())))
 (λi9 t10=>
   (some ((),(true,()))))
  N 0)))))
def Zem{R:Type}(N:Nat)(l2:List Int)(K0:Option R)(K1:Int→Bool→Option R):Nat→Int→Option R
  |0,_=>none
  |n+1,t5=>
    (bif decide (t5<(ilen l2))then
 (bif inb t5 (Xa l2)then
 ((Zq N (Xd l2 (Xb t5) 0) 0 65536).bind λo10=>
 (bif !o10.2.1 then
 K0
 else
 (Zem N l2 K0 K1 n (iadd .i64 t5 1))))else none)
 else
 (K1 t5 (decide (t5<(ilen l2)))))
def Zfr(N:Nat)(l1:List Int):Option (Unit×(Bool×Unit)):=
    (Zem N l1
 (some ((),(false,())))
 (λt11 t12=>
   (some ((),((ilen l1)==8,()))))
  N 0)
def Zkx(N:Nat)(s1:List Int×List Int×Int):Option (Unit×(Bool×Unit)):=
    ((Z9 N s1.1 8).bind λo2=>
 (bif o2.2.1 then
 ((Zfr N s1.2.1).bind λo3=>
 (bif o3.2.1 then
 ((Zax N s1.2.2).bind λo4=>
 (some ((),(o4.2.1,()))))
 else
 (some ((),(false,())))))
 else
 (some ((),(false,())))))
def Zm7(N:Nat)(o1:Int×Int×Int×Int):Option (Unit×(Bool×Unit)):=
    (some ((),(o1.1==11,())))
def Zp{R:Type}(N:Nat)(s2:List (Int×Int×Int×Int))(K0:Int→Option R)(K1:Int→Bool→Option R):Nat→Int→Option R
  |0,_=>none
  |n+1,t4=>
    (bif decide (t4<(ilen s2))then
 (bif inb t4 (Xa s2)then
 ((Zm7 N (Xd s2 (Xb t4) (0,0,0,0))).bind λo10=>
 (bif o10.2.1 then
 (K0 t4)
 else
 (Zp N s2 K0 K1 n (iadd .i64 t4 1))))else none)
 else
 (K1 t4 (decide (t4<(ilen s2)))))
def Zs(N:Nat)(s1:List (Int×Int×Int×Int)):Option (Unit×(Int×Unit)):=
    (Zp N s1
 (λt11=>
   (some ((),(t11,()))))
 (λt12 t13=>
   (some ((),((-1:Int),()))))
  N 0)
def Zay(N:Nat)(s1:List (Int×Int×Int×Int)):Option (Unit×(Bool×Unit)):=
    ((Zs N s1).bind λo2=>
 (some ((),(decide (o2.2.1≥0),()))))
def Zhk(N:Nat)(code1:List (Int×Int×Int×Int)):Option (Unit×(Bool×Unit)):=
    ((Zay N code1).bind λo2=>
 (some ((),(o2.2.1,()))))
def Zdf{R:Type}(N:Nat)(t2:List (List (Int×Int×Int×Int)))(b5:List (Int×Int×Int×Int)×List (List (Int×Int×Int×Int)))(K0:Option R)(K1:Int→Bool→Option R):Nat→Int→Option R
  |0,_=>none
  |n+1,t4=>
    (bif decide (t4<(ilen b5.2))then
 (bif inb t4 (Xa t2)then
 ((Zfo N (Xd t2 (Xb t4) ([]:List (Int×Int×Int×Int)))).bind λo10=>
 (bif !o10.2.1 then
 K0
 else
 (Zdf N t2 b5 K0 K1 n (iadd .i64 t4 1))))else none)
 else
 (K1 t4 (decide (t4<(ilen b5.2)))))
def Zgf(N:Nat)(p1:List (Int×Int×Int×Int)×List (List (Int×Int×Int×Int))):Option (Unit×(Bool×Unit)):=
    (Zdf N p1.2 p1
 (some ((),(false,())))
 (λt11 t12=>
   ((Zby N p1.1).bind λo13=>
 (bif o13.2.1 then
 (bif decide ((ilen p1.2)≤3)then
 ((Zhk N p1.1).bind λo14=>
 (some ((),(beq o14.2.1 (decide ((ilen p1.2)>0)),()))))
 else
 (some ((),(false,()))))
 else
 (some ((),(false,()))))))
  N 0)
def Ziv(N:Nat)(p1:List (Int×Int×Int×Int)×List (List (Int×Int×Int×Int))):Option (Unit×(Bool×Unit)):=
    ((Zgf N p1).bind λo2=>
 (some ((),(!o2.2.1,()))))
def Zf{R:Type}(N:Nat)(s2:List (List (Int×Int×Int×Int)×List (List (Int×Int×Int×Int))))(K0:Int→Option R)(K1:Int→Bool→Option R):Nat→Int→Option R
  |0,_=>none
  |n+1,t4=>
    (bif decide (t4<(ilen s2))then
 (bif inb t4 (Xa s2)then
 ((Ziv N (Xd s2 (Xb t4) (([]:List (Int×Int×Int×Int)),([]:List (List (Int×Int×Int×Int)))))).bind λo10=>
 (bif o10.2.1 then
 (K0 t4)
 else
 (Zf N s2 K0 K1 n (iadd .i64 t4 1))))else none)
 else
 (K1 t4 (decide (t4<(ilen s2)))))
def Zn(N:Nat)(s1:List (List (Int×Int×Int×Int)×List (List (Int×Int×Int×Int)))):Option (Unit×(Int×Unit)):=
    (Zf N s1
 (λt11=>
   (some ((),(t11,()))))
 (λt12 t13=>
   (some ((),((-1:Int),()))))
  N 0)
def Zao(N:Nat)(s1:List (List (Int×Int×Int×Int)×List (List (Int×Int×Int×Int)))):Option (Unit×(Bool×Unit)):=
    ((Zn N s1).bind λo2=>
 (some ((),(decide (o2.2.1≥0),()))))
def Zky(N:Nat)(s1:(List Int×List Int×Int)×List (List (Int×Int×Int×Int)×List (List (Int×Int×Int×Int)))×List (Int×Int×Int)):Option (Unit×(Bool×Unit)):=
    ((Zkx N s1.1).bind λo2=>
 (bif o2.2.1 then
 (bif decide ((ilen s1.2.1)≤4)then
 (bif decide ((ilen s1.2.2)≤400)then
 ((Zao N s1.2.1).bind λo3=>
 (some ((),(!o3.2.1,()))))
 else
 (some ((),(false,()))))
 else
 (some ((),(false,()))))
 else
 (some ((),(false,())))))
def Zot(N:Nat):Option (Unit×((List Int)×Unit)):=
    (bif ((decide ((0:Int)≤16))&&(decide ((16:Int)≤16)))&&(room (Xb 16))then
 (some ((),(Xu (Xb 16) 0,())))else none)
def Zia(N:Nat)(key1:Int)(v2:Int):Option (Unit×(Int×Unit)):=
    (some ((),(iadd .i64 (iadd .i64 1 (imul .i64 65536 key1)) v2,())))
def Zhq(N:Nat)(slot1:Int):Option (Unit×(Int×Unit)):=
    (bif inz 65536 then
 (some ((),(iquo .i64 (isub .i64 slot1 1) 65536,())))else none)
def Zig(N:Nat)(key1:Int):Option (Unit×(Int×Unit)):=
    ((Za2 N key1).bind λo2=>
 (bif !o2.2.1 then
 (some ((),((-1:Int),())))
 else
 (bif inz 4 then
 (some ((),(irem (iadd .i64 (imul .i64 7 key1) 3) 4,())))else none)))
def Zb6{R:Type}(N:Nat)(t2:List Int)(K0:Option R)(K1:Int→Bool→(List Bool)→Option R):Nat→Int→(List Bool)→Option R
  |0,_,_=>none
  |n+1,t4,l5=>
    (bif decide (t4<(ilen t2))then
 (bif inb t4 (Xa t2)then
 (bif (Xd t2 (Xb t4) 0)==0 then
 (Zb6 N t2 K0 K1 n (iadd .i64 t4 1) l5)
 else
 ((Zia N 7 65535).bind λo21=>
 ((Zq N (Xd t2 (Xb t4) 0) 1 o21.2.1).bind λo22=>
 (bif !o22.2.1 then
 K0
 else
 ((Zhq N (Xd t2 (Xb t4) 0)).bind λo23=>
 ((Zig N o23.2.1).bind λo24=>
 (bif inz 4 then
 (bif o24.2.1 !=(iquo .i64 t4 4)then
 K0
 else
 ((Zhq N (Xd t2 (Xb t4) 0)).bind λo25=>
 (bif (inb o25.2.1 8)&&(decide ((Xa l5)=8))then
 (bif Xd l5 (Xb o25.2.1) false then
 K0
 else
 ((Zhq N (Xd t2 (Xb t4) 0)).bind λo26=>
 (bif (inb o26.2.1 8)&&(decide ((Xa l5)=8))then
 (Zb6 N t2 K0 K1 n (iadd .i64 t4 1) (Xl l5 (Xb o26.2.1) true))else none)))else none)))else none)))))))else none)
 else
 (K1 t4 (decide (t4<(ilen t2))) l5))
def Zb2(N:Nat)(l1:List Int):Option (Unit×(Bool×Unit)):=
    (bif (ilen l1) !=16 then
 (some ((),(false,())))
 else
 (Zb6 N l1
 (some ((),(false,())))
 (λt27 t28 l29=>
   (some ((),(true,()))))
  N 0 (Xu 8 false)))
def Zdm{R:Type}(N:Nat)(key3:Int)(t4:List Int)(K0:Int→Option R)(K1:Int→Bool→Option R):Nat→Int→Option R
  |0,_=>none
  |n+1,t6=>
    (bif decide (t6<(ilen t4))then
 (bif inb t6 (Xa t4)then
 (bif decide ((Xd t4 (Xb t6) 0)>0)then
 ((Zhq N (Xd t4 (Xb t6) 0)).bind λo12=>
 (bif o12.2.1==key3 then
 (K0 t6)
 else
 (Zdm N key3 t4 K0 K1 n (iadd .i64 t6 1))))
 else
 (Zdm N key3 t4 K0 K1 n (iadd .i64 t6 1)))else none)
 else
 (K1 t6 (decide (t6<(ilen t4)))))
def Zdu(N:Nat)(l1:List Int)(key2:Int):Option (Unit×(Int×Unit)):=
    (Zdm N key2 l1
 (λt13=>
   (some ((),(t13,()))))
 (λt14 t15=>
   (some ((),((-1:Int),()))))
  N 0)
def Zhl(N:Nat)(l1:List Int)(key2:Int):Option (Unit×(Int×(Bool×Unit))):=
    ((Zb2 N l1).bind λo3=>
 (bif !o3.2.1 then
 (some ((),(0,(false,()))))
 else
 ((Za2 N key2).bind λo4=>
 (bif !o4.2.1 then
 (some ((),(0,(false,()))))
 else
 ((Zdu N l1 key2).bind λo5=>
 (bif decide (o5.2.1<0)then
 (some ((),(0,(false,()))))
 else
 ((Zdu N l1 key2).bind λo6=>
 (bif inb o6.2.1 (Xa l1)then
 (bif inz 65536 then
 (some ((),(irem (isub .i64 (Xd l1 (Xb o6.2.1) 0) 1) 65536,(true,()))))else none)else none))))))))
def Zcy{R:Type}(N:Nat)(key12:Int)(v13:Int)(l15:List Int)(K0:Int→Bool→Option R):Nat→Int→Option R
  |0,_=>none
  |n+1,at14=>
    (bif inb at14 (Xa l15)then
 (bif (Xd l15 (Xb at14) 0) !=0 then
 (Zcy N key12 v13 l15 K0 n (iadd .i64 at14 1))
 else
 (K0 at14 ((Xd l15 (Xb at14) 0) !=0)))else none)
def Zcf(N:Nat)(l1:List Int)(key2:Int)(v3:Int):Option (Unit×((List Int)×(Int×(Bool×Unit)))):=
    ((Zx N l1).bind λo4=>
 ((Zb2 N l1).bind λo5=>
 (bif !o5.2.1 then
 (some ((),(o4.2.1,(0,(false,())))))
 else
 ((Za2 N key2).bind λo6=>
 (bif !o6.2.1 then
 (some ((),(o4.2.1,(0,(false,())))))
 else
 ((Zax N v3).bind λo7=>
 (bif !o7.2.1 then
 (some ((),(o4.2.1,(0,(false,())))))
 else
 ((Zdu N l1 key2).bind λo8=>
 (bif decide (o8.2.1≥0)then
 ((Zhl N l1 key2).bind λo9=>
 ((Zia N key2 v3).bind λo10=>
 (bif inb o8.2.1 (Xa o4.2.1)then
 (some ((),(Xl o4.2.1 (Xb o8.2.1) o10.2.1,(iadd .i64 o9.2.1 1,(true,())))))else none)))
 else
 ((Zig N key2).bind λo11=>
 (Zcy N key2 v3 o4.2.1
 (λat18 t19=>
   ((Zia N key2 v3).bind λo20=>
 (bif inb at18 (Xa o4.2.1)then
 (some ((),(Xl o4.2.1 (Xb at18) o20.2.1,(0,(true,())))))else none)))
  N (imul .i64 4 o11.2.1))))))))))))
def Zbj{R:Type}(N:Nat)(t4:List Int)(K0:Int→Bool→(List Int)→Option R):Nat→Int→(List Int)→Option R
  |0,_,_=>none
  |n+1,t6,l7=>
    (bif decide (t6<(ilen t4))then
 (bif inb t6 (Xa t4)then
 (bif decide ((Xd t4 (Xb t6) 0)>0)then
 ((Zcf N l7 t6 (isub .i64 (Xd t4 (Xb t6) 0) 1)).bind λo13=>
 (Zbj N t4 K0 n (iadd .i64 t6 1) o13.2.1))
 else
 (Zbj N t4 K0 n (iadd .i64 t6 1) l7))else none)
 else
 (K0 t6 (decide (t6<(ilen t4))) l7))
def Zaz(N:Nat)(m1:List Int):Option (Unit×((List Int)×Unit)):=
    ((Zfr N m1).bind λo2=>
 (bif !o2.2.1 then
 (some ((),(([]:List Int),())))
 else
 ((Zot N).bind λo3=>
 (Zbj N m1
 (λt14 t15 l16=>
   (some ((),(l16,()))))
  N 0 o3.2.1))))
def Zba(N:Nat)(r1:Y_Root):Option ((Y_Root×Unit)×Unit):=
    (some (((6,(r1.2.1,(0,(0,(0,(0,(0,(0,(0,(0,(0,(false,(([]:List Int),(([]:List (Int×Int)),(([]:List (Int×Int)),(([]:List (Int×Int×Int×Int×List Int)),(r1.2.2.2.2.2.2.2.2.2.2.2.2.2.2.2.2.1,(([]:List Int),(false,((0,0,0,0),((0,(0,(0,(0,(0,(([]:List (Int×Int)),([]:List Int))))))),d_Family))))))))))))))))))))),()),()))
def Zav{R:Type}(N:Nat)(k3:Int)(r4:Nat)(t6:Int)(b8:Int)(b9:Int)(b10:Int)(b11:Int)(l12:List Y_Root)(l13:List (Int×Int×Int))(l14:List Int)(l15:List (Int×Int×Int))(l16:List (Int×Int×List (Int×Int)))(K0:Bool→Int→Bool→Option R):Nat→Bool→Int→Option R
  |0,_,_=>none
  |n+1,alone5,t7=>
    (bif decide (t7<t6)then
 (bif inb t7 (Xa l12)then
 (bif alone5 then
 (bif t7==k3 then
 (Zav N k3 r4 t6 b8 b9 b10 b11 l12 l13 l14 l15 l16 K0 n true (iadd .i64 t7 1))
 else
 (bif (Xd l12 (Xb t7) d_Root).1==0 then
 (Zav N k3 r4 t6 b8 b9 b10 b11 l12 l13 l14 l15 l16 K0 n true (iadd .i64 t7 1))
 else
 (Zav N k3 r4 t6 b8 b9 b10 b11 l12 l13 l14 l15 l16 K0 n ((Xd l12 (Xb t7) d_Root).1==8) (iadd .i64 t7 1))))
 else
 (Zav N k3 r4 t6 b8 b9 b10 b11 l12 l13 l14 l15 l16 K0 n false (iadd .i64 t7 1)))else none)
 else
 (K0 alone5 t7 (decide (t7<t6))))
def Zcj(N:Nat)(w1:Y_World)(k2:Int):Option ((Y_World×Unit)×Unit):=
    (bif inb k2 (Xa (P5 w1))then
 (Zav N k2 (Xb k2) (ilen (P5 w1)) w1.1 w1.2.1 w1.2.2.1.1 w1.2.2.2.1.2 (P5 w1) w1.2.2.1.2 w1.2.2.2.1.1 (P4 w1) (Q6 w1)
 (λalone20 t21 t22=>
   (bif w1.2.1 !=0 then
 (bif w1.2.1 !=(iadd .i64 k2 1)then
 (some ((w1,()),()))
 else
 (bif decide ((Xd (P5 w1) (Xb k2) d_Root).2.1≥3)then
 (bif w1.2.1==0 then
 (some (((w1.1,(iadd .i64 k2 1,w1.2.2)),()),()))
 else
 (bif w1.2.1==(iadd .i64 k2 1)then
 (bif !alone20 then
 (some ((w1,()),()))
 else
 (bif ((decide ((0:Int)≤4))&&(decide ((4:Int)≤4)))&&(room (Xb 4))then
 (some (((S5 (Xl (P5 w1) (Xb k2) (1,((Xd (P5 w1) (Xb k2) d_Root).2.1,(0,(0,(w1.2.2.1.1,(0,(0,(0,(0,(w1.1,(0,(false,(Xu (Xb 4) 0,(([]:List (Int×Int)),(([]:List (Int×Int)),(([]:List (Int×Int×Int×Int×List Int)),(([]:List (Int×Int×Int)),(([]:List Int),(false,((0,0,0,0),((0,(0,(0,(0,(0,(([]:List (Int×Int)),([]:List Int))))))),d_Family)))))))))))))))))))))) w1),()),()))else none))
 else
 (bif ((decide ((0:Int)≤4))&&(decide ((4:Int)≤4)))&&(room (Xb 4))then
 (some (((S5 (Xl (P5 w1) (Xb k2) (1,((Xd (P5 w1) (Xb k2) d_Root).2.1,(0,(0,(w1.2.2.1.1,(0,(0,(0,(0,(w1.1,(0,(false,(Xu (Xb 4) 0,(([]:List (Int×Int)),(([]:List (Int×Int)),(([]:List (Int×Int×Int×Int×List Int)),(([]:List (Int×Int×Int)),(([]:List Int),(false,((0,0,0,0),((0,(0,(0,(0,(0,(([]:List (Int×Int)),([]:List Int))))))),d_Family)))))))))))))))))))))) w1),()),()))else none)))
 else
 (bif w1.2.1==(iadd .i64 k2 1)then
 (bif !alone20 then
 (some ((w1,()),()))
 else
 (bif ((decide ((0:Int)≤4))&&(decide ((4:Int)≤4)))&&(room (Xb 4))then
 (some (((S5 (Xl (P5 w1) (Xb k2) (1,((Xd (P5 w1) (Xb k2) d_Root).2.1,(0,(0,(w1.2.2.1.1,(0,(0,(0,(0,(w1.1,(0,(false,(Xu (Xb 4) 0,(([]:List (Int×Int)),(([]:List (Int×Int)),(([]:List (Int×Int×Int×Int×List Int)),(([]:List (Int×Int×Int)),(([]:List Int),(false,((0,0,0,0),((0,(0,(0,(0,(0,(([]:List (Int×Int)),([]:List Int))))))),d_Family)))))))))))))))))))))) w1),()),()))else none))
 else
 (bif ((decide ((0:Int)≤4))&&(decide ((4:Int)≤4)))&&(room (Xb 4))then
 (some (((S5 (Xl (P5 w1) (Xb k2) (1,((Xd (P5 w1) (Xb k2) d_Root).2.1,(0,(0,(w1.2.2.1.1,(0,(0,(0,(0,(w1.1,(0,(false,(Xu (Xb 4) 0,(([]:List (Int×Int)),(([]:List (Int×Int)),(([]:List (Int×Int×Int×Int×List Int)),(([]:List (Int×Int×Int)),(([]:List Int),(false,((0,0,0,0),((0,(0,(0,(0,(0,(([]:List (Int×Int)),([]:List Int))))))),d_Family)))))))))))))))))))))) w1),()),()))else none))))
 else
 (bif decide ((Xd (P5 w1) (Xb k2) d_Root).2.1≥3)then
 (bif w1.2.1==0 then
 (some (((w1.1,(iadd .i64 k2 1,w1.2.2)),()),()))
 else
 (bif w1.2.1==(iadd .i64 k2 1)then
 (bif !alone20 then
 (some ((w1,()),()))
 else
 (bif ((decide ((0:Int)≤4))&&(decide ((4:Int)≤4)))&&(room (Xb 4))then
 (some (((S5 (Xl (P5 w1) (Xb k2) (1,((Xd (P5 w1) (Xb k2) d_Root).2.1,(0,(0,(w1.2.2.1.1,(0,(0,(0,(0,(w1.1,(0,(false,(Xu (Xb 4) 0,(([]:List (Int×Int)),(([]:List (Int×Int)),(([]:List (Int×Int×Int×Int×List Int)),(([]:List (Int×Int×Int)),(([]:List Int),(false,((0,0,0,0),((0,(0,(0,(0,(0,(([]:List (Int×Int)),([]:List Int))))))),d_Family)))))))))))))))))))))) w1),()),()))else none))
 else
 (bif ((decide ((0:Int)≤4))&&(decide ((4:Int)≤4)))&&(room (Xb 4))then
 (some (((S5 (Xl (P5 w1) (Xb k2) (1,((Xd (P5 w1) (Xb k2) d_Root).2.1,(0,(0,(w1.2.2.1.1,(0,(0,(0,(0,(w1.1,(0,(false,(Xu (Xb 4) 0,(([]:List (Int×Int)),(([]:List (Int×Int)),(([]:List (Int×Int×Int×Int×List Int)),(([]:List (Int×Int×Int)),(([]:List Int),(false,((0,0,0,0),((0,(0,(0,(0,(0,(([]:List (Int×Int)),([]:List Int))))))),d_Family)))))))))))))))))))))) w1),()),()))else none)))
 else
 (bif w1.2.1==(iadd .i64 k2 1)then
 (bif !alone20 then
 (some ((w1,()),()))
 else
 (bif ((decide ((0:Int)≤4))&&(decide ((4:Int)≤4)))&&(room (Xb 4))then
 (some (((S5 (Xl (P5 w1) (Xb k2) (1,((Xd (P5 w1) (Xb k2) d_Root).2.1,(0,(0,(w1.2.2.1.1,(0,(0,(0,(0,(w1.1,(0,(false,(Xu (Xb 4) 0,(([]:List (Int×Int)),(([]:List (Int×Int)),(([]:List (Int×Int×Int×Int×List Int)),(([]:List (Int×Int×Int)),(([]:List Int),(false,((0,0,0,0),((0,(0,(0,(0,(0,(([]:List (Int×Int)),([]:List Int))))))),d_Family)))))))))))))))))))))) w1),()),()))else none))
 else
 (bif ((decide ((0:Int)≤4))&&(decide ((4:Int)≤4)))&&(room (Xb 4))then
 (some (((S5 (Xl (P5 w1) (Xb k2) (1,((Xd (P5 w1) (Xb k2) d_Root).2.1,(0,(0,(w1.2.2.1.1,(0,(0,(0,(0,(w1.1,(0,(false,(Xu (Xb 4) 0,(([]:List (Int×Int)),(([]:List (Int×Int)),(([]:List (Int×Int×Int×Int×List Int)),(([]:List (Int×Int×Int)),(([]:List Int),(false,((0,0,0,0),((0,(0,(0,(0,(0,(([]:List (Int×Int)),([]:List Int))))))),d_Family)))))))))))))))))))))) w1),()),()))else none)))))
  N true 0)else none)
def Zib(N:Nat)(who1:Int)(what2:Int)(mode3:Int):Option (Unit×(Bool×Unit)):=
    ((Zq N who1 1 9).bind λo4=>
 (bif o4.2.1 then
 ((Zq N what2 0 8).bind λo5=>
 (bif o5.2.1 then
 ((Zq N mode3 1 2).bind λo6=>
 (some ((),(o6.2.1,()))))
 else
 (some ((),(false,())))))
 else
 (some ((),(false,())))))
def Zh2(N:Nat)(a1:Int×Int×Int)(b2:Int×Int×Int):Option (Unit×(Int×Unit)):=
    (bif a1.2.1 !=b2.2.1 then
 (some ((),(isub .i64 a1.2.1 b2.2.1,())))
 else
 (some ((),(isub .i64 a1.1 b2.1,()))))
def Zas{R:Type}(N:Nat)(l2:List (Int×Int×Int))(K0:Option R)(K1:Int→Bool→Option R):Nat→Int→Option R
  |0,_=>none
  |n+1,t5=>
    (bif decide (t5<(ilen l2))then
 (bif inb t5 (Xa l2)then
 ((Zib N (Xd l2 (Xb t5) (0,0,0)).1 (Xd l2 (Xb t5) (0,0,0)).2.1 (Xd l2 (Xb t5) (0,0,0)).2.2).bind λo12=>
 (bif !o12.2.1 then
 K0
 else
 (bif decide (t5>0)then
 (bif inb (isub .i64 t5 1) (Xa l2)then
 ((Zh2 N (Xd l2 (Xb (isub .i64 t5 1)) (0,0,0)) (Xd l2 (Xb t5) (0,0,0))).bind λo13=>
 (bif decide (o13.2.1≥0)then
 K0
 else
 (bif decide (t5>0)then
 (bif inb (isub .i64 t5 1) (Xa l2)then
 (bif (Xd l2 (Xb (isub .i64 t5 1)) (0,0,0)).2.1==(Xd l2 (Xb t5) (0,0,0)).2.1 then
 (bif (Xd l2 (Xb t5) (0,0,0)).2.2==2 then
 K0
 else
 (bif inb (isub .i64 t5 1) (Xa l2)then
 (bif (Xd l2 (Xb (isub .i64 t5 1)) (0,0,0)).2.2==2 then
 K0
 else
 (Zas N l2 K0 K1 n (iadd .i64 t5 1)))else none))
 else
 (Zas N l2 K0 K1 n (iadd .i64 t5 1)))else none)
 else
 (Zas N l2 K0 K1 n (iadd .i64 t5 1)))))else none)
 else
 (bif decide (t5>0)then
 (bif inb (isub .i64 t5 1) (Xa l2)then
 (bif (Xd l2 (Xb (isub .i64 t5 1)) (0,0,0)).2.1==(Xd l2 (Xb t5) (0,0,0)).2.1 then
 (bif (Xd l2 (Xb t5) (0,0,0)).2.2==2 then
 K0
 else
 (bif inb (isub .i64 t5 1) (Xa l2)then
 (bif (Xd l2 (Xb (isub .i64 t5 1)) (0,0,0)).2.2==2 then
 K0
 else
 (Zas N l2 K0 K1 n (iadd .i64 t5 1)))else none))
 else
 (Zas N l2 K0 K1 n (iadd .i64 t5 1)))else none)
 else
 (Zas N l2 K0 K1 n (iadd .i64 t5 1))))))else none)
 else
 (K1 t5 (decide (t5<(ilen l2)))))
def Zcg(N:Nat)(l1:List (Int×Int×Int)):Option (Unit×(Bool×Unit)):=
    (Zas N l1
 (some ((),(false,())))
 (λt14 t15=>
   (some ((),(true,()))))
  N 0)
def Zb7{R:Type}(N:Nat)(who4:Int)(t5:List (Int×Int×Int))(K0:Int→Bool→(List Int)→Option R):Nat→Int→(List Int)→Option R
  |0,_,_=>none
  |n+1,t7,l8=>
    (bif decide (t7<(ilen t5))then
 (bif inb t7 (Xa t5)then
 (bif (Xd t5 (Xb t7) (0,0,0)).1==who4 then
 (bif room ((Xa l8)+(Xa ([(Xd t5 (Xb t7) ((0:Int),((0:Int),(0:Int)))).2.1])))then
 (Zb7 N who4 t5 K0 n (iadd .i64 t7 1) (Xe l8 ([(Xd t5 (Xb t7) (0,0,0)).2.1])))else none)
 else
 (Zb7 N who4 t5 K0 n (iadd .i64 t7 1) l8))else none)
 else
 (K0 t7 (decide (t7<(ilen t5))) l8))
def Zc7(N:Nat)(l1:List (Int×Int×Int))(who2:Int):Option (Unit×((List Int)×Unit)):=
    ((Zcg N l1).bind λo3=>
 (bif !o3.2.1 then
 (some ((),(([]:List Int),())))
 else
 (Zb7 N who2 l1
 (λt12 t13 l14=>
   (some ((),(l14,()))))
  N 0 ([]:List Int))))
def Zgp(N:Nat)(w1:Y_World)(k2:Int):Option ((Y_World×Unit)×Unit):=
    (bif inb k2 (Xa (P5 w1))then
 (Wt (Xl (P5 w1) (Xb k2) (8,(S15 ([]:List (Int×Int×Int)) (S10 false (S9 w1.1 (Xd (P5 w1) (Xb k2) d_Root).2))))) λe9000=>
 (bif w1.2.1==(iadd .i64 k2 1)then
 (some (((S5 e9000 (S1 0 w1)),()),()))
 else
 (some (((S5 e9000 w1),()),()))))else none)
def Zew(N:Nat)(who1:Int):Option (Unit×(Bool×Unit)):=
    ((Zq N who1 1 99).bind λo2=>
 (some ((),(o2.2.1,()))))
def Zcz{R:Type}(N:Nat)(t3:Int)(l6:List (Int×Int))(K0:Int→Bool→(List Int)→Option R):Nat→Int→(List Int)→Option R
  |0,_,_=>none
  |n+1,t4,l5=>
    (bif decide (t4<t3)then
 (bif inb t4 (Xa l6)then
 (bif room ((Xa l5)+(Xa ([(Xd l6 (Xb t4) ((0:Int),(0:Int))).1])))then
 (Zcz N t3 l6 K0 n (iadd .i64 t4 1) (Xe l5 ([(Xd l6 (Xb t4) (0,0)).1])))else none)else none)
 else
 (K0 t4 (decide (t4<t3)) l5))
def Zex(N:Nat)(l1:List (Int×Int)):Option (Unit×((List Int)×Unit)):=
    ((Zd3 N l1).bind λo2=>
 (Zcz N (ilen o2.2.1) o2.2.1
 (λt10 t11 l12=>
   (some ((),(l12,()))))
  N 0 ([]:List Int)))
def Zen(N:Nat)(who1:Int)(rv2:Int)(puts3:List (Int×Int))(reads4:List (Int×Int)):Option (Unit×((Int×Int×Int×Int×Int×List (Int×Int)×List Int)×(Bool×Unit))):=
    ((Zew N who1).bind λo5=>
 (bif !o5.2.1 then
 (some ((),((0,(0,(0,(0,(0,(([]:List (Int×Int)),([]:List Int))))))),(false,()))))
 else
 ((Zq N rv2 0 1000000).bind λo6=>
 (bif !o6.2.1 then
 (some ((),((0,(0,(0,(0,(0,(([]:List (Int×Int)),([]:List Int))))))),(false,()))))
 else
 ((Zbz N puts3).bind λo7=>
 (bif !o7.2.1 then
 (some ((),((0,(0,(0,(0,(0,(([]:List (Int×Int)),([]:List Int))))))),(false,()))))
 else
 ((Zbz N reads4).bind λo8=>
 (bif !o8.2.1 then
 (some ((),((0,(0,(0,(0,(0,(([]:List (Int×Int)),([]:List Int))))))),(false,()))))
 else
 ((Zd3 N puts3).bind λo9=>
 ((Zex N reads4).bind λo10=>
 (bif (ilen o9.2.1)==0 then
 (some ((),((who1,(rv2,(2,(0,(0,(o9.2.1,o10.2.1)))))),(true,()))))
 else
 (some ((),((who1,(rv2,(1,(0,(0,(o9.2.1,o10.2.1)))))),(true,())))))))))))))))
def Zg0(N:Nat)(w1:Y_World)(k2:Int)(out3:Int):Option ((Y_World×Unit)×Unit):=
    (bif inb k2 (Xa (P5 w1))then
 (Wt (Xd (P5 w1) (Xb k2) d_Root) λe9000=>
 (Wt (((Zgp N (S5 (Xl (P5 w1) (Xb k2) (S8 (P4 e9000) (S7 out3 e9000))) w1) k2).bind λbq1=>
 (some ((bq1.1.1,()),()))):Option ((Y_World×Unit)×Unit)) λe9003=>
 (bif out3==2 then
 (Wt (((Zen N (iadd .i64 k2 1) (P4 e9000) ([]:List (Int×Int)) (P13 e9000)).bind λbq1=>
 (some (((S5 (Xl (P5 w1) (Xb k2) (S20 bq1.2.1 (S7 out3 (S0 5 e9000)))) w1),()),()))):Option ((Y_World×Unit)×Unit)) λe9002=>
 (bif 0==0 then
 ((Zc7 N (P4 w1) (iadd .i64 k2 1)).bind λbq2=>
 (bif (ilen bq2.2.1)==0 then
 e9003
 else
 e9002))
 else
 e9002))
 else
 (Wt (((Zen N (iadd .i64 k2 1) (P4 e9000) (P14 e9000) (P13 e9000)).bind λbq1=>
 (some (((S5 (Xl (P5 w1) (Xb k2) (S20 bq1.2.1 (S7 out3 (S0 5 e9000)))) w1),()),()))):Option ((Y_World×Unit)×Unit)) λe9001=>
 (bif (ilen (P14 e9000))==0 then
 ((Zc7 N (P4 w1) (iadd .i64 k2 1)).bind λbq2=>
 (bif (ilen bq2.2.1)==0 then
 e9003
 else
 e9001))
 else
 e9001)))))else none)
def Zc8(N:Nat)(r1:Y_Root):Option ((Y_Root×Unit)×Unit):=
    (bif (ilen (P15 r1))==0 then
 ((Zba N r1).bind λbq1=>
 (some ((bq1.1.1,()),())))
 else
 (bif r1.2.2.1==2 then
 ((Zba N r1).bind λbq1=>
 (some ((bq1.1.1,()),())))
 else
 (some (((S19 (0,0,0,0) (S18 false (S2 (iadd .i64 r1.2.2.1 1) (S0 3 r1)))),()),()))))
def Ziw(N:Nat)(w1:Y_World)(ix2:Nat)(o3:Int×Int×Int×Int):Option ((Y_World×Unit)×Unit):=
    (Wt (Xd (P5 w1) ix2 d_Root) λe9000=>
 ((Zfk N (P14 e9000) o3.2.2.1).bind λbq4=>
 (bif bq4.2.2.1 then
 (bif inb o3.2.1 (Xa (P12 e9000))then
 (some (((S5 (Xl (P5 w1) ix2 (S12 (Xl (P12 e9000) (Xb o3.2.1) bq4.2.1) (S3 (iadd .i64 e9000.2.2.2.1 1) e9000))) w1),()),()))else none)
 else
 (bif !(P18 e9000)then
 ((Zfp N o3.2.2.1).bind λbq3=>
 ((Zek N w1.2.2.1 (P4 e9000) bq3.2.1).bind λbq2=>
 (bif bq2.2.1.2.1==4 then
 ((Zc8 N (S19 bq2.2.1 (S18 true e9000))).bind λbq1=>
 (some (((S5 (Xl (P5 w1) ix2 bq1.1.1) w1),()),())))
 else
 (bif bq2.2.1.2.1==3 then
 (bif inb o3.2.1 (Xa (P12 e9000))then
 (bif room ((Xa (P13 e9000))+(Xa ([(o3.2.2.1,bq2.2.1.2.2.2)])))then
 (some (((S5 (Xl (P5 w1) ix2 (S19 (0,0,0,0) (S18 false (S13 (Xe (P13 e9000) ([(o3.2.2.1,bq2.2.1.2.2.2)])) (S12 (Xl (P12 e9000) (Xb o3.2.1) bq2.2.1.2.2.2) (S3 (iadd .i64 e9000.2.2.2.1 1) e9000)))))) w1),()),()))else none)else none)
 else
 (some (((S5 (Xl (P5 w1) ix2 (S19 bq2.2.1 (S18 true e9000))) w1),()),()))))))
 else
 ((Zek N w1.2.2.1 (P4 e9000) (P19 e9000)).bind λbq2=>
 (bif bq2.2.1.2.1==4 then
 ((Zc8 N (S19 bq2.2.1 e9000)).bind λbq1=>
 (some (((S5 (Xl (P5 w1) ix2 bq1.1.1) w1),()),())))
 else
 (bif bq2.2.1.2.1==3 then
 (bif inb o3.2.1 (Xa (P12 e9000))then
 (bif room ((Xa (P13 e9000))+(Xa ([(o3.2.2.1,bq2.2.1.2.2.2)])))then
 (some (((S5 (Xl (P5 w1) ix2 (S19 (0,0,0,0) (S18 false (S13 (Xe (P13 e9000) ([(o3.2.2.1,bq2.2.1.2.2.2)])) (S12 (Xl (P12 e9000) (Xb o3.2.1) bq2.2.1.2.2.2) (S3 (iadd .i64 e9000.2.2.2.1 1) e9000)))))) w1),()),()))else none)else none)
 else
 (some (((S5 (Xl (P5 w1) ix2 (S19 bq2.2.1 e9000)) w1),()),())))))))))
def Zhr(N:Nat)(r1:Y_Root):Option ((Y_Root×Unit)×((Int×Int×Int×Int×List Int)×Unit)):=
    (bif inb (isub .i64 (ilen r1.2.2.2.2.2.2.2.2.2.2.2.2.2.2.2.1) 1) (Xa r1.2.2.2.2.2.2.2.2.2.2.2.2.2.2.2.1)then
 (some ((r1,()),(Xd r1.2.2.2.2.2.2.2.2.2.2.2.2.2.2.2.1 (Xb (isub .i64 (ilen r1.2.2.2.2.2.2.2.2.2.2.2.2.2.2.2.1) 1)) (0,(0,(0,(0,([]:List Int))))),())))else none)
def Zhs(N:Nat)(s1:List Int×Int):Option (Unit×((List Int×Int)×Unit)):=
    ((Zx N s1.1).bind λo2=>
 (some ((),((o2.2.1,s1.2),()))))
def Zi9(N:Nat)(s1:List Int×Int):Option (Unit×(Bool×Unit)):=
    ((Zb2 N s1.1).bind λo2=>
 (bif o2.2.1 then
 ((Zax N s1.2).bind λo3=>
 (some ((),(o3.2.1,()))))
 else
 (some ((),(false,())))))
def Zmy(N:Nat)(u1:Int×Int×Int):Option (Unit×(Bool×Unit)):=
    (bif u1.1==0 then
 (bif u1.2.1==0 then
 (some ((),(u1.2.2==0,())))
 else
 (some ((),(false,()))))
 else
 (bif u1.1==1 then
 ((Za2 N u1.2.1).bind λo2=>
 (bif o2.2.1 then
 ((Zax N u1.2.2).bind λo3=>
 (some ((),(o3.2.1,()))))
 else
 (some ((),(false,())))))
 else
 (bif u1.1==2 then
 ((Za2 N u1.2.1).bind λo4=>
 (bif o4.2.1 then
 (some ((),(u1.2.2==0,())))
 else
 (some ((),(false,())))))
 else
 (bif u1.1==3 then
 (bif u1.2.1==0 then
 ((Zax N u1.2.2).bind λo5=>
 (some ((),(o5.2.1,()))))
 else
 (some ((),(false,()))))
 else
 (some ((),(false,())))))))
def Zih(N:Nat)(l1:List Int)(key2:Int):Option (Unit×((List Int)×(Int×(Bool×Unit)))):=
    ((Zx N l1).bind λo3=>
 ((Zb2 N l1).bind λo4=>
 (bif !o4.2.1 then
 (some ((),(o3.2.1,(0,(false,())))))
 else
 ((Za2 N key2).bind λo5=>
 (bif !o5.2.1 then
 (some ((),(o3.2.1,(0,(false,())))))
 else
 ((Zdu N l1 key2).bind λo6=>
 (bif decide (o6.2.1<0)then
 (some ((),(o3.2.1,(0,(true,())))))
 else
 ((Zhl N l1 key2).bind λo7=>
 (bif inb o6.2.1 (Xa o3.2.1)then
 (some ((),(Xl o3.2.1 (Xb o6.2.1) 0,(iadd .i64 o7.2.1 1,(true,())))))else none)))))))))
def Zl1(N:Nat)(s1:List Int×Int)(u2:Int×Int×Int):Option (Unit×((List Int×Int)×(Bool×Unit))):=
    ((Zhs N s1).bind λo3=>
 ((Zi9 N o3.2.1).bind λo4=>
 (bif !o4.2.1 then
 (some ((),(o3.2.1,(false,()))))
 else
 ((Zmy N u2).bind λo5=>
 (bif !o5.2.1 then
 (some ((),(o3.2.1,(false,()))))
 else
 (bif u2.1==1 then
 ((Zcf N o3.2.1.1 u2.2.1 u2.2.2).bind λo6=>
 (some ((),((o6.2.1,o3.2.1.2),(true,())))))
 else
 (bif u2.1==2 then
 ((Zih N o3.2.1.1 u2.2.1).bind λo7=>
 (some ((),((o7.2.1,o3.2.1.2),(true,())))))
 else
 (bif u2.1==3 then
 (bif inz 65536 then
 (some ((),((o3.2.1.1,irem (iadd .i64 (isub .i64 o3.2.1.2 u2.2.2) 65536) 65536),(true,()))))else none)
 else
 (some ((),(o3.2.1,(true,()))))))))))))
def Zck(N:Nat)(w1:Y_World)(ix2:Nat):Option ((Y_World×Unit)×Unit):=
    (Wt (isub .i64 (ilen (Xd (P5 w1) ix2 d_Root).2.2.2.2.2.2.2.2.2.2.2.2.2.2.2.2.1) 1) λe9000=>
 (bif inb e9000 (Xa (Xd (P5 w1) ix2 d_Root).2.2.2.2.2.2.2.2.2.2.2.2.2.2.2.2.1)then
 ((Zl1 N w1.2.2.2.1 (Xd (Xd (P5 w1) ix2 d_Root).2.2.2.2.2.2.2.2.2.2.2.2.2.2.2.2.1 (Xb e9000) (0,0,0))).bind λbq1=>
 (bif (decide ((0:Int)≤e9000))&&(decide (e9000≤((Xa (Xd (P5 w1) ix2 d_Root).2.2.2.2.2.2.2.2.2.2.2.2.2.2.2.2.1):Int)))then
 (some (((S5 (Xl (P5 w1) ix2 (S16 (Xar (Xb e9000) (Xd (P5 w1) ix2 d_Root).2.2.2.2.2.2.2.2.2.2.2.2.2.2.2.2.1) (Xd (P5 w1) ix2 d_Root))) (S3 bq1.2.1 w1)),()),()))else none))else none))
def Zii(N:Nat)(w1:Y_World)(k2:Int)(code3:List (Int×Int×Int×Int)):Option ((Y_World×Unit)×Unit):=
    (bif inb k2 (Xa (P5 w1))then
 (Wt (Xd (P5 w1) (Xb k2) d_Root) λe9001=>
 (bif (ilen (P15 e9001))==0 then
 ((Zg0 N (S5 (Xl (P5 w1) (Xb k2) e9001) w1) k2 2).bind λbq1=>
 (some ((bq1.1.1,()),())))
 else
 ((Zhr N e9001).bind λbq4=>
 (bif decide ((ilen (P16 bq4.1.1))>bq4.2.1.2.2.2.1)then
 ((Zck N (S5 (Xl (P5 w1) (Xb k2) bq4.1.1) w1) (Xb k2)).bind λbq1=>
 (some ((bq1.1.1,()),())))
 else
 (Wt (isub .i64 (ilen (P15 bq4.1.1)) 1) λe9000=>
 (bif (decide ((0:Int)≤e9000))&&(decide (e9000≤((Xa (P15 bq4.1.1)):Int)))then
 ((Zx N bq4.2.1.2.2.2.2).bind λbq3=>
 (bif inb bq4.2.1.1 (Xa code3)then
 (bif inb (Xd code3 (Xb bq4.2.1.1) (0,0,0,0)).2.1 (Xa bq3.2.1)then
 (bif (decide ((0:Int)≤bq4.2.1.2.2.1))&&(decide (bq4.2.1.2.2.1≤((Xa (P14 bq4.1.1)):Int)))then
 ((Zbh N (Xar (Xb bq4.2.1.2.2.1) (P14 bq4.1.1))).bind λbq2=>
 ((Zfq N code3 bq4.2.1.1).bind λbq1=>
 (some (((S5 (Xl (P5 w1) (Xb k2) (S15 (Xar (Xb e9000) (P15 bq4.1.1)) (S14 bq2.2.1 (S12 (Xl bq3.2.1 (Xb (Xd code3 (Xb bq4.2.1.1) (0,0,0,0)).2.1) 0) (S3 (iadd .i64 bq1.2.1 1) bq4.1.1))))) w1),()),()))))else none)else none)else none))else none))))))else none)
def Zjo(N:Nat)(o1:Int×Int×Int×Int):Option (Unit×(Int×(Int×Unit))):=
    ((Zr N o1).bind λo2=>
 (bif !o2.2.1 then
 (some ((),((-1:Int),(0,()))))
 else
 (bif o1.1==12 then
 (bif o1.1==12 then
 (some ((),(o1.2.1,(2,()))))
 else
 (bif o1.1==13 then
 (some ((),(o1.2.2.1,(1,()))))
 else
 (bif o1.1==15 then
 (some ((),(8,(1,()))))
 else
 (bif o1.1==16 then
 (some ((),(8,(2,()))))
 else
 (some ((),((-1:Int),(0,()))))))))
 else
 (bif o1.1==14 then
 (some ((),(o1.2.1,(2,()))))
 else
 (bif o1.1==13 then
 (some ((),(o1.2.2.1,(1,()))))
 else
 (bif o1.1==15 then
 (some ((),(8,(1,()))))
 else
 (bif o1.1==16 then
 (some ((),(8,(2,()))))
 else
 (some ((),((-1:Int),(0,())))))))))))
def Zeo(N:Nat)(l1:List (Int×Int×Int)):Option (Unit×((List (Int×Int×Int))×Unit)):=
    (bif room (Xa l1)then
 (some ((),(l1,())))else none)
def Za7{R:Type}(N:Nat)(who7:Int)(what8:Int)(mode9:Int)(t10:List (Int×Int×Int))(K0:Int→Bool→(List Int)→Option R):Nat→Int→(List Int)→Option R
  |0,_,_=>none
  |n+1,t12,l13=>
    (bif decide (t12<(ilen t10))then
 (bif inb t12 (Xa t10)then
 (bif (Xd t10 (Xb t12) (0,0,0)).2.1==what8 then
 (bif (Xd t10 (Xb t12) (0,0,0)).1 !=who7 then
 (bif mode9==2 then
 (bif room ((Xa l13)+(Xa ([(Xd t10 (Xb t12) ((0:Int),((0:Int),(0:Int)))).1])))then
 (Za7 N who7 what8 mode9 t10 K0 n (iadd .i64 t12 1) (Xe l13 ([(Xd t10 (Xb t12) (0,0,0)).1])))else none)
 else
 (bif (Xd t10 (Xb t12) (0,0,0)).2.2==2 then
 (bif room ((Xa l13)+(Xa ([(Xd t10 (Xb t12) ((0:Int),((0:Int),(0:Int)))).1])))then
 (Za7 N who7 what8 mode9 t10 K0 n (iadd .i64 t12 1) (Xe l13 ([(Xd t10 (Xb t12) (0,0,0)).1])))else none)
 else
 (Za7 N who7 what8 mode9 t10 K0 n (iadd .i64 t12 1) l13)))
 else
 (Za7 N who7 what8 mode9 t10 K0 n (iadd .i64 t12 1) l13))
 else
 (Za7 N who7 what8 mode9 t10 K0 n (iadd .i64 t12 1) l13))else none)
 else
 (K0 t12 (decide (t12<(ilen t10))) l13))
def Zgg(N:Nat)(l1:List (Int×Int×Int))(who2:Int)(what3:Int)(mode4:Int):Option (Unit×((List Int)×Unit)):=
    ((Zcg N l1).bind λo5=>
 (bif !o5.2.1 then
 (some ((),(([]:List Int),())))
 else
 ((Zq N mode4 1 2).bind λo6=>
 (bif !o6.2.1 then
 (some ((),(([]:List Int),())))
 else
 (Za7 N who2 what3 mode4 l1
 (λt17 t18 l19=>
   (some ((),(l19,()))))
  N 0 ([]:List Int))))))
def Zy(N:Nat)(x1:List (Int×Int×Int)):Option (((List (Int×Int×Int))×Unit)×Unit):=Zm6 rngH cfH N x1
def Zb8{R:Type}(N:Nat)(who9:Int)(what10:Int)(mode11:Int)(t12:Int)(l14:List (Int×Int×Int))(K0:(List (Int×Int×Int))→Option R)(K1:Int→Bool→Option R):Nat→Int→Option R
  |0,_=>none
  |n+1,t13=>
    (bif decide (t13<t12)then
 (bif inb t13 (Xa l14)then
 (bif (Xd l14 (Xb t13) (0,0,0)).1==who9 then
 (bif (Xd l14 (Xb t13) (0,0,0)).2.1==what10 then
 (bif inb t13 (Xa l14)then
 (K0 (Xl l14 (Xb t13) ((Xd l14 (Xb t13) (0,0,0)).1,((Xd l14 (Xb t13) (0,0,0)).2.1,maxI (Xd l14 (Xb t13) (0,0,0)).2.2 mode11))))else none)
 else
 (Zb8 N who9 what10 mode11 t12 l14 K0 K1 n (iadd .i64 t13 1)))
 else
 (Zb8 N who9 what10 mode11 t12 l14 K0 K1 n (iadd .i64 t13 1)))else none)
 else
 (K1 t13 (decide (t13<t12))))
def Zey(N:Nat)(l1:List (Int×Int×Int))(who2:Int)(what3:Int)(mode4:Int):Option (Unit×((List (Int×Int×Int))×(Bool×Unit))):=
    ((Zeo N l1).bind λo5=>
 ((Zcg N l1).bind λo6=>
 (bif !o6.2.1 then
 (some ((),(o5.2.1,(false,()))))
 else
 ((Zib N who2 what3 mode4).bind λo7=>
 (bif !o7.2.1 then
 (some ((),(o5.2.1,(false,()))))
 else
 ((Zgg N l1 who2 what3 mode4).bind λo8=>
 (bif decide ((ilen o8.2.1)>0)then
 (some ((),(o5.2.1,(false,()))))
 else
 (Zb8 N who2 what3 mode4 (ilen o5.2.1) o5.2.1
 (λl18=>
   (some ((),(l18,(true,())))))
 (λt19 t20=>
   (bif room ((Xa o5.2.1)+(Xa ([(who2,(what3,mode4))])))then
 ((Zy N (Xe o5.2.1 ([(who2,(what3,mode4))]))).bind λo21=>
 (some ((),(o21.1.1,(true,())))))else none))
  N 0))))))))
def Zkj(N:Nat)(key1:Int)(entry2:Int):Option (Unit×((Int×Int×Int)×Unit)):=
    (bif entry2==0 then
 (some ((),((2,(key1,0)),())))
 else
 (some ((),((1,(key1,isub .i64 entry2 1)),()))))
def Zl2(N:Nat)(s1:List Int×Int)(o2:Int×Int×Int×Int)(regs3:List Int):Option (Unit×((List Int×Int)×((List Int)×((Int×Int×Int)×(Bool×Unit))))):=
    ((Zhs N s1).bind λo4=>
 ((Zx N regs3).bind λo5=>
 ((Zi9 N o4.2.1).bind λo6=>
 (bif !o6.2.1 then
 (some ((),(o4.2.1,(o5.2.1,((0,0,0),(false,()))))))
 else
 ((Z9 N o5.2.1 4).bind λo7=>
 (bif !o7.2.1 then
 (some ((),(o4.2.1,(o5.2.1,((0,0,0),(false,()))))))
 else
 ((Zhj N o2).bind λo8=>
 (bif o8.2.1 !=2 then
 (some ((),(o4.2.1,(o5.2.1,((0,0,0),(false,()))))))
 else
 (bif o2.1==12 then
 (bif inb o2.2.2.1 (Xa o5.2.1)then
 ((Zcf N o4.2.1.1 o2.2.1 (Xd o5.2.1 (Xb o2.2.2.1) 0)).bind λo9=>
 (bif inz 65536 then
 (bif inb o2.2.2.2 (Xa o5.2.1)then
 ((Zkj N o2.2.1 o9.2.2.1).bind λo10=>
 (some ((),((o9.2.1,o4.2.1.2),(Xl o5.2.1 (Xb o2.2.2.2) (irem o9.2.2.1 65536),(o10.2.1,(true,())))))))else none)else none))else none)
 else
 (bif o2.1==13 then
 ((Zhl N o4.2.1.1 o2.2.2.1).bind λo11=>
 (bif inb o2.2.1 (Xa o5.2.1)then
 (bif o11.2.2.1 then
 (bif inz 65536 then
 (bif inb o2.2.1 (Xa (Xl o5.2.1 (Xb o2.2.1) 0))then
 (Wt (Xl o5.2.1 (Xb o2.2.1) 0) λs12=>
 (some ((),(o4.2.1,(Xl s12 (Xb o2.2.1) (irem (iadd .i64 o11.2.1 1) 65536),((0,0,0),(true,())))))))else none)else none)
 else
 (some ((),(o4.2.1,(Xl o5.2.1 (Xb o2.2.1) 0,((0,0,0),(true,())))))))else none))
 else
 (bif o2.1==14 then
 ((Zih N o4.2.1.1 o2.2.1).bind λo13=>
 (bif inz 65536 then
 (bif inb o2.2.2.1 (Xa o5.2.1)then
 ((Zkj N o2.2.1 o13.2.2.1).bind λo14=>
 (some ((),((o13.2.1,o4.2.1.2),(Xl o5.2.1 (Xb o2.2.2.1) (irem o13.2.2.1 65536),(o14.2.1,(true,())))))))else none)else none))
 else
 (bif o2.1==15 then
 (bif inb o2.2.1 (Xa o5.2.1)then
 (bif inz 65536 then
 (bif inb o2.2.1 (Xa o5.2.1)then
 (some ((),((o4.2.1.1,irem (iadd .i64 o4.2.1.2 (Xd o5.2.1 (Xb o2.2.1) 0)) 65536),(o5.2.1,((3,(0,Xd o5.2.1 (Xb o2.2.1) 0)),(true,()))))))else none)else none)else none)
 else
 (bif inb o2.2.1 (Xa o5.2.1)then
 (some ((),(o4.2.1,(Xl o5.2.1 (Xb o2.2.1) o4.2.1.2,((0,0,0),(true,()))))))else none)))))))))))))
def Zg1(N:Nat)(w1:Y_World)(k2:Int)(o3:Int×Int×Int×Int):Option ((Y_World×Unit)×Unit):=
    (bif inb k2 (Xa (P5 w1))then
 ((Zjo N o3).bind λbq3=>
 ((Zey N (P4 w1) (iadd .i64 k2 1) bq3.2.1 bq3.2.2.1).bind λbq2=>
 (Wt (Xd (P5 w1) (Xb k2) d_Root) λe9001=>
 (bif !bq2.2.2.1 then
 ((Zc8 N e9001).bind λbq1=>
 (some (((S5 (Xl (P5 w1) (Xb k2) bq1.1.1) w1),()),())))
 else
 (Wt (((Zl2 N w1.2.2.2.1 o3 (P12 e9001)).bind λbq1=>
 (bif bq1.2.2.2.1.1 !=0 then
 (bif room ((Xa (P16 e9001))+(Xa ([bq1.2.2.2.1])))then
 (some (((S5 (Xl (P5 w1) (Xb k2) (S16 (Xe (P16 e9001) ([bq1.2.2.2.1])) (S12 bq1.2.2.1 (S3 (iadd .i64 e9001.2.2.2.1 1) e9001)))) (S4 bq2.2.1 (S3 bq1.2.1 w1))),()),()))else none)
 else
 (some (((S5 (Xl (P5 w1) (Xb k2) (S12 bq1.2.2.1 (S3 (iadd .i64 e9001.2.2.2.1 1) e9001))) (S4 bq2.2.1 (S3 bq1.2.1 w1))),()),())))):Option ((Y_World×Unit)×Unit)) λe9000=>
 (both
 e9000
 (both
 e9000
 (both
 e9000
 (both
 e9000
 (both
 e9000
 e9000))))))))))else none)
def Zdt(N:Nat)(r1:Y_Root):Option (Unit×((Int×Int×Int×Int)×Unit)):=
    (Wt (Xd (P15 r1) (Xb (isub .i64 (ilen (P15 r1)) 1)) (0,(0,(0,(0,([]:List Int)))))) λe9000=>
 (bif inb (isub .i64 (ilen (P15 r1)) 1) (Xa (P15 r1))then
 (some ((),((e9000.1,(e9000.2.1,(e9000.2.2.1,e9000.2.2.2.1))),())))else none))
def Zht(N:Nat)(w1:Y_World)(k2:Int)(p3:List (Int×Int×Int×Int)×List (List (Int×Int×Int×Int))):Option ((Y_World×Unit)×Unit):=
    (bif inb k2 (Xa (P5 w1))then
 (Wt (Xd (P5 w1) (Xb k2) d_Root) λe9002=>
 (Wt (Xl (P5 w1) (Xb k2) e9002) λe9005=>
 (bif decide (e9002.2.2.2.1≥(ilen p3.1))then
 ((Zg0 N (S5 e9005 w1) k2 1).bind λbq1=>
 (some ((bq1.1.1,()),())))
 else
 (bif inb e9002.2.2.2.1 (Xa p3.1)then
 (Wt (Xd p3.1 (Xb e9002.2.2.2.1) (0,0,0,0)) λe9001=>
 (bif e9001.1==5 then
 ((Ziw N (S5 e9005 w1) (Xb k2) e9001).bind λbq1=>
 (some ((bq1.1.1,()),())))
 else
 (bif e9001.1==10 then
 ((Zii N (S5 e9005 w1) k2 p3.1).bind λbq1=>
 (some ((bq1.1.1,()),())))
 else
 (bif e9001.1==11 then
 ((Zdj N (P4 e9002) (P12 e9002) (P14 e9002) (ilen p3.2)).bind λbq1=>
 (some (((S5 (Xl (P5 w1) (Xb k2) (U21 bq1.2.1 (S0 2 e9002))) w1),()),())))
 else
 (Wt ((Wt (iadd .i64 e9002.2.2.2.1 1) λe9006=>
 (bif e9001.1==6 then
 (bif inb e9001.2.2.1 (Xa (P12 e9002))then
 (bif room ((Xa (P14 e9002))+(Xa ([(e9001.2.1,Xd (P12 e9002) (Xb e9001.2.2.1) (0:Int))])))then
 (some (((S5 (Xl (P5 w1) (Xb k2) (S14 (Xe (P14 e9002) ([(e9001.2.1,Xd (P12 e9002) (Xb e9001.2.2.1) 0)])) (S3 e9006 e9002))) w1),()),()))else none)else none)
 else
 (bif e9001.1==7 then
 (bif inb e9001.2.1 (Xa (P12 e9002))then
 (bif (Xd (P12 e9002) (Xb e9001.2.1) 0)==0 then
 (some (((S5 (Xl (P5 w1) (Xb k2) (S3 (iadd .i64 (iadd .i64 e9002.2.2.2.1 e9001.2.2.1) 1) e9002)) w1),()),()))
 else
 (some (((S5 (Xl (P5 w1) (Xb k2) (S3 e9006 e9002)) w1),()),())))else none)
 else
 (bif e9001.1==8 then
 ((Zx N (P12 e9002)).bind λbq1=>
 (Wt (ilen (P13 e9002),(ilen (P14 e9002),(ilen (P16 e9002),bq1.2.1))) λe9004=>
 (bif room ((Xa (P15 e9002))+(Xa ([(e9002.2.2.2.1,e9004)])))then
 (some (((S5 (Xl (P5 w1) (Xb k2) (S15 (Xe (P15 e9002) ([(e9002.2.2.2.1,e9004)])) (S3 e9006 e9002))) w1),()),()))else none)))
 else
 (bif e9001.1==9 then
 ((Zdt N e9002).bind λbq1=>
 (Wt (isub .i64 (ilen (P15 e9002)) 1) λe9007=>
 (bif (decide ((0:Int)≤e9007))&&(decide (e9007≤((Xa (P15 e9002)):Int)))then
 (bif inb bq1.2.1.1 (Xa p3.1)then
 (bif inb (Xd p3.1 (Xb bq1.2.1.1) (0,0,0,0)).2.1 (Xa (P12 e9002))then
 (some (((S5 (Xl (P5 w1) (Xb k2) (S15 (Xar (Xb e9007) (P15 e9002)) (S12 (Xl (P12 e9002) (Xb (Xd p3.1 (Xb bq1.2.1.1) (0,0,0,0)).2.1) 1) (S3 e9006 e9002)))) w1),()),()))else none)else none)else none)))
 else
 ((Zmr N e9001 (P12 e9002)).bind λbq1=>
 (some (((S5 (Xl (P5 w1) (Xb k2) (S12 bq1.2.1 (S3 e9006 e9002))) w1),()),())))))))):Option ((Y_World×Unit)×Unit)) λe9000=>
 (Wt (((Zg1 N (S5 e9005 w1) k2 e9001).bind λbq1=>
 (some ((bq1.1.1,()),()))):Option ((Y_World×Unit)×Unit)) λe9003=>
 (bif e9001.1==12 then
 (bif e9001.1==12 then
 e9003
 else
 e9000)
 else
 (bif e9001.1==13 then
 (bif e9001.1==13 then
 e9003
 else
 e9000)
 else
 (bif e9001.1==14 then
 (bif e9001.1==14 then
 e9003
 else
 e9000)
 else
 (bif e9001.1==15 then
 (bif e9001.1==15 then
 e9003
 else
 e9000)
 else
 (bif e9001.1==16 then
 e9003
 else
 e9000)))))))))))else none))))else none)
def Zm8(N:Nat)(x1:Y_KidRun):Option (Unit×(Bool×Unit)):=
    (some ((),(x1.1 !=3,())))
def Zi{R:Type}(N:Nat)(s2:List Y_KidRun)(K0:Int→Option R)(K1:Int→Bool→Option R):Nat→Int→Option R
  |0,_=>none
  |n+1,t4=>
    (bif decide (t4<(ilen s2))then
 (bif inb t4 (Xa s2)then
 ((Zm8 N (Xd s2 (Xb t4) d_KidRun)).bind λo10=>
 (bif o10.2.1 then
 (K0 t4)
 else
 (Zi N s2 K0 K1 n (iadd .i64 t4 1))))else none)
 else
 (K1 t4 (decide (t4<(ilen s2)))))
def Zm(N:Nat)(s1:List Y_KidRun):Option (Unit×(Int×Unit)):=
    (Zi N s1
 (λt11=>
   (some ((),(t11,()))))
 (λt12 t13=>
   (some ((),((-1:Int),()))))
  N 0)
def Zak(N:Nat)(s1:List Y_KidRun):Option (Unit×(Bool×Unit)):=
    ((Zm N s1).bind λo2=>
 (some ((),(decide (o2.2.1≥0),()))))
def Zl3(N:Nat)(f1:Y_Family):Option (Unit×(Bool×Unit)):=
    ((Zak N f1.2.2.2.2.2.2.2.2.2).bind λo2=>
 (some ((),(!o2.2.1,()))))
def Zbk{R:Type}(N:Nat)(t4:List Y_KidRun)(t5:Int)(K0:Int→Bool→(List Int)→Option R):Nat→Int→(List Int)→Option R
  |0,_,_=>none
  |n+1,t6,l7=>
    (bif decide (t6<t5)then
 (bif inb t6 (Xa t4)then
 (bif inb t6 (Xa l7)then
 (Wt (Xd t4 (Xb t6) d_KidRun) λe9000=>
 (Wt (Xl l7 (Xb t6) 0) λe9001=>
 (bif (P5 e9000)==1 then
 ((Z9 N (P6 e9000) 4).bind λbq1=>
 (bif bq1.2.1 then
 (bif inb 0 (Xa (P6 e9000))then
 (bif inb t6 (Xa e9001)then
 (Wt e9001 λs14=>
 (Zbk N t4 t5 K0 n (iadd .i64 t6 1) (Xl s14 (Xb t6) (Xd (P6 e9000) (Xb 0) 0))))else none)else none)
 else
 (Zbk N t4 t5 K0 n (iadd .i64 t6 1) e9001)))
 else
 (Zbk N t4 t5 K0 n (iadd .i64 t6 1) e9001))))else none)else none)
 else
 (K0 t6 (decide (t6<t5)) l7))
def Zez(N:Nat)(f1:Y_Family):Option (Unit×((List Int)×Unit)):=
    ((Z9 N f1.2.2.2.2.1 4).bind λo2=>
 (bif !o2.2.1 then
 (some ((),(([]:List Int),())))
 else
 (bif decide ((ilen f1.2.2.2.2.2.2.2.2.2)>3)then
 (some ((),(([]:List Int),())))
 else
 ((Zx N f1.2.2.2.2.1).bind λo3=>
 (Zbk N f1.2.2.2.2.2.2.2.2.2 (ilen f1.2.2.2.2.2.2.2.2.2)
 (λt15 t16 l17=>
   (some ((),(l17,()))))
  N 0 o3.2.1)))))
def Zc0{R:Type}(N:Nat)(t2:List (Int×Int×Int))(t3:Int)(K0:Int→Bool→(List (Int×Int))→Option R):Nat→Int→(List (Int×Int))→Option R
  |0,_,_=>none
  |n+1,t4,l5=>
    (bif decide (t4<t3)then
 (bif inb t4 (Xa t2)then
 (bif room ((Xa l5)+(Xa ([((Xd t2 (Xb t4) ((0:Int),((0:Int),(0:Int)))).1,(Xd t2 (Xb t4) ((0:Int),((0:Int),(0:Int)))).2.1)])))then
 (Zc0 N t2 t3 K0 n (iadd .i64 t4 1) (Xe l5 ([((Xd t2 (Xb t4) (0,0,0)).1,(Xd t2 (Xb t4) (0,0,0)).2.1)])))else none)else none)
 else
 (K0 t4 (decide (t4<t3)) l5))
def Ze0(N:Nat)(f1:Y_Family):Option (Unit×((List (Int×Int))×Unit)):=
    (Zc0 N f1.2.2.2.2.2.2.1 (ilen f1.2.2.2.2.2.2.1)
 (λt9 t10 l11=>
   (some ((),(l11,()))))
  N 0 ([]:List (Int×Int)))
def Zhu(N:Nat)(r1:Y_Root):Option ((Y_Root×Unit)×Unit):=
    (bif (P24 r1)then
 ((Zba N r1).bind λbq1=>
 (some ((bq1.1.1,()),())))
 else
 ((Zl3 N (Q21 r1)).bind λbq4=>
 (bif !bq4.2.1 then
 (some ((r1,()),()))
 else
 ((Zez N (Q21 r1)).bind λbq3=>
 ((Ze0 N (Q21 r1)).bind λbq2=>
 (bif room ((Xa (P13 r1))+(Xa (P29 r1)))then
 ((Zx N (P28 r1)).bind λbq1=>
 (some (((U21 d_Family (S17 bq1.2.1 (S14 bq2.2.1 (S13 (Xe (P13 r1) (P29 r1)) (S12 bq3.2.1 (S3 (iadd .i64 r1.2.2.2.1 1) (S0 1 r1))))))),()),())))else none))))))
def Zgm(N:Nat)(w1:Y_World)(ix2:Nat):Option ((Y_World×Unit)×Unit):=
    ((Zhr N (Xd (P5 w1) ix2 d_Root)).bind λbq4=>
 (bif decide ((P6 bq4.1.1)<bq4.2.1.2.1)then
 (bif inb (P6 bq4.1.1) (Xa (P13 bq4.1.1))then
 (Wt (Xd (P13 bq4.1.1) (Xb (P6 bq4.1.1)) (0,0)) λe9000=>
 (bif inb e9000.1 (Xa w1.2.2.1.2)then
 (bif (Xd w1.2.2.1.2 (Xb e9000.1) (0,0,0)).2.2 !=0 then
 ((Zba N bq4.1.1).bind λbq1=>
 (some (((S5 (Xl (P5 w1) ix2 bq1.1.1) w1),()),())))
 else
 (bif decide ((Xd w1.2.2.1.2 (Xb e9000.1) (0,0,0)).2.1>(P4 bq4.1.1))then
 ((Zba N bq4.1.1).bind λbq1=>
 (some (((S5 (Xl (P5 w1) ix2 bq1.1.1) w1),()),())))
 else
 (some (((S5 (Xl (P5 w1) ix2 (S6 (iadd .i64 (P6 bq4.1.1) 1) bq4.1.1)) w1),()),()))))else none))else none)
 else
 (bif (decide ((0:Int)≤bq4.2.1.2.1))&&(decide (bq4.2.1.2.1≤((Xa (P13 bq4.1.1)):Int)))then
 ((Zbh N (Xar (Xb bq4.2.1.2.1) (P13 bq4.1.1))).bind λbq3=>
 (bif (decide ((0:Int)≤bq4.2.1.2.2.1))&&(decide (bq4.2.1.2.2.1≤((Xa (P14 bq4.1.1)):Int)))then
 ((Zbh N (Xar (Xb bq4.2.1.2.2.1) (P14 bq4.1.1))).bind λbq2=>
 ((Zx N bq4.2.1.2.2.2.2).bind λbq1=>
 (some (((S5 (Xl (P5 w1) ix2 (1,(S13 bq2.2.1 (S12 bq3.2.1 (S11 bq1.2.1 (S5 0 (S4 0 (S3 (P5 bq4.1.1) (S2 (iadd .i64 bq4.2.1.1 1) bq4.1.1.2))))))))) w1),()),()))))else none))else none)))
def Zhd(N:Nat)(c1:Int×Int×Int×Int×Int×List (Int×Int)×List Int):Option (Unit×((Int×Int×Int×Int×Int×List (Int×Int)×List Int)×Unit)):=
    ((Zbh N c1.2.2.2.2.2.1).bind λo2=>
 ((Zx N c1.2.2.2.2.2.2).bind λo3=>
 (some ((),((c1.1,(c1.2.1,(c1.2.2.1,(c1.2.2.2.1,(c1.2.2.2.2.1,(o2.2.1,o3.2.1)))))),())))))
def Zc9(N:Nat)(c1:Int×Int×Int×Int×Int×List (Int×Int)×List Int):Option (Unit×(Int×Unit)):=
    (bif c1.2.2.1==1 then
 (bif c1.2.2.1==1 then
 (some ((),(ilen c1.2.2.2.2.2.1,())))
 else
 (bif c1.2.2.1==3 then
 (some ((),(ilen c1.2.2.2.2.2.2,())))
 else
 (some ((),(1,())))))
 else
 (bif c1.2.2.1==4 then
 (bif c1.2.2.1==4 then
 (some ((),(ilen c1.2.2.2.2.2.1,())))
 else
 (bif c1.2.2.1==3 then
 (some ((),(ilen c1.2.2.2.2.2.2,())))
 else
 (some ((),(1,())))))
 else
 (bif c1.2.2.1==5 then
 (bif c1.2.2.1==5 then
 (some ((),(ilen c1.2.2.2.2.2.1,())))
 else
 (bif c1.2.2.1==3 then
 (some ((),(ilen c1.2.2.2.2.2.2,())))
 else
 (some ((),(1,())))))
 else
 (bif c1.2.2.1==7 then
 (some ((),(ilen c1.2.2.2.2.2.1,())))
 else
 (bif c1.2.2.1==3 then
 (some ((),(ilen c1.2.2.2.2.2.2,())))
 else
 (some ((),(1,()))))))))
def Zbt{R:Type}(N:Nat)(b8:Int×Int×Int×Int×Int×List (Int×Int)×List Int)(K0:Option R)(K1:Int→Bool→Option R):Nat→Int→Option R
  |0,_=>none
  |n+1,i7=>
    (bif decide (i7<(ilen b8.2.2.2.2.2.1))then
 (bif inb (isub .i64 i7 1) (Xa b8.2.2.2.2.2.1)then
 (bif inb i7 (Xa b8.2.2.2.2.2.1)then
 (bif decide ((Xd b8.2.2.2.2.2.1 (Xb (isub .i64 i7 1)) (0,0)).1≥(Xd b8.2.2.2.2.2.1 (Xb i7) (0,0)).1)then
 K0
 else
 (Zbt N b8 K0 K1 n (iadd .i64 i7 1)))else none)else none)
 else
 (K1 i7 (decide (i7<(ilen b8.2.2.2.2.2.1)))))
def Zbc{R:Type}(N:Nat)(t13:List Int)(b16:Int×Int×Int×Int×Int×List (Int×Int)×List Int)(K0:Option R)(K1:Int→Bool→Option R):Nat→Int→Option R
  |0,_=>none
  |n+1,t15=>
    (bif decide (t15<(ilen b16.2.2.2.2.2.2))then
 (bif inb t15 (Xa t13)then
 ((Za8 N (Xd t13 (Xb t15) 0)).bind λo21=>
 (bif !o21.2.1 then
 K0
 else
 (bif decide (t15>0)then
 (bif inb (isub .i64 t15 1) (Xa b16.2.2.2.2.2.2)then
 (bif decide ((Xd b16.2.2.2.2.2.2 (Xb (isub .i64 t15 1)) 0)≥(Xd t13 (Xb t15) 0))then
 K0
 else
 (Zbc N t13 b16 K0 K1 n (iadd .i64 t15 1)))else none)
 else
 (Zbc N t13 b16 K0 K1 n (iadd .i64 t15 1)))))else none)
 else
 (K1 t15 (decide (t15<(ilen b16.2.2.2.2.2.2)))))
def Zcp(N:Nat)(c1:Int×Int×Int×Int×Int×List (Int×Int)×List Int):Option (Unit×(Bool×Unit)):=
    ((Zew N c1.1).bind λo2=>
 (bif !o2.2.1 then
 (some ((),(false,())))
 else
 ((Zq N c1.2.1 0 1000000).bind λo3=>
 (bif !o3.2.1 then
 (some ((),(false,())))
 else
 ((Zq N c1.2.2.2.2.1 0 1000000).bind λo4=>
 (bif !o4.2.1 then
 (some ((),(false,())))
 else
 ((Zq N c1.2.2.1 1 8).bind λo5=>
 (bif !o5.2.1 then
 (some ((),(false,())))
 else
 ((Zbz N c1.2.2.2.2.2.1).bind λo6=>
 (bif !o6.2.1 then
 (some ((),(false,())))
 else
 (Zbt N c1
 (some ((),(false,())))
 (λi11 t12=>
   (Zbc N c1.2.2.2.2.2.2 c1
 (some ((),(false,())))
 (λt22 t23=>
   ((Zc9 N c1).bind λo24=>
 ((Zq N c1.2.2.2.1 0 (isub .i64 o24.2.1 1)).bind λo25=>
 (some ((),(o25.2.1,()))))))
  N 0))
  N 1)))))))))))
def Z3(N:Nat)(c1:Int×Int×Int×Int×Int×List (Int×Int)×List Int)(n2:Int):Option (((Int×Int×Int×Int×Int×List (Int×Int)×List Int)×Unit)×Unit):=
    (bif n2==0 then
 (some (((c1.1,(c1.2.1,(8,(0,c1.2.2.2.2)))),()),()))
 else
 (some (((c1.1,(c1.2.1,(7,(isub .i64 n2 1,c1.2.2.2.2)))),()),())))
def Zij(N:Nat)(c1:Int×Int×Int×Int×Int×List (Int×Int)×List Int):Option (Unit×((Int×Int×Int×Int×Int×List (Int×Int)×List Int)×(Bool×Unit))):=
    ((Zhd N c1).bind λo2=>
 ((Zcp N o2.2.1).bind λo3=>
 (bif !o3.2.1 then
 (some ((),(o2.2.1,(false,()))))
 else
 (bif o2.2.1.2.2.1==1 then
 ((Z3 N o2.2.1 o2.2.1.2.2.2.1).bind λo4=>
 (some ((),(o4.1.1,(true,())))))
 else
 (bif o2.2.1.2.2.1==2 then
 (bif o2.2.1.2.2.1==2 then
 ((Z3 N o2.2.1 (ilen o2.2.1.2.2.2.2.2.1)).bind λo5=>
 (some ((),(o5.1.1,(true,())))))
 else
 (some ((),(o2.2.1,(false,())))))
 else
 (bif o2.2.1.2.2.1==3 then
 ((Z3 N o2.2.1 (ilen o2.2.1.2.2.2.2.2.1)).bind λo6=>
 (some ((),(o6.1.1,(true,())))))
 else
 (some ((),(o2.2.1,(false,()))))))))))
def Zms(N:Nat)(m1:Int×List (Int×Int×Int))(i2:Int)(who3:Int):Option (Unit×((Int×List (Int×Int×Int))×(Bool×Unit))):=
    ((Zcd N m1).bind λo4=>
 ((Zb1 N m1).bind λo5=>
 (bif !o5.2.1 then
 (some ((),(o4.2.1,(false,()))))
 else
 ((Za8 N i2).bind λo6=>
 (bif !o6.2.1 then
 (some ((),(o4.2.1,(false,()))))
 else
 ((Zew N who3).bind λo7=>
 (bif !o7.2.1 then
 (some ((),(o4.2.1,(false,()))))
 else
 (bif inb i2 (Xa m1.2)then
 (bif (Xd m1.2 (Xb i2) (0,0,0)).2.2 !=0 then
 (some ((),(o4.2.1,(false,()))))
 else
 (bif inb i2 (Xa o4.2.1.2)then
 (some ((),((o4.2.1.1,Xl o4.2.1.2 (Xb i2) ((Xd o4.2.1.2 (Xb i2) (0,0,0)).1,((Xd o4.2.1.2 (Xb i2) (0,0,0)).2.1,who3))),(true,()))))else none))else none))))))))
def Ze1(N:Nat)(c1:Int×Int×Int×Int×Int×List (Int×Int)×List Int)(phase2:Int):Option (((Int×Int×Int×Int×Int×List (Int×Int)×List Int)×Unit)×Unit):=
    (bif phase2==3 then
 (bif (ilen c1.2.2.2.2.2.2)==0 then
 (bif 4==4 then
 (bif (ilen c1.2.2.2.2.2.1)==0 then
 (some (((c1.1,(c1.2.1,(6,(0,c1.2.2.2.2)))),()),()))
 else
 (some (((c1.1,(c1.2.1,(4,(0,c1.2.2.2.2)))),()),())))
 else
 (some (((c1.1,(c1.2.1,(4,(0,c1.2.2.2.2)))),()),())))
 else
 (bif phase2==4 then
 (bif (ilen c1.2.2.2.2.2.1)==0 then
 (some (((c1.1,(c1.2.1,(6,(0,c1.2.2.2.2)))),()),()))
 else
 (some (((c1.1,(c1.2.1,(phase2,(0,c1.2.2.2.2)))),()),())))
 else
 (some (((c1.1,(c1.2.1,(phase2,(0,c1.2.2.2.2)))),()),()))))
 else
 (bif phase2==4 then
 (bif (ilen c1.2.2.2.2.2.1)==0 then
 (some (((c1.1,(c1.2.1,(6,(0,c1.2.2.2.2)))),()),()))
 else
 (some (((c1.1,(c1.2.1,(phase2,(0,c1.2.2.2.2)))),()),())))
 else
 (some (((c1.1,(c1.2.1,(phase2,(0,c1.2.2.2.2)))),()),()))))
def Zbl(N:Nat)(c1:Int×Int×Int×Int×Int×List (Int×Int)×List Int)(phase2:Int):Option (((Int×Int×Int×Int×Int×List (Int×Int)×List Int)×Unit)×Unit):=
    ((Zc9 N (c1.1,(c1.2.1,(c1.2.2.1,(iadd .i64 c1.2.2.2.1 1,c1.2.2.2.2))))).bind λo3=>
 (bif (iadd .i64 c1.2.2.2.1 1)==o3.2.1 then
 ((Ze1 N (c1.1,(c1.2.1,(c1.2.2.1,(iadd .i64 c1.2.2.2.1 1,c1.2.2.2.2)))) phase2).bind λo4=>
 (some ((o4.1.1,()),())))
 else
 (some (((c1.1,(c1.2.1,(c1.2.2.1,(iadd .i64 c1.2.2.2.1 1,c1.2.2.2.2)))),()),()))))
def Znz(N:Nat)(m1:Int×List (Int×Int×Int))(i2:Int)(who3:Int)(v4:Int):Option (Unit×((Int×List (Int×Int×Int))×(Bool×Unit))):=
    ((Zcd N m1).bind λo5=>
 ((Zb1 N m1).bind λo6=>
 (bif !o6.2.1 then
 (some ((),(o5.2.1,(false,()))))
 else
 ((Za8 N i2).bind λo7=>
 (bif !o7.2.1 then
 (some ((),(o5.2.1,(false,()))))
 else
 ((Zew N who3).bind λo8=>
 (bif !o8.2.1 then
 (some ((),(o5.2.1,(false,()))))
 else
 (bif inb i2 (Xa m1.2)then
 (bif (Xd m1.2 (Xb i2) (0,0,0)).2.2 !=who3 then
 (some ((),(o5.2.1,(false,()))))
 else
 ((Zax N v4).bind λo9=>
 (bif !o9.2.1 then
 (some ((),(o5.2.1,(false,()))))
 else
 (bif inb i2 (Xa o5.2.1.2)then
 (some ((),((o5.2.1.1,Xl o5.2.1.2 (Xb i2) (v4,(Xd o5.2.1.2 (Xb i2) (0,0,0)).2)),(true,()))))else none))))else none))))))))
def Zkk(N:Nat)(m1:Int×List (Int×Int×Int))(i2:Int)(who3:Int)(ver4:Int):Option (Unit×((Int×List (Int×Int×Int))×(Bool×Unit))):=
    ((Zcd N m1).bind λo5=>
 ((Zb1 N m1).bind λo6=>
 (bif !o6.2.1 then
 (some ((),(o5.2.1,(false,()))))
 else
 ((Za8 N i2).bind λo7=>
 (bif !o7.2.1 then
 (some ((),(o5.2.1,(false,()))))
 else
 ((Zew N who3).bind λo8=>
 (bif !o8.2.1 then
 (some ((),(o5.2.1,(false,()))))
 else
 (bif inb i2 (Xa m1.2)then
 (bif (Xd m1.2 (Xb i2) (0,0,0)).2.2 !=who3 then
 (some ((),(o5.2.1,(false,()))))
 else
 (bif inb i2 (Xa m1.2)then
 ((Zq N ver4 (Xd m1.2 (Xb i2) (0,0,0)).2.1 m1.1).bind λo9=>
 (bif !o9.2.1 then
 (some ((),(o5.2.1,(false,()))))
 else
 (bif inb i2 (Xa o5.2.1.2)then
 (bif inb i2 (Xa (Xl o5.2.1.2 (Xb i2) ((Xd o5.2.1.2 (Xb i2) (0,0,0)).1,((Xd o5.2.1.2 (Xb i2) (0,0,0)).2.1,0))))then
 (Wt (Xl o5.2.1.2 (Xb i2) ((Xd o5.2.1.2 (Xb i2) (0,0,0)).1,((Xd o5.2.1.2 (Xb i2) (0,0,0)).2.1,0))) λs10=>
 (some ((),((o5.2.1.1,Xl s10 (Xb i2) ((Xd s10 (Xb i2) (0,0,0)).1,(ver4,(Xd s10 (Xb i2) (0,0,0)).2.2))),(true,())))))else none)else none)))else none))else none))))))))
def Zix(N:Nat)(m1:Int×List (Int×Int×Int))(c2:Int×Int×Int×Int×Int×List (Int×Int)×List Int):Option (Unit×((Int×List (Int×Int×Int))×((Int×Int×Int×Int×Int×List (Int×Int)×List Int)×Unit))):=
    ((Zcd N m1).bind λo3=>
 ((Zhd N c2).bind λo4=>
 ((Zb1 N o3.2.1).bind λo5=>
 (bif !o5.2.1 then
 (some ((),(o3.2.1,(o4.2.1,()))))
 else
 ((Zcp N o4.2.1).bind λo6=>
 (bif !o6.2.1 then
 (some ((),(o3.2.1,(o4.2.1,()))))
 else
 (bif o4.2.1.2.2.1==1 then
 (both
 (bif inb o4.2.1.2.2.2.1 (Xa o4.2.1.2.2.2.2.2.1)then
 ((Zms N o3.2.1 (Xd o4.2.1.2.2.2.2.2.1 (Xb o4.2.1.2.2.2.1) (0,0)).1 o4.2.1.1).bind λo7=>
 (bif o7.2.2.1 then
 ((Zbl N o4.2.1 2).bind λo8=>
 (some ((),(o7.2.1,(o8.1.1,())))))
 else
 ((Z3 N o4.2.1 o4.2.1.2.2.2.1).bind λo9=>
 (some ((),(o7.2.1,(o9.1.1,())))))))else none)
 (bif inb o4.2.1.2.2.2.1 (Xa o4.2.1.2.2.2.2.2.1)then
 ((Zms N o3.2.1 (Xd o4.2.1.2.2.2.2.2.1 (Xb o4.2.1.2.2.2.1) (0,0)).1 o4.2.1.1).bind λo10=>
 (bif o10.2.2.1 then
 ((Zbl N o4.2.1 2).bind λo11=>
 (some ((),(o10.2.1,(o11.1.1,())))))
 else
 ((Z3 N o4.2.1 o4.2.1.2.2.2.1).bind λo12=>
 (some ((),(o10.2.1,(o12.1.1,())))))))else none))
 else
 (bif o4.2.1.2.2.1==2 then
 ((Zo4 N o3.2.1).bind λo13=>
 (bif o13.2.2.1==0 then
 ((Z3 N o4.2.1 (ilen o4.2.1.2.2.2.2.2.1)).bind λo14=>
 (some ((),(o13.2.1,(o14.1.1,())))))
 else
 ((Ze1 N (o4.2.1.1,(o4.2.1.2.1,(o4.2.1.2.2.1,(o4.2.1.2.2.2.1,(o13.2.2.1,o4.2.1.2.2.2.2.2))))) 3).bind λo15=>
 (some ((),(o13.2.1,(o15.1.1,())))))))
 else
 (bif o4.2.1.2.2.1==3 then
 (bif inb o4.2.1.2.2.2.1 (Xa o4.2.1.2.2.2.2.2.2)then
 (bif inb (Xd o4.2.1.2.2.2.2.2.2 (Xb o4.2.1.2.2.2.1) 0) (Xa o3.2.1.2)then
 (bif (Xd o3.2.1.2 (Xb (Xd o4.2.1.2.2.2.2.2.2 (Xb o4.2.1.2.2.2.1) 0)) (0,0,0)).2.2 !=0 then
 (bif (Xd o3.2.1.2 (Xb (Xd o4.2.1.2.2.2.2.2.2 (Xb o4.2.1.2.2.2.1) 0)) (0,0,0)).2.2 !=o4.2.1.1 then
 ((Z3 N o4.2.1 (ilen o4.2.1.2.2.2.2.2.1)).bind λo16=>
 (some ((),(o3.2.1,(o16.1.1,())))))
 else
 (bif decide ((Xd o3.2.1.2 (Xb (Xd o4.2.1.2.2.2.2.2.2 (Xb o4.2.1.2.2.2.1) 0)) (0,0,0)).2.1>o4.2.1.2.1)then
 ((Z3 N o4.2.1 (ilen o4.2.1.2.2.2.2.2.1)).bind λo17=>
 (some ((),(o3.2.1,(o17.1.1,())))))
 else
 ((Zbl N o4.2.1 4).bind λo18=>
 (some ((),(o3.2.1,(o18.1.1,())))))))
 else
 (bif decide ((Xd o3.2.1.2 (Xb (Xd o4.2.1.2.2.2.2.2.2 (Xb o4.2.1.2.2.2.1) 0)) (0,0,0)).2.1>o4.2.1.2.1)then
 ((Z3 N o4.2.1 (ilen o4.2.1.2.2.2.2.2.1)).bind λo19=>
 (some ((),(o3.2.1,(o19.1.1,())))))
 else
 ((Zbl N o4.2.1 4).bind λo20=>
 (some ((),(o3.2.1,(o20.1.1,())))))))else none)else none)
 else
 (bif o4.2.1.2.2.1==4 then
 (bif inb o4.2.1.2.2.2.1 (Xa o4.2.1.2.2.2.2.2.1)then
 (bif inb o4.2.1.2.2.2.1 (Xa o4.2.1.2.2.2.2.2.1)then
 ((Znz N o3.2.1 (Xd o4.2.1.2.2.2.2.2.1 (Xb o4.2.1.2.2.2.1) (0,0)).1 o4.2.1.1 (Xd o4.2.1.2.2.2.2.2.1 (Xb o4.2.1.2.2.2.1) (0,0)).2).bind λo21=>
 ((Zbl N o4.2.1 5).bind λo22=>
 (some ((),(o21.2.1,(o22.1.1,()))))))else none)else none)
 else
 (bif o4.2.1.2.2.1==5 then
 (bif inb o4.2.1.2.2.2.1 (Xa o4.2.1.2.2.2.2.2.1)then
 ((Zkk N o3.2.1 (Xd o4.2.1.2.2.2.2.2.1 (Xb o4.2.1.2.2.2.1) (0,0)).1 o4.2.1.1 o4.2.1.2.2.2.2.1).bind λo23=>
 ((Zbl N o4.2.1 6).bind λo24=>
 (some ((),(o23.2.1,(o24.1.1,()))))))else none)
 else
 (bif o4.2.1.2.2.1==7 then
 (bif inb o4.2.1.2.2.2.1 (Xa o4.2.1.2.2.2.2.2.1)then
 (bif inb (Xd o4.2.1.2.2.2.2.2.1 (Xb o4.2.1.2.2.2.1) (0,0)).1 (Xa o3.2.1.2)then
 ((Zkk N o3.2.1 (Xd o4.2.1.2.2.2.2.2.1 (Xb o4.2.1.2.2.2.1) (0,0)).1 o4.2.1.1 (Xd o3.2.1.2 (Xb (Xd o4.2.1.2.2.2.2.2.1 (Xb o4.2.1.2.2.2.1) (0,0)).1) (0,0,0)).2.1).bind λo25=>
 ((Z3 N o4.2.1 o4.2.1.2.2.2.1).bind λo26=>
 (some ((),(o25.2.1,(o26.1.1,()))))))else none)else none)
 else
 (some ((),(o3.2.1,(o4.2.1,()))))))))))))))))
def Zgn(N:Nat)(w1:Y_World)(k2:Int):Option ((Y_World×Unit)×Unit):=
    (bif inb k2 (Xa (P5 w1))then
 (Wt (Xd (P5 w1) (Xb k2) d_Root) λe9002=>
 (bif (P11 e9002)then
 ((Zij N (P20 e9002)).bind λbq2=>
 (bif bq2.2.1.2.2.1==8 then
 ((Zba N (S20 bq2.2.1 (S11 false e9002))).bind λbq1=>
 (some (((S5 (Xl (P5 w1) (Xb k2) bq1.1.1) w1),()),())))
 else
 (some (((S5 (Xl (P5 w1) (Xb k2) (S20 bq2.2.1 (S11 false e9002))) w1),()),()))))
 else
 (Wt (((Zix N w1.2.2.1 (P20 e9002)).bind λbq3=>
 (Wt ((bif bq3.2.2.1.2.2.1==8 then
 ((Zba N (S20 bq3.2.2.1 e9002)).bind λbq1=>
 (some (((S5 (Xl (P5 w1) (Xb k2) bq1.1.1) (S2 bq3.2.1 w1)),()),())))
 else
 (bif bq3.2.2.1.2.2.1==6 then
 (bif (P7 e9002)==2 then
 (some (((S5 (Xl (P5 w1) (Xb k2) (S20 (0,(0,(0,(0,(0,(([]:List (Int×Int)),([]:List Int))))))) (S8 (P4 bq3.2.2.1) (S0 6 e9002)))) (S2 bq3.2.1 w1)),()),()))
 else
 (some (((S5 (Xl (P5 w1) (Xb k2) (S20 (0,(0,(0,(0,(0,(([]:List (Int×Int)),([]:List Int))))))) (S8 (P4 bq3.2.2.1) (S0 7 e9002)))) (S2 bq3.2.1 w1)),()),())))
 else
 (some (((S5 (Xl (P5 w1) (Xb k2) (S20 bq3.2.2.1 e9002)) (S2 bq3.2.1 w1)),()),())))):Option ((Y_World×Unit)×Unit)) λe9001=>
 (bif decide ((P20 e9002).2.2.1≤3)then
 (bif bq3.2.2.1.2.2.1==4 then
 ((Zbh N (P5 bq3.2.2.1)).bind λbq2=>
 (bif room ((Xa (Q6 w1))+(Xa ([((P4 bq3.2.2.1),(iadd .i64 k2 (1:Int),bq2.2.1))])))then
 (Wt (Xe (Q6 w1) ([((P4 bq3.2.2.1),(iadd .i64 k2 1,bq2.2.1))])) λe9003=>
 (bif bq3.2.2.1.2.2.1==8 then
 ((Zba N (S20 bq3.2.2.1 e9002)).bind λbq1=>
 (some (((U6 e9003 (S5 (Xl (P5 w1) (Xb k2) bq1.1.1) (S2 bq3.2.1 w1))),()),())))
 else
 (bif bq3.2.2.1.2.2.1==6 then
 (bif (P7 e9002)==2 then
 (some (((U6 e9003 (S5 (Xl (P5 w1) (Xb k2) (S20 (0,(0,(0,(0,(0,(([]:List (Int×Int)),([]:List Int))))))) (S8 (P4 bq3.2.2.1) (S0 6 e9002)))) (S2 bq3.2.1 w1))),()),()))
 else
 (some (((U6 e9003 (S5 (Xl (P5 w1) (Xb k2) (S20 (0,(0,(0,(0,(0,(([]:List (Int×Int)),([]:List Int))))))) (S8 (P4 bq3.2.2.1) (S0 7 e9002)))) (S2 bq3.2.1 w1))),()),())))
 else
 (some (((U6 e9003 (S5 (Xl (P5 w1) (Xb k2) (S20 bq3.2.2.1 e9002)) (S2 bq3.2.1 w1))),()),())))))else none))
 else
 e9001)
 else
 e9001))):Option ((Y_World×Unit)×Unit)) λe9000=>
 (both
 e9000
 (both
 e9000
 (both
 e9000
 (both
 e9000
 (both
 e9000
 e9000))))))))else none)
def Zf5(N:Nat)(h1:Int×Int×Int)(a2:Int):Option ((Int×Unit)×(Bool×Unit)):=
    (some ((a2,()),(h1.1==a2,())))
def Zl{R:Type}(N:Nat)(s3:List (Int×Int×Int))(K0:Int→Int→Option R)(K1:Int→Bool→Int→Option R):Nat→Int→Int→Option R
  |0,_,_=>none
  |n+1,t5,b6=>
    (bif decide (t5<(ilen s3))then
 (bif inb t5 (Xa s3)then
 ((Zf5 N (Xd s3 (Xb t5) (0,0,0)) b6).bind λo14=>
 (bif o14.2.1 then
 (K0 t5 o14.1.1)
 else
 (Zl N s3 K0 K1 n (iadd .i64 t5 1) o14.1.1)))else none)
 else
 (K1 t5 (decide (t5<(ilen s3))) b6))
def Zo(N:Nat)(s1:List (Int×Int×Int))(cap2:Int):Option ((Int×Unit)×(Int×Unit)):=
    (Zl N s1
 (λt15 b16=>
   (some ((b16,()),(t15,()))))
 (λt17 t18 b19=>
   (some ((b19,()),((-1:Int),()))))
  N 0 cap2)
def Zd{R:Type}(N:Nat)(K0:Int→Int→Bool→(List (Int×Int×Int))→Int→Option R):Nat→Int→Int→(List (Int×Int×Int))→Int→Option R
  |0,_,_,_,_=>none
  |n+1,i4,j5,l6,b7=>
    (bif decide (j5<(ilen l6))then
 (bif inb j5 (Xa l6)then
 ((Zf5 N (Xd l6 (Xb j5) (0,0,0)) b7).bind λo14=>
 (bif !o14.2.1 then
 (bif inb i4 (Xa l6)then
 (Zd N K0 n (iadd .i64 i4 1) (iadd .i64 j5 1) (Xl l6 (Xb i4) (Xd l6 (Xb j5) (0,0,0))) o14.1.1)else none)
 else
 (Zd N K0 n i4 (iadd .i64 j5 1) l6 o14.1.1)))else none)
 else
 (K0 i4 j5 (decide (j5<(ilen l6))) l6 b7))
def Zh(N:Nat)(s1:List (Int×Int×Int))(cap2:Int):Option ((Int×Unit)×((List (Int×Int×Int))×Unit)):=
    ((Zo N s1 cap2).bind λo3=>
 (bif o3.2.1==(-1:Int)then
 (some ((o3.1.1,()),(s1,())))
 else
 (Zd N
 (λi15 j16 t17 l18 b19=>
   (bif (decide ((0:Int)≤i15))&&(decide (i15≤((Xa l18):Int)))then
 (bif (decide ((0:Int)≤i15))&&(decide (i15≤((Xa ((Xar (Xb i15) l18)++Xu ((Xa l18) -(Xb i15)) (0,0,0)++(Xcx (Xa l18) l18))):Int)))then
 (some ((b19,()),(Xar (Xb i15) ((Xar (Xb i15) l18)++Xu ((Xa l18) -(Xb i15)) (0,0,0)++(Xcx (Xa l18) l18)),())))else none)else none))
  N o3.2.1 (iadd .i64 o3.2.1 1) s1 o3.1.1)))
def Zkz(N:Nat)(l1:List (Int×Int×Int))(who2:Int):Option (Unit×((List (Int×Int×Int))×Unit)):=
    ((Zeo N l1).bind λo3=>
 ((Zcg N l1).bind λo4=>
 (bif !o4.2.1 then
 (some ((),(o3.2.1,())))
 else
 ((Zh N o3.2.1 who2).bind λo5=>
 (some ((),(o5.2.1,())))))))
def Zhe(N:Nat)(w1:Y_World)(k2:Int)(p3:List (Int×Int×Int×Int)×List (List (Int×Int×Int×Int))):Option ((Y_World×Unit)×Unit):=
    (Wt (Xd (P5 w1) (Xb k2) d_Root) λe9001=>
 (bif inb k2 (Xa (P5 w1))then
 (Wt ((Wt (Xl (P5 w1) (Xb k2) e9001) λe9002=>
 (bif e9001.1==0 then
 ((Zcj N (S5 e9002 w1) k2).bind λbq1=>
 (some ((bq1.1.1,()),())))
 else
 (bif e9001.1==1 then
 ((Zht N (S5 e9002 w1) k2 p3).bind λbq1=>
 (some ((bq1.1.1,()),())))
 else
 (bif e9001.1==2 then
 ((Zhu N e9001).bind λbq1=>
 (some (((S5 (Xl (P5 w1) (Xb k2) bq1.1.1) w1),()),())))
 else
 (bif e9001.1==3 then
 ((Zdt N e9001).bind λbq2=>
 (bif decide ((ilen (P16 e9001))>bq2.2.1.2.2.2)then
 ((Zck N (S5 e9002 w1) (Xb k2)).bind λbq1=>
 (some ((bq1.1.1,()),())))
 else
 (some (((S5 (Xl (P5 w1) (Xb k2) (S6 0 (S5 w1.2.2.1.1 (S0 4 e9001)))) w1),()),()))))
 else
 (bif e9001.1==4 then
 ((Zgm N (S5 e9002 w1) (Xb k2)).bind λbq1=>
 (some ((bq1.1.1,()),())))
 else
 (bif e9001.1==5 then
 ((Zgn N (S5 e9002 w1) k2).bind λbq1=>
 (some ((bq1.1.1,()),())))
 else
 (bif e9001.1==6 then
 (bif decide ((ilen (P16 e9001))>0)then
 ((Zck N (S5 e9002 w1) (Xb k2)).bind λbq1=>
 (some ((bq1.1.1,()),())))
 else
 (some (((S5 (Xl (P5 w1) (Xb k2) (7,e9001.2)) w1),()),())))
 else
 (bif e9001.1==7 then
 ((Zkz N (P4 w1) (iadd .i64 k2 1)).bind λbq2=>
 (bif (P7 e9001)==0 then
 (some (((S5 (Xl (P5 w1) (Xb k2) (0,(iadd .i64 e9001.2.1 1,(0,(0,(0,(0,(0,(0,(0,(0,(0,(false,(([]:List Int),(([]:List (Int×Int)),(([]:List (Int×Int)),(([]:List (Int×Int×Int×Int×List Int)),(([]:List (Int×Int×Int)),(([]:List Int),(false,((0,0,0,0),((0,(0,(0,(0,(0,(([]:List (Int×Int)),([]:List Int))))))),d_Family)))))))))))))))))))))) (S4 bq2.2.1 w1)),()),()))
 else
 ((Zgp N (S5 e9002 (S4 bq2.2.1 w1)) k2).bind λbq1=>
 (some ((bq1.1.1,()),())))))
 else
 (some (((S5 e9002 w1),()),()))))))))))):Option ((Y_World×Unit)×Unit)) λe9000=>
 (bif (P11 e9001)then
 ((Zq N e9001.1 1 4).bind λbq3=>
 (bif bq3.2.1 then
 ((Zba N e9001).bind λbq1=>
 (some (((S5 (Xl (P5 w1) (Xb k2) bq1.1.1) w1),()),())))
 else
 e9000))
 else
 e9000))else none))
def Zjp(N:Nat)(w1:Y_World)(s2:(List Int×List Int×Int)×List (List (Int×Int×Int×Int)×List (List (Int×Int×Int×Int)))×List (Int×Int×Int))(a3:Int×Int×Int):Option ((Y_World×Unit)×Unit):=
    ((Zq N a3.2.1 0 (isub .i64 (ilen (P5 w1)) 1)).bind λbq3=>
 (bif !bq3.2.1 then
 (some (((iadd .i64 w1.1 1,w1.2),()),()))
 else
 (bif inb a3.2.1 (Xa (P5 w1))then
 (Wt (Xd (P5 w1) (Xb a3.2.1) d_Root) λe9001=>
 (bif inb a3.2.1 (Xa s2.2.1)then
 (Wt (iadd .i64 w1.1 1,(S4 (Xl (P5 w1) (Xb a3.2.1) e9001) w1.2)) λe9000=>
 (Wt (Xd s2.2.1 (Xb a3.2.1) (([]:List (Int×Int×Int×Int)),([]:List (List (Int×Int×Int×Int))))) λe9002=>
 (bif a3.1==1 then
 ((Zhe N e9000 a3.2.1 e9002).bind λbq1=>
 (some ((bq1.1.1,()),())))
 else
 (bif a3.1==2 then
 (bif e9001.1==2 then
 ((Zq N a3.2.2 0 (isub .i64 (ilen e9002.2) 1)).bind λbq2=>
 (bif bq2.2.1 then
 (bif inb a3.2.2 (Xa e9002.2)then
 ((Zie N (Q21 e9001) a3.2.2 (Xd e9002.2 (Xb a3.2.2) ([]:List (Int×Int×Int×Int))) w1.2.2.1).bind λbq1=>
 (some (((iadd .i64 w1.1 1,(S4 (Xl (P5 w1) (Xb a3.2.1) (U21 bq1.1.1 e9001)) w1.2)),()),())))else none)
 else
 (some ((e9000,()),()))))
 else
 (some ((e9000,()),())))
 else
 (bif a3.1==3 then
 ((Zq N e9001.1 1 4).bind λbq1=>
 (Wt (iadd .i64 w1.1 1,(S4 (Xl (P5 w1) (Xb a3.2.1) (S11 true e9001)) w1.2)) λe9003=>
 (bif bq1.2.1 then
 (some ((e9003,()),()))
 else
 (bif e9001.1==5 then
 (bif decide ((P20 e9001).2.2.1≤3)then
 (some ((e9003,()),()))
 else
 (some ((e9000,()),())))
 else
 (some ((e9000,()),()))))))
 else
 (some ((e9000,()),())))))))else none))else none)))
def Zat{R:Type}(N:Nat)(t5:List (Int×Int×Int))(b8:(List Int×List Int×Int)×List (List (Int×Int×Int×Int)×List (List (Int×Int×Int×Int)))×List (Int×Int×Int))(K0:Int→Bool→Int→Int→Int→Int→(List (Int×Int×Int))→(List Int)→(List (Int×Int×Int))→(List Y_Root)→(List (Int×Int×List (Int×Int)))→Option R):Nat→Int→Int→Int→Int→Int→(List (Int×Int×Int))→(List Int)→(List (Int×Int×Int))→(List Y_Root)→(List (Int×Int×List (Int×Int)))→Option R
  |0,_,_,_,_,_,_,_,_,_,_=>none
  |n+1,t7,b13,b14,b15,b16,l17,l18,l19,l20,l21=>
    (bif decide (t7<(ilen b8.2.2))then
 (bif inb t7 (Xa t5)then
 ((Zjp N (b13,(b14,((b15,l17),((l18,b16),(l19,(l20,l21)))))) b8 (Xd t5 (Xb t7) (0,0,0))).bind λbq1=>
 (Zat N t5 b8 K0 n (iadd .i64 t7 1) bq1.1.1.1 bq1.1.1.2.1 bq1.1.1.2.2.1.1 bq1.1.1.2.2.2.1.2 bq1.1.1.2.2.1.2 bq1.1.1.2.2.2.1.1 (P4 bq1.1.1) (P5 bq1.1.1) (Q6 bq1.1.1)))else none)
 else
 (K0 t7 (decide (t7<(ilen b8.2.2))) b13 b14 b15 b16 l17 l18 l19 l20 l21))
def Ze2(N:Nat)(s1:(List Int×List Int×Int)×List (List (Int×Int×Int×Int)×List (List (Int×Int×Int×Int)))×List (Int×Int×Int)):Option (Unit×(Y_World×Unit)):=
    ((Zky N s1).bind λo2=>
 (bif !o2.2.1 then
 (some ((),(d_World,())))
 else
 (both
 ((Zaz N s1.1.2.1).bind λo3=>
 (bif ((decide ((0:Int)≤(ilen s1.2.1)))&&(decide ((ilen s1.2.1)≤(ilen s1.2.1))))&&(room (Xb (ilen s1.2.1)))then
 ((Zbg N s1.1.1).bind λo4=>
 (Zat N s1.2.2 s1
 (λt36 t37 b38 b39 b40 b41 l42 l43 l44 l45 l46=>
   (some ((),((b38,(b39,((b40,l42),((l43,b41),(l44,(l45,l46)))))),()))))
  N 0 0 0 o4.2.1.1 s1.1.2.2 o4.2.1.2 o3.2.1 ([]:List (Int×Int×Int)) (Xu (Xb (ilen s1.2.1)) d_Root) ([]:List (Int×Int×List (Int×Int)))))else none))
 (both
 ((Zaz N s1.1.2.1).bind λo3=>
 (bif ((decide ((0:Int)≤(ilen s1.2.1)))&&(decide ((ilen s1.2.1)≤(ilen s1.2.1))))&&(room (Xb (ilen s1.2.1)))then
 ((Zbg N s1.1.1).bind λo4=>
 (Zat N s1.2.2 s1
 (λt36 t37 b38 b39 b40 b41 l42 l43 l44 l45 l46=>
   (some ((),((b38,(b39,((b40,l42),((l43,b41),(l44,(l45,l46)))))),()))))
  N 0 0 0 o4.2.1.1 s1.1.2.2 o4.2.1.2 o3.2.1 ([]:List (Int×Int×Int)) (Xu (Xb (ilen s1.2.1)) d_Root) ([]:List (Int×Int×List (Int×Int)))))else none))
 (both
 (bif ((decide ((0:Int)≤(ilen s1.2.1)))&&(decide ((ilen s1.2.1)≤(ilen s1.2.1))))&&(room (Xb (ilen s1.2.1)))then
 ((Zaz N s1.1.2.1).bind λo60=>
 ((Zbg N s1.1.1).bind λo61=>
 (Zat N s1.2.2 s1
 (λt62 t63 b64 b65 b66 b67 l68 l69 l70 l71 l72=>
   (some ((),((b64,(b65,((b66,l68),((l69,b67),(l70,(l71,l72)))))),()))))
  N 0 0 0 o61.2.1.1 s1.1.2.2 o61.2.1.2 o60.2.1 ([]:List (Int×Int×Int)) (Xu (Xb (ilen s1.2.1)) d_Root) ([]:List (Int×Int×List (Int×Int))))))else none)
 (both
 (bif ((decide ((0:Int)≤(ilen s1.2.1)))&&(decide ((ilen s1.2.1)≤(ilen s1.2.1))))&&(room (Xb (ilen s1.2.1)))then
 ((Zaz N s1.1.2.1).bind λo60=>
 ((Zbg N s1.1.1).bind λo61=>
 (Zat N s1.2.2 s1
 (λt62 t63 b64 b65 b66 b67 l68 l69 l70 l71 l72=>
   (some ((),((b64,(b65,((b66,l68),((l69,b67),(l70,(l71,l72)))))),()))))
  N 0 0 0 o61.2.1.1 s1.1.2.2 o61.2.1.2 o60.2.1 ([]:List (Int×Int×Int)) (Xu (Xb (ilen s1.2.1)) d_Root) ([]:List (Int×Int×List (Int×Int))))))else none)
 (both
 ((Zaz N s1.1.2.1).bind λo3=>
 (bif ((decide ((0:Int)≤(ilen s1.2.1)))&&(decide ((ilen s1.2.1)≤(ilen s1.2.1))))&&(room (Xb (ilen s1.2.1)))then
 ((Zbg N s1.1.1).bind λo4=>
 (Zat N s1.2.2 s1
 (λt36 t37 b38 b39 b40 b41 l42 l43 l44 l45 l46=>
   (some ((),((b38,(b39,((b40,l42),((l43,b41),(l44,(l45,l46)))))),()))))
  N 0 0 0 o4.2.1.1 s1.1.2.2 o4.2.1.2 o3.2.1 ([]:List (Int×Int×Int)) (Xu (Xb (ilen s1.2.1)) d_Root) ([]:List (Int×Int×List (Int×Int)))))else none))
 (bif ((decide ((0:Int)≤(ilen s1.2.1)))&&(decide ((ilen s1.2.1)≤(ilen s1.2.1))))&&(room (Xb (ilen s1.2.1)))then
 ((Zaz N s1.1.2.1).bind λo60=>
 ((Zbg N s1.1.1).bind λo61=>
 (Zat N s1.2.2 s1
 (λt62 t63 b64 b65 b66 b67 l68 l69 l70 l71 l72=>
   (some ((),((b64,(b65,((b66,l68),((l69,b67),(l70,(l71,l72)))))),()))))
  N 0 0 0 o61.2.1.1 s1.1.2.2 o61.2.1.2 o60.2.1 ([]:List (Int×Int×Int)) (Xu (Xb (ilen s1.2.1)) d_Root) ([]:List (Int×Int×List (Int×Int))))))else none))))))))
def Zja(N:Nat)(s1:Int):Option (Unit×(Int×(Int×Unit))):=
    (bif s1==0 then
 (some ((),((-1:Int),(0,()))))
 else
 (bif inz 65536 then
 (bif inz 65536 then
 (some ((),(iquo .i64 (isub .i64 s1 1) 65536,(irem (isub .i64 s1 1) 65536,()))))else none)else none))
def Zpf(N:Nat)(k1:Int):Option (Unit×(Bool×Unit)):=
    ((Zah N k1 0 7).bind λo2=>
 (some ((),(o2.2.1,()))))
def Zk0(N:Nat)(key1:Int):Option (Unit×(Int×Unit)):=
    ((Zpf N key1).bind λo2=>
 (bif !o2.2.1 then
 (some ((),((-1:Int),())))
 else
 (bif inz 4 then
 (some ((),(irem (iadd .i64 (imul .i64 key1 7) 3) 4,())))else none)))
def Zb9{R:Type}(N:Nat)(l2:List Int)(K0:Option R)(K1:Int→Bool→(List Bool)→Option R):Nat→Int→(List Bool)→Option R
  |0,_,_=>none
  |n+1,i3,l4=>
    (bif decide (i3<(ilen l2))then
 (bif inb i3 (Xa l2)then
 ((Zah N (Xd l2 (Xb i3) 0) 0 524288).bind λo11=>
 (bif !o11.2.1 then
 K0
 else
 (bif inb i3 (Xa l2)then
 ((Zja N (Xd l2 (Xb i3) 0)).bind λo12=>
 (bif decide (o12.2.1<0)then
 (Zb9 N l2 K0 K1 n (iadd .i64 i3 1) l4)
 else
 (bif inb o12.2.1 (Xa l4)then
 (bif Xd l4 (Xb o12.2.1) false then
 K0
 else
 ((Zk0 N o12.2.1).bind λo13=>
 (bif inz 4 then
 (bif o13.2.1 !=(iquo .i64 i3 4)then
 K0
 else
 (bif inb o12.2.1 (Xa l4)then
 (Zb9 N l2 K0 K1 n (iadd .i64 i3 1) (Xl l4 (Xb o12.2.1) true))else none))else none)))else none)))else none)))else none)
 else
 (K1 i3 (decide (i3<(ilen l2))) l4))
def Ze3(N:Nat)(l1:List Int):Option (Unit×(Bool×Unit)):=
    (bif (ilen l1) !=16 then
 (some ((),(false,())))
 else
 (bif ((decide ((0:Int)≤8))&&(decide ((8:Int)≤8)))&&(room (Xb 8))then
 (Zb9 N l1
 (some ((),(false,())))
 (λi14 t15 l16=>
   (some ((),(true,()))))
  N 0 (Xu (Xb 8) false))else none))
def Zcq{R:Type}(N:Nat)(t2:List Y_Root)(t3:Int)(K0:Int→Bool→(List Int)→Option R):Nat→Int→(List Int)→Option R
  |0,_,_=>none
  |n+1,t4,l5=>
    (bif decide (t4<t3)then
 (bif inb t4 (Xa t2)then
 (bif (Xd t2 (Xb t4) d_Root).1 !=0 then
 (bif (Xd t2 (Xb t4) d_Root).1 !=8 then
 (bif room ((Xa l5)+(Xa ([t4])))then
 (Zcq N t2 t3 K0 n (iadd .i64 t4 1) (Xe l5 ([t4])))else none)
 else
 (Zcq N t2 t3 K0 n (iadd .i64 t4 1) l5))
 else
 (Zcq N t2 t3 K0 n (iadd .i64 t4 1) l5))else none)
 else
 (K0 t4 (decide (t4<t3)) l5))
def Zhi(N:Nat)(w1:Y_World):Option (Unit×((List Int)×Unit)):=
    (Zcq N w1.2.2.2.2.2.1 (ilen w1.2.2.2.2.2.1)
 (λt9 t10 l11=>
   (some ((),(l11,()))))
  N 0 ([]:List Int))
def Zbm{R:Type}(N:Nat)(l2:List (Int×Int×Int))(K0:Option R)(K1:Int→Bool→Option R):Nat→Int→Option R
  |0,_=>none
  |n+1,i3=>
    (bif decide (i3<(ilen l2))then
 (bif inb i3 (Xa l2)then
 ((Zah N (Xd l2 (Xb i3) (0,0,0)).1 1 9).bind λo9=>
 (bif !o9.2.1 then
 K0
 else
 ((Zah N (Xd l2 (Xb i3) (0,0,0)).2.1 0 8).bind λo10=>
 (bif !o10.2.1 then
 K0
 else
 ((Zah N (Xd l2 (Xb i3) (0,0,0)).2.2 1 2).bind λo11=>
 (bif !o11.2.1 then
 K0
 else
 (bif decide (i3>0)then
 (bif inb (isub .i64 i3 1) (Xa l2)then
 (bif decide ((Xd l2 (Xb (isub .i64 i3 1)) (0,0,0)).2.1>(Xd l2 (Xb i3) (0,0,0)).2.1)then
 K0
 else
 (bif inb (isub .i64 i3 1) (Xa l2)then
 (bif (Xd l2 (Xb (isub .i64 i3 1)) (0,0,0)).2.1==(Xd l2 (Xb i3) (0,0,0)).2.1 then
 (bif inb (isub .i64 i3 1) (Xa l2)then
 (bif decide ((Xd l2 (Xb (isub .i64 i3 1)) (0,0,0)).1≥(Xd l2 (Xb i3) (0,0,0)).1)then
 K0
 else
 (bif (Xd l2 (Xb i3) (0,0,0)).2.2==2 then
 K0
 else
 (bif inb (isub .i64 i3 1) (Xa l2)then
 (bif (Xd l2 (Xb (isub .i64 i3 1)) (0,0,0)).2.2==2 then
 K0
 else
 (Zbm N l2 K0 K1 n (iadd .i64 i3 1)))else none)))else none)
 else
 (Zbm N l2 K0 K1 n (iadd .i64 i3 1)))else none))else none)
 else
 (Zbm N l2 K0 K1 n (iadd .i64 i3 1)))))))))else none)
 else
 (K1 i3 (decide (i3<(ilen l2)))))
def Ze4(N:Nat)(l1:List (Int×Int×Int)):Option (Unit×(Bool×Unit)):=
    (Zbm N l1
 (some ((),(false,())))
 (λi12 t13=>
   (some ((),(true,()))))
  N 0)
def Zjb(N:Nat)(s1:List Int×Int):Option (Unit×(Bool×Unit)):=
    ((Ze3 N s1.1).bind λo2=>
 (bif o2.2.1 then
 ((Zfl N s1.2).bind λo3=>
 (some ((),(o3.2.1,()))))
 else
 (some ((),(false,())))))
def Zgq{R:Type}(N:Nat)(l3:List Int)(x4:Int)(K0:Option R)(K1:Int→Bool→Option R):Nat→Int→Option R
  |0,_=>none
  |n+1,i5=>
    (bif decide (i5<(ilen l3))then
 (bif inb i5 (Xa l3)then
 (bif (Xd l3 (Xb i5) 0)==x4 then
 K0
 else
 (Zgq N l3 x4 K0 K1 n (iadd .i64 i5 1)))else none)
 else
 (K1 i5 (decide (i5<(ilen l3)))))
def Zik(N:Nat)(l1:List Int)(x2:Int):Option (Unit×(Bool×Unit)):=
    (Zgq N l1 x2
 (some ((),(true,())))
 (λi8 t9=>
   (some ((),(false,()))))
  N 0)
def Zbd{R:Type}(N:Nat)(b10:Y_World)(K0:Option R)(K1:Int→Bool→Option R):Nat→Int→Option R
  |0,_=>none
  |n+1,i9=>
    (bif decide (i9<(ilen b10.2.2.1.2))then
 (bif inb i9 (Xa b10.2.2.1.2)then
 (Wt (Xd b10.2.2.1.2 (Xb i9) (0,0,0)) λe9000=>
 (bif e9000.2.2 !=0 then
 (bif decide (e9000.2.2>(ilen (P5 b10)))then
 K0
 else
 (bif inb (isub .i64 e9000.2.2 1) (Xa (P5 b10))then
 (bif (Xd (P5 b10) (Xb (isub .i64 e9000.2.2 1)) d_Root).1 !=5 then
 K0
 else
 (Zbd N b10 K0 K1 n (iadd .i64 i9 1)))else none))
 else
 (Zbd N b10 K0 K1 n (iadd .i64 i9 1))))else none)
 else
 (K1 i9 (decide (i9<(ilen b10.2.2.1.2)))))
def Zbu{R:Type}(N:Nat)(b17:Y_World)(l18:List Int)(K0:Option R)(K1:Int→Bool→Option R):Nat→Int→Option R
  |0,_=>none
  |n+1,i16=>
    (bif decide (i16<(ilen b17.2.2.2.2.1))then
 (bif inb i16 (Xa b17.2.2.2.2.1)then
 ((Zik N l18 (isub .i64 (Xd b17.2.2.2.2.1 (Xb i16) (0,0,0)).1 1)).bind λo22=>
 (bif !o22.2.1 then
 K0
 else
 (Zbu N b17 l18 K0 K1 n (iadd .i64 i16 1))))else none)
 else
 (K1 i16 (decide (i16<(ilen b17.2.2.2.2.1)))))
end
end Go.Sx
