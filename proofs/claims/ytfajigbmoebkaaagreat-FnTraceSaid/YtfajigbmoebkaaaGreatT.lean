/- What each Go function computes, as a Lean function. -/
import Derived.Test.YtfajigbmoebkaaaGreatM3
namespace Go.Sx
noncomputable section
set_option linter.unusedVariables false
def P4 {a0 a1 a2 a3 a4 a5:Type} (x:a0 × a1 × a2 × a3 × a4 × a5):a4:=x.2.2.2.2.1
def P5 {a0 a1 a2 a3 a4 a5 a6:Type} (x:a0 × a1 × a2 × a3 × a4 × a5 × a6):a5:=x.2.2.2.2.2.1
def P6 {a0 a1 a2 a3 a4 a5 a6 a7:Type} (x:a0 × a1 × a2 × a3 × a4 × a5 × a6 × a7):a6:=x.2.2.2.2.2.2.1
def P7 {a0 a1 a2 a3 a4 a5 a6 a7 a8:Type} (x:a0 × a1 × a2 × a3 × a4 × a5 × a6 × a7 × a8):a7:=x.2.2.2.2.2.2.2.1
def P8 {a0 a1 a2 a3 a4 a5 a6 a7 a8 a9:Type} (x:a0 × a1 × a2 × a3 × a4 × a5 × a6 × a7 × a8 × a9):a8:=x.2.2.2.2.2.2.2.2.1
def P9 {a0 a1 a2 a3 a4 a5 a6 a7 a8 a9 a10:Type} (x:a0 × a1 × a2 × a3 × a4 × a5 × a6 × a7 × a8 × a9 × a10):a9:=x.2.2.2.2.2.2.2.2.2.1
def P10 {a0 a1 a2 a3 a4 a5 a6 a7 a8 a9 a10 a11:Type} (x:a0 × a1 × a2 × a3 × a4 × a5 × a6 × a7 × a8 × a9 × a10 × a11):a10:=x.2.2.2.2.2.2.2.2.2.2.1
def P11 {a0 a1 a2 a3 a4 a5 a6 a7 a8 a9 a10 a11 a12:Type} (x:a0 × a1 × a2 × a3 × a4 × a5 × a6 × a7 × a8 × a9 × a10 × a11 × a12):a11:=x.2.2.2.2.2.2.2.2.2.2.2.1
def P12 {a0 a1 a2 a3 a4 a5 a6 a7 a8 a9 a10 a11 a12 a13:Type} (x:a0 × a1 × a2 × a3 × a4 × a5 × a6 × a7 × a8 × a9 × a10 × a11 × a12 × a13):a12:=x.2.2.2.2.2.2.2.2.2.2.2.2.1
def P13 {a0 a1 a2 a3 a4 a5 a6 a7 a8 a9 a10 a11 a12 a13 a14:Type} (x:a0 × a1 × a2 × a3 × a4 × a5 × a6 × a7 × a8 × a9 × a10 × a11 × a12 × a13 × a14):a13:=x.2.2.2.2.2.2.2.2.2.2.2.2.2.1
def P14 {a0 a1 a2 a3 a4 a5 a6 a7 a8 a9 a10 a11 a12 a13 a14 a15:Type} (x:a0 × a1 × a2 × a3 × a4 × a5 × a6 × a7 × a8 × a9 × a10 × a11 × a12 × a13 × a14 × a15):a14:=x.2.2.2.2.2.2.2.2.2.2.2.2.2.2.1
def P15 {a0 a1 a2 a3 a4 a5 a6 a7 a8 a9 a10 a11 a12 a13 a14 a15 a16:Type} (x:a0 × a1 × a2 × a3 × a4 × a5 × a6 × a7 × a8 × a9 × a10 × a11 × a12 × a13 × a14 × a15 × a16):a15:=x.2.2.2.2.2.2.2.2.2.2.2.2.2.2.2.1
def P16 {a0 a1 a2 a3 a4 a5 a6 a7 a8 a9 a10 a11 a12 a13 a14 a15 a16 a17:Type} (x:a0 × a1 × a2 × a3 × a4 × a5 × a6 × a7 × a8 × a9 × a10 × a11 × a12 × a13 × a14 × a15 × a16 × a17):a16:=x.2.2.2.2.2.2.2.2.2.2.2.2.2.2.2.2.1
def P18 {a0 a1 a2 a3 a4 a5 a6 a7 a8 a9 a10 a11 a12 a13 a14 a15 a16 a17 a18 a19:Type} (x:a0 × a1 × a2 × a3 × a4 × a5 × a6 × a7 × a8 × a9 × a10 × a11 × a12 × a13 × a14 × a15 × a16 × a17 × a18 × a19):a18:=x.2.2.2.2.2.2.2.2.2.2.2.2.2.2.2.2.2.2.1
def P19 {a0 a1 a2 a3 a4 a5 a6 a7 a8 a9 a10 a11 a12 a13 a14 a15 a16 a17 a18 a19 a20:Type} (x:a0 × a1 × a2 × a3 × a4 × a5 × a6 × a7 × a8 × a9 × a10 × a11 × a12 × a13 × a14 × a15 × a16 × a17 × a18 × a19 × a20):a19:=x.2.2.2.2.2.2.2.2.2.2.2.2.2.2.2.2.2.2.2.1
def P20 {a0 a1 a2 a3 a4 a5 a6 a7 a8 a9 a10 a11 a12 a13 a14 a15 a16 a17 a18 a19 a20 a21:Type} (x:a0 × a1 × a2 × a3 × a4 × a5 × a6 × a7 × a8 × a9 × a10 × a11 × a12 × a13 × a14 × a15 × a16 × a17 × a18 × a19 × a20 × a21):a20:=x.2.2.2.2.2.2.2.2.2.2.2.2.2.2.2.2.2.2.2.2.1
def P24 {a0 a1 a2 a3 a4 a5 a6 a7 a8 a9 a10 a11 a12 a13 a14 a15 a16 a17 a18 a19 a20 a21 a22 a23 a24 a25:Type} (x:a0 × a1 × a2 × a3 × a4 × a5 × a6 × a7 × a8 × a9 × a10 × a11 × a12 × a13 × a14 × a15 × a16 × a17 × a18 × a19 × a20 × a21 × a22 × a23 × a24 × a25):a24:=x.2.2.2.2.2.2.2.2.2.2.2.2.2.2.2.2.2.2.2.2.2.2.2.2.1
def P28 {a0 a1 a2 a3 a4 a5 a6 a7 a8 a9 a10 a11 a12 a13 a14 a15 a16 a17 a18 a19 a20 a21 a22 a23 a24 a25 a26 a27 a28 a29:Type} (x:a0 × a1 × a2 × a3 × a4 × a5 × a6 × a7 × a8 × a9 × a10 × a11 × a12 × a13 × a14 × a15 × a16 × a17 × a18 × a19 × a20 × a21 × a22 × a23 × a24 × a25 × a26 × a27 × a28 × a29):a28:=x.2.2.2.2.2.2.2.2.2.2.2.2.2.2.2.2.2.2.2.2.2.2.2.2.2.2.2.2.1
def P29 {a0 a1 a2 a3 a4 a5 a6 a7 a8 a9 a10 a11 a12 a13 a14 a15 a16 a17 a18 a19 a20 a21 a22 a23 a24 a25 a26 a27 a28 a29 a30:Type} (x:a0 × a1 × a2 × a3 × a4 × a5 × a6 × a7 × a8 × a9 × a10 × a11 × a12 × a13 × a14 × a15 × a16 × a17 × a18 × a19 × a20 × a21 × a22 × a23 × a24 × a25 × a26 × a27 × a28 × a29 × a30):a29:=x.2.2.2.2.2.2.2.2.2.2.2.2.2.2.2.2.2.2.2.2.2.2.2.2.2.2.2.2.2.1
def Q6 {a0 a1 a2 a3 a4 a5 a6:Type} (x:a0 × a1 × a2 × a3 × a4 × a5 × a6):a6:=x.2.2.2.2.2.2
def Q9 {a0 a1 a2 a3 a4 a5 a6 a7 a8 a9:Type} (x:a0 × a1 × a2 × a3 × a4 × a5 × a6 × a7 × a8 × a9):a9:=x.2.2.2.2.2.2.2.2.2
def Q11 {a0 a1 a2 a3 a4 a5 a6 a7 a8 a9 a10 a11:Type} (x:a0 × a1 × a2 × a3 × a4 × a5 × a6 × a7 × a8 × a9 × a10 × a11):a11:=x.2.2.2.2.2.2.2.2.2.2.2
def Q21 {a0 a1 a2 a3 a4 a5 a6 a7 a8 a9 a10 a11 a12 a13 a14 a15 a16 a17 a18 a19 a20 a21:Type} (x:a0 × a1 × a2 × a3 × a4 × a5 × a6 × a7 × a8 × a9 × a10 × a11 × a12 × a13 × a14 × a15 × a16 × a17 × a18 × a19 × a20 × a21):a21:=x.2.2.2.2.2.2.2.2.2.2.2.2.2.2.2.2.2.2.2.2.2
def S0 {a0 a1:Type} (v:a0) (x:a0 × a1):a0 × a1:=(v,x.2)
def S1 {a0 a1 a2:Type} (v:a1) (x:a0 × a1 × a2):a0 × a1 × a2:=(x.1,v,x.2.2)
def S2 {a0 a1 a2 a3:Type} (v:a2) (x:a0 × a1 × a2 × a3):a0 × a1 × a2 × a3:=(x.1,x.2.1,v,x.2.2.2)
def S3 {a0 a1 a2 a3 a4:Type} (v:a3) (x:a0 × a1 × a2 × a3 × a4):a0 × a1 × a2 × a3 × a4:=(x.1,x.2.1,x.2.2.1,v,x.2.2.2.2)
def S4 {a0 a1 a2 a3 a4 a5:Type} (v:a4) (x:a0 × a1 × a2 × a3 × a4 × a5):a0 × a1 × a2 × a3 × a4 × a5:=(x.1,x.2.1,x.2.2.1,x.2.2.2.1,v,x.2.2.2.2.2)
def S5 {a0 a1 a2 a3 a4 a5 a6:Type} (v:a5) (x:a0 × a1 × a2 × a3 × a4 × a5 × a6):a0 × a1 × a2 × a3 × a4 × a5 × a6:=(x.1,x.2.1,x.2.2.1,x.2.2.2.1,x.2.2.2.2.1,v,x.2.2.2.2.2.2)
def S6 {a0 a1 a2 a3 a4 a5 a6 a7:Type} (v:a6) (x:a0 × a1 × a2 × a3 × a4 × a5 × a6 × a7):a0 × a1 × a2 × a3 × a4 × a5 × a6 × a7:=(x.1,x.2.1,x.2.2.1,x.2.2.2.1,x.2.2.2.2.1,x.2.2.2.2.2.1,v,x.2.2.2.2.2.2.2)
def S7 {a0 a1 a2 a3 a4 a5 a6 a7 a8:Type} (v:a7) (x:a0 × a1 × a2 × a3 × a4 × a5 × a6 × a7 × a8):a0 × a1 × a2 × a3 × a4 × a5 × a6 × a7 × a8:=(x.1,x.2.1,x.2.2.1,x.2.2.2.1,x.2.2.2.2.1,x.2.2.2.2.2.1,x.2.2.2.2.2.2.1,v,x.2.2.2.2.2.2.2.2)
def S8 {a0 a1 a2 a3 a4 a5 a6 a7 a8 a9:Type} (v:a8) (x:a0 × a1 × a2 × a3 × a4 × a5 × a6 × a7 × a8 × a9):a0 × a1 × a2 × a3 × a4 × a5 × a6 × a7 × a8 × a9:=(x.1,x.2.1,x.2.2.1,x.2.2.2.1,x.2.2.2.2.1,x.2.2.2.2.2.1,x.2.2.2.2.2.2.1,x.2.2.2.2.2.2.2.1,v,x.2.2.2.2.2.2.2.2.2)
def S9 {a0 a1 a2 a3 a4 a5 a6 a7 a8 a9 a10:Type} (v:a9) (x:a0 × a1 × a2 × a3 × a4 × a5 × a6 × a7 × a8 × a9 × a10):a0 × a1 × a2 × a3 × a4 × a5 × a6 × a7 × a8 × a9 × a10:=(x.1,x.2.1,x.2.2.1,x.2.2.2.1,x.2.2.2.2.1,x.2.2.2.2.2.1,x.2.2.2.2.2.2.1,x.2.2.2.2.2.2.2.1,x.2.2.2.2.2.2.2.2.1,v,x.2.2.2.2.2.2.2.2.2.2)
def S10 {a0 a1 a2 a3 a4 a5 a6 a7 a8 a9 a10 a11:Type} (v:a10) (x:a0 × a1 × a2 × a3 × a4 × a5 × a6 × a7 × a8 × a9 × a10 × a11):a0 × a1 × a2 × a3 × a4 × a5 × a6 × a7 × a8 × a9 × a10 × a11:=(x.1,x.2.1,x.2.2.1,x.2.2.2.1,x.2.2.2.2.1,x.2.2.2.2.2.1,x.2.2.2.2.2.2.1,x.2.2.2.2.2.2.2.1,x.2.2.2.2.2.2.2.2.1,x.2.2.2.2.2.2.2.2.2.1,v,x.2.2.2.2.2.2.2.2.2.2.2)
def S11 {a0 a1 a2 a3 a4 a5 a6 a7 a8 a9 a10 a11 a12:Type} (v:a11) (x:a0 × a1 × a2 × a3 × a4 × a5 × a6 × a7 × a8 × a9 × a10 × a11 × a12):a0 × a1 × a2 × a3 × a4 × a5 × a6 × a7 × a8 × a9 × a10 × a11 × a12:=(x.1,x.2.1,x.2.2.1,x.2.2.2.1,x.2.2.2.2.1,x.2.2.2.2.2.1,x.2.2.2.2.2.2.1,x.2.2.2.2.2.2.2.1,x.2.2.2.2.2.2.2.2.1,x.2.2.2.2.2.2.2.2.2.1,x.2.2.2.2.2.2.2.2.2.2.1,v,x.2.2.2.2.2.2.2.2.2.2.2.2)
def S12 {a0 a1 a2 a3 a4 a5 a6 a7 a8 a9 a10 a11 a12 a13:Type} (v:a12) (x:a0 × a1 × a2 × a3 × a4 × a5 × a6 × a7 × a8 × a9 × a10 × a11 × a12 × a13):a0 × a1 × a2 × a3 × a4 × a5 × a6 × a7 × a8 × a9 × a10 × a11 × a12 × a13:=(x.1,x.2.1,x.2.2.1,x.2.2.2.1,x.2.2.2.2.1,x.2.2.2.2.2.1,x.2.2.2.2.2.2.1,x.2.2.2.2.2.2.2.1,x.2.2.2.2.2.2.2.2.1,x.2.2.2.2.2.2.2.2.2.1,x.2.2.2.2.2.2.2.2.2.2.1,x.2.2.2.2.2.2.2.2.2.2.2.1,v,x.2.2.2.2.2.2.2.2.2.2.2.2.2)
def S13 {a0 a1 a2 a3 a4 a5 a6 a7 a8 a9 a10 a11 a12 a13 a14:Type} (v:a13) (x:a0 × a1 × a2 × a3 × a4 × a5 × a6 × a7 × a8 × a9 × a10 × a11 × a12 × a13 × a14):a0 × a1 × a2 × a3 × a4 × a5 × a6 × a7 × a8 × a9 × a10 × a11 × a12 × a13 × a14:=(x.1,x.2.1,x.2.2.1,x.2.2.2.1,x.2.2.2.2.1,x.2.2.2.2.2.1,x.2.2.2.2.2.2.1,x.2.2.2.2.2.2.2.1,x.2.2.2.2.2.2.2.2.1,x.2.2.2.2.2.2.2.2.2.1,x.2.2.2.2.2.2.2.2.2.2.1,x.2.2.2.2.2.2.2.2.2.2.2.1,x.2.2.2.2.2.2.2.2.2.2.2.2.1,v,x.2.2.2.2.2.2.2.2.2.2.2.2.2.2)
def S14 {a0 a1 a2 a3 a4 a5 a6 a7 a8 a9 a10 a11 a12 a13 a14 a15:Type} (v:a14) (x:a0 × a1 × a2 × a3 × a4 × a5 × a6 × a7 × a8 × a9 × a10 × a11 × a12 × a13 × a14 × a15):a0 × a1 × a2 × a3 × a4 × a5 × a6 × a7 × a8 × a9 × a10 × a11 × a12 × a13 × a14 × a15:=(x.1,x.2.1,x.2.2.1,x.2.2.2.1,x.2.2.2.2.1,x.2.2.2.2.2.1,x.2.2.2.2.2.2.1,x.2.2.2.2.2.2.2.1,x.2.2.2.2.2.2.2.2.1,x.2.2.2.2.2.2.2.2.2.1,x.2.2.2.2.2.2.2.2.2.2.1,x.2.2.2.2.2.2.2.2.2.2.2.1,x.2.2.2.2.2.2.2.2.2.2.2.2.1,x.2.2.2.2.2.2.2.2.2.2.2.2.2.1,v,x.2.2.2.2.2.2.2.2.2.2.2.2.2.2.2)
def S15 {a0 a1 a2 a3 a4 a5 a6 a7 a8 a9 a10 a11 a12 a13 a14 a15 a16:Type} (v:a15) (x:a0 × a1 × a2 × a3 × a4 × a5 × a6 × a7 × a8 × a9 × a10 × a11 × a12 × a13 × a14 × a15 × a16):a0 × a1 × a2 × a3 × a4 × a5 × a6 × a7 × a8 × a9 × a10 × a11 × a12 × a13 × a14 × a15 × a16:=(x.1,x.2.1,x.2.2.1,x.2.2.2.1,x.2.2.2.2.1,x.2.2.2.2.2.1,x.2.2.2.2.2.2.1,x.2.2.2.2.2.2.2.1,x.2.2.2.2.2.2.2.2.1,x.2.2.2.2.2.2.2.2.2.1,x.2.2.2.2.2.2.2.2.2.2.1,x.2.2.2.2.2.2.2.2.2.2.2.1,x.2.2.2.2.2.2.2.2.2.2.2.2.1,x.2.2.2.2.2.2.2.2.2.2.2.2.2.1,x.2.2.2.2.2.2.2.2.2.2.2.2.2.2.1,v,x.2.2.2.2.2.2.2.2.2.2.2.2.2.2.2.2)
def S16 {a0 a1 a2 a3 a4 a5 a6 a7 a8 a9 a10 a11 a12 a13 a14 a15 a16 a17:Type} (v:a16) (x:a0 × a1 × a2 × a3 × a4 × a5 × a6 × a7 × a8 × a9 × a10 × a11 × a12 × a13 × a14 × a15 × a16 × a17):a0 × a1 × a2 × a3 × a4 × a5 × a6 × a7 × a8 × a9 × a10 × a11 × a12 × a13 × a14 × a15 × a16 × a17:=(x.1,x.2.1,x.2.2.1,x.2.2.2.1,x.2.2.2.2.1,x.2.2.2.2.2.1,x.2.2.2.2.2.2.1,x.2.2.2.2.2.2.2.1,x.2.2.2.2.2.2.2.2.1,x.2.2.2.2.2.2.2.2.2.1,x.2.2.2.2.2.2.2.2.2.2.1,x.2.2.2.2.2.2.2.2.2.2.2.1,x.2.2.2.2.2.2.2.2.2.2.2.2.1,x.2.2.2.2.2.2.2.2.2.2.2.2.2.1,x.2.2.2.2.2.2.2.2.2.2.2.2.2.2.1,x.2.2.2.2.2.2.2.2.2.2.2.2.2.2.2.1,v,x.2.2.2.2.2.2.2.2.2.2.2.2.2.2.2.2.2)
def S17 {a0 a1 a2 a3 a4 a5 a6 a7 a8 a9 a10 a11 a12 a13 a14 a15 a16 a17 a18:Type} (v:a17) (x:a0 × a1 × a2 × a3 × a4 × a5 × a6 × a7 × a8 × a9 × a10 × a11 × a12 × a13 × a14 × a15 × a16 × a17 × a18):a0 × a1 × a2 × a3 × a4 × a5 × a6 × a7 × a8 × a9 × a10 × a11 × a12 × a13 × a14 × a15 × a16 × a17 × a18:=(x.1,x.2.1,x.2.2.1,x.2.2.2.1,x.2.2.2.2.1,x.2.2.2.2.2.1,x.2.2.2.2.2.2.1,x.2.2.2.2.2.2.2.1,x.2.2.2.2.2.2.2.2.1,x.2.2.2.2.2.2.2.2.2.1,x.2.2.2.2.2.2.2.2.2.2.1,x.2.2.2.2.2.2.2.2.2.2.2.1,x.2.2.2.2.2.2.2.2.2.2.2.2.1,x.2.2.2.2.2.2.2.2.2.2.2.2.2.1,x.2.2.2.2.2.2.2.2.2.2.2.2.2.2.1,x.2.2.2.2.2.2.2.2.2.2.2.2.2.2.2.1,x.2.2.2.2.2.2.2.2.2.2.2.2.2.2.2.2.1,v,x.2.2.2.2.2.2.2.2.2.2.2.2.2.2.2.2.2.2)
def S18 {a0 a1 a2 a3 a4 a5 a6 a7 a8 a9 a10 a11 a12 a13 a14 a15 a16 a17 a18 a19:Type} (v:a18) (x:a0 × a1 × a2 × a3 × a4 × a5 × a6 × a7 × a8 × a9 × a10 × a11 × a12 × a13 × a14 × a15 × a16 × a17 × a18 × a19):a0 × a1 × a2 × a3 × a4 × a5 × a6 × a7 × a8 × a9 × a10 × a11 × a12 × a13 × a14 × a15 × a16 × a17 × a18 × a19:=(x.1,x.2.1,x.2.2.1,x.2.2.2.1,x.2.2.2.2.1,x.2.2.2.2.2.1,x.2.2.2.2.2.2.1,x.2.2.2.2.2.2.2.1,x.2.2.2.2.2.2.2.2.1,x.2.2.2.2.2.2.2.2.2.1,x.2.2.2.2.2.2.2.2.2.2.1,x.2.2.2.2.2.2.2.2.2.2.2.1,x.2.2.2.2.2.2.2.2.2.2.2.2.1,x.2.2.2.2.2.2.2.2.2.2.2.2.2.1,x.2.2.2.2.2.2.2.2.2.2.2.2.2.2.1,x.2.2.2.2.2.2.2.2.2.2.2.2.2.2.2.1,x.2.2.2.2.2.2.2.2.2.2.2.2.2.2.2.2.1,x.2.2.2.2.2.2.2.2.2.2.2.2.2.2.2.2.2.1,v,x.2.2.2.2.2.2.2.2.2.2.2.2.2.2.2.2.2.2.2)
def S19 {a0 a1 a2 a3 a4 a5 a6 a7 a8 a9 a10 a11 a12 a13 a14 a15 a16 a17 a18 a19 a20:Type} (v:a19) (x:a0 × a1 × a2 × a3 × a4 × a5 × a6 × a7 × a8 × a9 × a10 × a11 × a12 × a13 × a14 × a15 × a16 × a17 × a18 × a19 × a20):a0 × a1 × a2 × a3 × a4 × a5 × a6 × a7 × a8 × a9 × a10 × a11 × a12 × a13 × a14 × a15 × a16 × a17 × a18 × a19 × a20:=(x.1,x.2.1,x.2.2.1,x.2.2.2.1,x.2.2.2.2.1,x.2.2.2.2.2.1,x.2.2.2.2.2.2.1,x.2.2.2.2.2.2.2.1,x.2.2.2.2.2.2.2.2.1,x.2.2.2.2.2.2.2.2.2.1,x.2.2.2.2.2.2.2.2.2.2.1,x.2.2.2.2.2.2.2.2.2.2.2.1,x.2.2.2.2.2.2.2.2.2.2.2.2.1,x.2.2.2.2.2.2.2.2.2.2.2.2.2.1,x.2.2.2.2.2.2.2.2.2.2.2.2.2.2.1,x.2.2.2.2.2.2.2.2.2.2.2.2.2.2.2.1,x.2.2.2.2.2.2.2.2.2.2.2.2.2.2.2.2.1,x.2.2.2.2.2.2.2.2.2.2.2.2.2.2.2.2.2.1,x.2.2.2.2.2.2.2.2.2.2.2.2.2.2.2.2.2.2.1,v,x.2.2.2.2.2.2.2.2.2.2.2.2.2.2.2.2.2.2.2.2)
def S20 {a0 a1 a2 a3 a4 a5 a6 a7 a8 a9 a10 a11 a12 a13 a14 a15 a16 a17 a18 a19 a20 a21:Type} (v:a20) (x:a0 × a1 × a2 × a3 × a4 × a5 × a6 × a7 × a8 × a9 × a10 × a11 × a12 × a13 × a14 × a15 × a16 × a17 × a18 × a19 × a20 × a21):a0 × a1 × a2 × a3 × a4 × a5 × a6 × a7 × a8 × a9 × a10 × a11 × a12 × a13 × a14 × a15 × a16 × a17 × a18 × a19 × a20 × a21:=(x.1,x.2.1,x.2.2.1,x.2.2.2.1,x.2.2.2.2.1,x.2.2.2.2.2.1,x.2.2.2.2.2.2.1,x.2.2.2.2.2.2.2.1,x.2.2.2.2.2.2.2.2.1,x.2.2.2.2.2.2.2.2.2.1,x.2.2.2.2.2.2.2.2.2.2.1,x.2.2.2.2.2.2.2.2.2.2.2.1,x.2.2.2.2.2.2.2.2.2.2.2.2.1,x.2.2.2.2.2.2.2.2.2.2.2.2.2.1,x.2.2.2.2.2.2.2.2.2.2.2.2.2.2.1,x.2.2.2.2.2.2.2.2.2.2.2.2.2.2.2.1,x.2.2.2.2.2.2.2.2.2.2.2.2.2.2.2.2.1,x.2.2.2.2.2.2.2.2.2.2.2.2.2.2.2.2.2.1,x.2.2.2.2.2.2.2.2.2.2.2.2.2.2.2.2.2.2.1,x.2.2.2.2.2.2.2.2.2.2.2.2.2.2.2.2.2.2.2.1,v,x.2.2.2.2.2.2.2.2.2.2.2.2.2.2.2.2.2.2.2.2.2)
def U4 {a0 a1 a2 a3 a4:Type} (v:a4) (x:a0 × a1 × a2 × a3 × a4):a0 × a1 × a2 × a3 × a4:=(x.1,x.2.1,x.2.2.1,x.2.2.2.1,v)
def U5 {a0 a1 a2 a3 a4 a5:Type} (v:a5) (x:a0 × a1 × a2 × a3 × a4 × a5):a0 × a1 × a2 × a3 × a4 × a5:=(x.1,x.2.1,x.2.2.1,x.2.2.2.1,x.2.2.2.2.1,v)
def U6 {a0 a1 a2 a3 a4 a5 a6:Type} (v:a6) (x:a0 × a1 × a2 × a3 × a4 × a5 × a6):a0 × a1 × a2 × a3 × a4 × a5 × a6:=(x.1,x.2.1,x.2.2.1,x.2.2.2.1,x.2.2.2.2.1,x.2.2.2.2.2.1,v)
def U7 {a0 a1 a2 a3 a4 a5 a6 a7:Type} (v:a7) (x:a0 × a1 × a2 × a3 × a4 × a5 × a6 × a7):a0 × a1 × a2 × a3 × a4 × a5 × a6 × a7:=(x.1,x.2.1,x.2.2.1,x.2.2.2.1,x.2.2.2.2.1,x.2.2.2.2.2.1,x.2.2.2.2.2.2.1,v)
def U8 {a0 a1 a2 a3 a4 a5 a6 a7 a8:Type} (v:a8) (x:a0 × a1 × a2 × a3 × a4 × a5 × a6 × a7 × a8):a0 × a1 × a2 × a3 × a4 × a5 × a6 × a7 × a8:=(x.1,x.2.1,x.2.2.1,x.2.2.2.1,x.2.2.2.2.1,x.2.2.2.2.2.1,x.2.2.2.2.2.2.1,x.2.2.2.2.2.2.2.1,v)
def U9 {a0 a1 a2 a3 a4 a5 a6 a7 a8 a9:Type} (v:a9) (x:a0 × a1 × a2 × a3 × a4 × a5 × a6 × a7 × a8 × a9):a0 × a1 × a2 × a3 × a4 × a5 × a6 × a7 × a8 × a9:=(x.1,x.2.1,x.2.2.1,x.2.2.2.1,x.2.2.2.2.1,x.2.2.2.2.2.1,x.2.2.2.2.2.2.1,x.2.2.2.2.2.2.2.1,x.2.2.2.2.2.2.2.2.1,v)
def U10 {a0 a1 a2 a3 a4 a5 a6 a7 a8 a9 a10:Type} (v:a10) (x:a0 × a1 × a2 × a3 × a4 × a5 × a6 × a7 × a8 × a9 × a10):a0 × a1 × a2 × a3 × a4 × a5 × a6 × a7 × a8 × a9 × a10:=(x.1,x.2.1,x.2.2.1,x.2.2.2.1,x.2.2.2.2.1,x.2.2.2.2.2.1,x.2.2.2.2.2.2.1,x.2.2.2.2.2.2.2.1,x.2.2.2.2.2.2.2.2.1,x.2.2.2.2.2.2.2.2.2.1,v)
def U11 {a0 a1 a2 a3 a4 a5 a6 a7 a8 a9 a10 a11:Type} (v:a11) (x:a0 × a1 × a2 × a3 × a4 × a5 × a6 × a7 × a8 × a9 × a10 × a11):a0 × a1 × a2 × a3 × a4 × a5 × a6 × a7 × a8 × a9 × a10 × a11:=(x.1,x.2.1,x.2.2.1,x.2.2.2.1,x.2.2.2.2.1,x.2.2.2.2.2.1,x.2.2.2.2.2.2.1,x.2.2.2.2.2.2.2.1,x.2.2.2.2.2.2.2.2.1,x.2.2.2.2.2.2.2.2.2.1,x.2.2.2.2.2.2.2.2.2.2.1,v)
def U12 {a0 a1 a2 a3 a4 a5 a6 a7 a8 a9 a10 a11 a12:Type} (v:a12) (x:a0 × a1 × a2 × a3 × a4 × a5 × a6 × a7 × a8 × a9 × a10 × a11 × a12):a0 × a1 × a2 × a3 × a4 × a5 × a6 × a7 × a8 × a9 × a10 × a11 × a12:=(x.1,x.2.1,x.2.2.1,x.2.2.2.1,x.2.2.2.2.1,x.2.2.2.2.2.1,x.2.2.2.2.2.2.1,x.2.2.2.2.2.2.2.1,x.2.2.2.2.2.2.2.2.1,x.2.2.2.2.2.2.2.2.2.1,x.2.2.2.2.2.2.2.2.2.2.1,x.2.2.2.2.2.2.2.2.2.2.2.1,v)
def U13 {a0 a1 a2 a3 a4 a5 a6 a7 a8 a9 a10 a11 a12 a13:Type} (v:a13) (x:a0 × a1 × a2 × a3 × a4 × a5 × a6 × a7 × a8 × a9 × a10 × a11 × a12 × a13):a0 × a1 × a2 × a3 × a4 × a5 × a6 × a7 × a8 × a9 × a10 × a11 × a12 × a13:=(x.1,x.2.1,x.2.2.1,x.2.2.2.1,x.2.2.2.2.1,x.2.2.2.2.2.1,x.2.2.2.2.2.2.1,x.2.2.2.2.2.2.2.1,x.2.2.2.2.2.2.2.2.1,x.2.2.2.2.2.2.2.2.2.1,x.2.2.2.2.2.2.2.2.2.2.1,x.2.2.2.2.2.2.2.2.2.2.2.1,x.2.2.2.2.2.2.2.2.2.2.2.2.1,v)
def U14 {a0 a1 a2 a3 a4 a5 a6 a7 a8 a9 a10 a11 a12 a13 a14:Type} (v:a14) (x:a0 × a1 × a2 × a3 × a4 × a5 × a6 × a7 × a8 × a9 × a10 × a11 × a12 × a13 × a14):a0 × a1 × a2 × a3 × a4 × a5 × a6 × a7 × a8 × a9 × a10 × a11 × a12 × a13 × a14:=(x.1,x.2.1,x.2.2.1,x.2.2.2.1,x.2.2.2.2.1,x.2.2.2.2.2.1,x.2.2.2.2.2.2.1,x.2.2.2.2.2.2.2.1,x.2.2.2.2.2.2.2.2.1,x.2.2.2.2.2.2.2.2.2.1,x.2.2.2.2.2.2.2.2.2.2.1,x.2.2.2.2.2.2.2.2.2.2.2.1,x.2.2.2.2.2.2.2.2.2.2.2.2.1,x.2.2.2.2.2.2.2.2.2.2.2.2.2.1,v)
def U15 {a0 a1 a2 a3 a4 a5 a6 a7 a8 a9 a10 a11 a12 a13 a14 a15:Type} (v:a15) (x:a0 × a1 × a2 × a3 × a4 × a5 × a6 × a7 × a8 × a9 × a10 × a11 × a12 × a13 × a14 × a15):a0 × a1 × a2 × a3 × a4 × a5 × a6 × a7 × a8 × a9 × a10 × a11 × a12 × a13 × a14 × a15:=(x.1,x.2.1,x.2.2.1,x.2.2.2.1,x.2.2.2.2.1,x.2.2.2.2.2.1,x.2.2.2.2.2.2.1,x.2.2.2.2.2.2.2.1,x.2.2.2.2.2.2.2.2.1,x.2.2.2.2.2.2.2.2.2.1,x.2.2.2.2.2.2.2.2.2.2.1,x.2.2.2.2.2.2.2.2.2.2.2.1,x.2.2.2.2.2.2.2.2.2.2.2.2.1,x.2.2.2.2.2.2.2.2.2.2.2.2.2.1,x.2.2.2.2.2.2.2.2.2.2.2.2.2.2.1,v)
def U16 {a0 a1 a2 a3 a4 a5 a6 a7 a8 a9 a10 a11 a12 a13 a14 a15 a16:Type} (v:a16) (x:a0 × a1 × a2 × a3 × a4 × a5 × a6 × a7 × a8 × a9 × a10 × a11 × a12 × a13 × a14 × a15 × a16):a0 × a1 × a2 × a3 × a4 × a5 × a6 × a7 × a8 × a9 × a10 × a11 × a12 × a13 × a14 × a15 × a16:=(x.1,x.2.1,x.2.2.1,x.2.2.2.1,x.2.2.2.2.1,x.2.2.2.2.2.1,x.2.2.2.2.2.2.1,x.2.2.2.2.2.2.2.1,x.2.2.2.2.2.2.2.2.1,x.2.2.2.2.2.2.2.2.2.1,x.2.2.2.2.2.2.2.2.2.2.1,x.2.2.2.2.2.2.2.2.2.2.2.1,x.2.2.2.2.2.2.2.2.2.2.2.2.1,x.2.2.2.2.2.2.2.2.2.2.2.2.2.1,x.2.2.2.2.2.2.2.2.2.2.2.2.2.2.1,x.2.2.2.2.2.2.2.2.2.2.2.2.2.2.2.1,v)
def U17 {a0 a1 a2 a3 a4 a5 a6 a7 a8 a9 a10 a11 a12 a13 a14 a15 a16 a17:Type} (v:a17) (x:a0 × a1 × a2 × a3 × a4 × a5 × a6 × a7 × a8 × a9 × a10 × a11 × a12 × a13 × a14 × a15 × a16 × a17):a0 × a1 × a2 × a3 × a4 × a5 × a6 × a7 × a8 × a9 × a10 × a11 × a12 × a13 × a14 × a15 × a16 × a17:=(x.1,x.2.1,x.2.2.1,x.2.2.2.1,x.2.2.2.2.1,x.2.2.2.2.2.1,x.2.2.2.2.2.2.1,x.2.2.2.2.2.2.2.1,x.2.2.2.2.2.2.2.2.1,x.2.2.2.2.2.2.2.2.2.1,x.2.2.2.2.2.2.2.2.2.2.1,x.2.2.2.2.2.2.2.2.2.2.2.1,x.2.2.2.2.2.2.2.2.2.2.2.2.1,x.2.2.2.2.2.2.2.2.2.2.2.2.2.1,x.2.2.2.2.2.2.2.2.2.2.2.2.2.2.1,x.2.2.2.2.2.2.2.2.2.2.2.2.2.2.2.1,x.2.2.2.2.2.2.2.2.2.2.2.2.2.2.2.2.1,v)
def U18 {a0 a1 a2 a3 a4 a5 a6 a7 a8 a9 a10 a11 a12 a13 a14 a15 a16 a17 a18:Type} (v:a18) (x:a0 × a1 × a2 × a3 × a4 × a5 × a6 × a7 × a8 × a9 × a10 × a11 × a12 × a13 × a14 × a15 × a16 × a17 × a18):a0 × a1 × a2 × a3 × a4 × a5 × a6 × a7 × a8 × a9 × a10 × a11 × a12 × a13 × a14 × a15 × a16 × a17 × a18:=(x.1,x.2.1,x.2.2.1,x.2.2.2.1,x.2.2.2.2.1,x.2.2.2.2.2.1,x.2.2.2.2.2.2.1,x.2.2.2.2.2.2.2.1,x.2.2.2.2.2.2.2.2.1,x.2.2.2.2.2.2.2.2.2.1,x.2.2.2.2.2.2.2.2.2.2.1,x.2.2.2.2.2.2.2.2.2.2.2.1,x.2.2.2.2.2.2.2.2.2.2.2.2.1,x.2.2.2.2.2.2.2.2.2.2.2.2.2.1,x.2.2.2.2.2.2.2.2.2.2.2.2.2.2.1,x.2.2.2.2.2.2.2.2.2.2.2.2.2.2.2.1,x.2.2.2.2.2.2.2.2.2.2.2.2.2.2.2.2.1,x.2.2.2.2.2.2.2.2.2.2.2.2.2.2.2.2.2.1,v)
def U19 {a0 a1 a2 a3 a4 a5 a6 a7 a8 a9 a10 a11 a12 a13 a14 a15 a16 a17 a18 a19:Type} (v:a19) (x:a0 × a1 × a2 × a3 × a4 × a5 × a6 × a7 × a8 × a9 × a10 × a11 × a12 × a13 × a14 × a15 × a16 × a17 × a18 × a19):a0 × a1 × a2 × a3 × a4 × a5 × a6 × a7 × a8 × a9 × a10 × a11 × a12 × a13 × a14 × a15 × a16 × a17 × a18 × a19:=(x.1,x.2.1,x.2.2.1,x.2.2.2.1,x.2.2.2.2.1,x.2.2.2.2.2.1,x.2.2.2.2.2.2.1,x.2.2.2.2.2.2.2.1,x.2.2.2.2.2.2.2.2.1,x.2.2.2.2.2.2.2.2.2.1,x.2.2.2.2.2.2.2.2.2.2.1,x.2.2.2.2.2.2.2.2.2.2.2.1,x.2.2.2.2.2.2.2.2.2.2.2.2.1,x.2.2.2.2.2.2.2.2.2.2.2.2.2.1,x.2.2.2.2.2.2.2.2.2.2.2.2.2.2.1,x.2.2.2.2.2.2.2.2.2.2.2.2.2.2.2.1,x.2.2.2.2.2.2.2.2.2.2.2.2.2.2.2.2.1,x.2.2.2.2.2.2.2.2.2.2.2.2.2.2.2.2.2.1,x.2.2.2.2.2.2.2.2.2.2.2.2.2.2.2.2.2.2.1,v)
def U20 {a0 a1 a2 a3 a4 a5 a6 a7 a8 a9 a10 a11 a12 a13 a14 a15 a16 a17 a18 a19 a20:Type} (v:a20) (x:a0 × a1 × a2 × a3 × a4 × a5 × a6 × a7 × a8 × a9 × a10 × a11 × a12 × a13 × a14 × a15 × a16 × a17 × a18 × a19 × a20):a0 × a1 × a2 × a3 × a4 × a5 × a6 × a7 × a8 × a9 × a10 × a11 × a12 × a13 × a14 × a15 × a16 × a17 × a18 × a19 × a20:=(x.1,x.2.1,x.2.2.1,x.2.2.2.1,x.2.2.2.2.1,x.2.2.2.2.2.1,x.2.2.2.2.2.2.1,x.2.2.2.2.2.2.2.1,x.2.2.2.2.2.2.2.2.1,x.2.2.2.2.2.2.2.2.2.1,x.2.2.2.2.2.2.2.2.2.2.1,x.2.2.2.2.2.2.2.2.2.2.2.1,x.2.2.2.2.2.2.2.2.2.2.2.2.1,x.2.2.2.2.2.2.2.2.2.2.2.2.2.1,x.2.2.2.2.2.2.2.2.2.2.2.2.2.2.1,x.2.2.2.2.2.2.2.2.2.2.2.2.2.2.2.1,x.2.2.2.2.2.2.2.2.2.2.2.2.2.2.2.2.1,x.2.2.2.2.2.2.2.2.2.2.2.2.2.2.2.2.2.1,x.2.2.2.2.2.2.2.2.2.2.2.2.2.2.2.2.2.2.1,x.2.2.2.2.2.2.2.2.2.2.2.2.2.2.2.2.2.2.2.1,v)
def U21 {a0 a1 a2 a3 a4 a5 a6 a7 a8 a9 a10 a11 a12 a13 a14 a15 a16 a17 a18 a19 a20 a21:Type} (v:a21) (x:a0 × a1 × a2 × a3 × a4 × a5 × a6 × a7 × a8 × a9 × a10 × a11 × a12 × a13 × a14 × a15 × a16 × a17 × a18 × a19 × a20 × a21):a0 × a1 × a2 × a3 × a4 × a5 × a6 × a7 × a8 × a9 × a10 × a11 × a12 × a13 × a14 × a15 × a16 × a17 × a18 × a19 × a20 × a21:=(x.1,x.2.1,x.2.2.1,x.2.2.2.1,x.2.2.2.2.1,x.2.2.2.2.2.1,x.2.2.2.2.2.2.1,x.2.2.2.2.2.2.2.1,x.2.2.2.2.2.2.2.2.1,x.2.2.2.2.2.2.2.2.2.1,x.2.2.2.2.2.2.2.2.2.2.1,x.2.2.2.2.2.2.2.2.2.2.2.1,x.2.2.2.2.2.2.2.2.2.2.2.2.1,x.2.2.2.2.2.2.2.2.2.2.2.2.2.1,x.2.2.2.2.2.2.2.2.2.2.2.2.2.2.1,x.2.2.2.2.2.2.2.2.2.2.2.2.2.2.2.1,x.2.2.2.2.2.2.2.2.2.2.2.2.2.2.2.2.1,x.2.2.2.2.2.2.2.2.2.2.2.2.2.2.2.2.2.1,x.2.2.2.2.2.2.2.2.2.2.2.2.2.2.2.2.2.2.1,x.2.2.2.2.2.2.2.2.2.2.2.2.2.2.2.2.2.2.2.1,x.2.2.2.2.2.2.2.2.2.2.2.2.2.2.2.2.2.2.2.2.1,v)
abbrev Y_KidRun:=Int × Int × Int × Int × Int × Int × List Int × List (Int × Int × Int) × List (Int × Int) × List (Int × Int × List Int) × Bool × Int × Int × Int × Int
abbrev TY_KidRun:Ty:=.prod (.int .i64) (.prod (.int .i64) (.prod (.int .i64) (.prod (.int .i64) (.prod (.int .i64) (.prod (.int .i64) (.prod (.slice (.int .i64)) (.prod (.slice (.prod (.int .i64) (.prod (.int .i64) (.int .i64)))) (.prod (.slice (.prod (.int .i64) (.int .i64))) (.prod (.slice (.prod (.int .i64) (.prod (.int .i64) (.slice (.int .i64))))) (.prod (.bool) (.prod (.int .i64) (.prod (.int .i64) (.prod (.int .i64) (.int .i64))))))))))))))
abbrev Y_Family:=Int × Int × Int × Bool × List Int × List (Int × Int) × List (Int × Int × Int) × List Int × List (Int × Int) × List Y_KidRun
abbrev TY_Family:Ty:=.prod (.int .i64) (.prod (.int .i64) (.prod (.int .i64) (.prod (.bool) (.prod (.slice (.int .i64)) (.prod (.slice (.prod (.int .i64) (.int .i64))) (.prod (.slice (.prod (.int .i64) (.prod (.int .i64) (.int .i64)))) (.prod (.slice (.int .i64)) (.prod (.slice (.prod (.int .i64) (.int .i64))) (.slice (TY_KidRun))))))))))
abbrev Y_Root:=Int × Int × Int × Int × Int × Int × Int × Int × Int × Int × Int × Bool × List Int × List (Int × Int) × List (Int × Int) × List (Int × Int × Int × Int × List Int) × List (Int × Int × Int) × List Int × Bool × (Int × Int × Int × Int) × (Int × Int × Int × Int × Int × List (Int × Int) × List Int) × Y_Family
abbrev TY_Root:Ty:=.prod (.int .i64) (.prod (.int .i64) (.prod (.int .i64) (.prod (.int .i64) (.prod (.int .i64) (.prod (.int .i64) (.prod (.int .i64) (.prod (.int .i64) (.prod (.int .i64) (.prod (.int .i64) (.prod (.int .i64) (.prod (.bool) (.prod (.slice (.int .i64)) (.prod (.slice (.prod (.int .i64) (.int .i64))) (.prod (.slice (.prod (.int .i64) (.int .i64))) (.prod (.slice (.prod (.int .i64) (.prod (.int .i64) (.prod (.int .i64) (.prod (.int .i64) (.slice (.int .i64))))))) (.prod (.slice (.prod (.int .i64) (.prod (.int .i64) (.int .i64)))) (.prod (.slice (.int .i64)) (.prod (.bool) (.prod (.prod (.int .i64) (.prod (.int .i64) (.prod (.int .i64) (.int .i64)))) (.prod (.prod (.int .i64) (.prod (.int .i64) (.prod (.int .i64) (.prod (.int .i64) (.prod (.int .i64) (.prod (.slice (.prod (.int .i64) (.int .i64))) (.slice (.int .i64)))))))) (TY_Family)))))))))))))))))))))
abbrev Y_World:=Int × Int × (Int × List (Int × Int × Int)) × (List Int × Int) × List (Int × Int × Int) × List Y_Root × List (Int × Int × List (Int × Int))
abbrev TY_World:Ty:=.prod (.int .i64) (.prod (.int .i64) (.prod (.prod (.int .i64) (.slice (.prod (.int .i64) (.prod (.int .i64) (.int .i64))))) (.prod (.prod (.slice (.int .i64)) (.int .i64)) (.prod (.slice (.prod (.int .i64) (.prod (.int .i64) (.int .i64)))) (.prod (.slice (TY_Root)) (.slice (.prod (.int .i64) (.prod (.int .i64) (.slice (.prod (.int .i64) (.int .i64)))))))))))
def d_KidRun:Y_KidRun:=(0,(0,(0,(0,(0,(0,(([]:List Int),(([]:List (Int × Int × Int)),(([]:List (Int × Int)),(([]:List (Int × Int × List Int)),(false,(0,0,0,0))))))))))))
def d_Family:Y_Family:=(0,(0,(0,(false,(([]:List Int),(([]:List (Int × Int)),(([]:List (Int × Int × Int)),(([]:List Int),(([]:List (Int × Int)),([]:List Y_KidRun))))))))))
def d_Root:Y_Root:=(0,(0,(0,(0,(0,(0,(0,(0,(0,(0,(0,(false,(([]:List Int),(([]:List (Int × Int)),(([]:List (Int × Int)),(([]:List (Int × Int × Int × Int × List Int)),(([]:List (Int × Int × Int)),(([]:List Int),(false,((0,0,0,0),((0,(0,(0,(0,(0,(([]:List (Int × Int)),([]:List Int))))))),d_Family)))))))))))))))))))))
def d_World:Y_World:=(0,(0,((0,([]:List (Int × Int × Int))),((([]:List Int),0),(([]:List (Int × Int × Int)),(([]:List Y_Root),([]:List (Int × Int × List (Int × Int)))))))))
def Zbn (N:Nat) (x1:Int) (low2:Int) (high3:Int):Option (Unit × (Bool × Unit)) :=
    (bif decide (x1 ≥ low2) then
 (some ((),(decide (x1 ≤ high3),())))
 else
 (some ((),(false,()))))
def Zhp (N:Nat) (v1:Int):Option (Unit × (Bool × Unit)) :=
    ((Zbn N v1 0 65535).bind fun o2 =>
 (some ((),(o2.2.1,()))))
def Zda {R:Type} (N:Nat) (l2:List Int) (K0:Option R) (K1:Int → Bool → Option R):Nat → Int → Option R
  | 0,_=>none
  | n + 1,i3 =>
    (bif decide (i3 < (ilen l2)) then
 (bif inb i3 (List.length l2) then
 ((Zhp N (List.getD l2 (Int.toNat i3) 0)).bind fun o7 =>
 (bif !o7.2.1 then
 K0
 else
 (Zda N l2 K0 K1 n (iadd .i64 i3 1)))) else none)
 else
 (K1 i3 (decide (i3 < (ilen l2)))))
def Zf3 (N:Nat) (l1:List Int):Option (Unit × (Bool × Unit)) :=
    (bif (ilen l1) != 8 then
 (some ((),(false,())))
 else
 (Zda N l1
 (some ((),(false,())))
 (fun i8 t9 =>
   (some ((),(true,()))))
  N 0))
def Zg7 (N:Nat) (i1:Int):Option (Unit × (Bool × Unit)) :=
    ((Zbn N i1 0 7).bind fun o2 =>
 (some ((),(o2.2.1,()))))
def Zu (N:Nat) (i1:Int):Option (Unit × (Bool × Unit)) :=
    ((Zbn N i1 0 3).bind fun o2 =>
 (some ((),(o2.2.1,()))))
def Zt (N:Nat) (o1:Int × Int × Int × Int):Option (Unit × (Bool × Unit)) :=
    (Wq ((bif o1.2.2.1 == 0 then
 (some ((),(o1.2.2.2 == 0,())))
 else
 (some ((),(false,())))):Option (Unit × (Bool × Unit))) fun e9004 =>
 (Wq (((Zu N o1.2.2.1).bind fun bq2 =>
 (bif bq2.2.1 then
 ((Zu N o1.2.2.2).bind fun bq1 =>
 (some ((),(bq1.2.1,()))))
 else
 (some ((),(false,()))))):Option (Unit × (Bool × Unit))) fun e9006 =>
 (Wq (((Zu N o1.2.2.1).bind fun bq1 =>
 (bif bq1.2.1 then
 (some ((),(o1.2.2.2 == 0,())))
 else
 (some ((),(false,()))))):Option (Unit × (Bool × Unit))) fun e9007 =>
 (bif o1.1 == 1 then
 ((Zu N o1.2.1).bind fun bq2 =>
 (bif bq2.2.1 then
 ((Zhp N o1.2.2.1).bind fun bq1 =>
 (bif bq1.2.1 then
 (some ((),(o1.2.2.2 == 0,())))
 else
 (some ((),(false,())))))
 else
 (some ((),(false,())))))
 else
 (Wq ((Wq ((bif o1.1 == 12 then
 ((Zbn N o1.2.1 0 7).bind fun bq3 =>
 (bif bq3.2.1 then
 e9006
 else
 (some ((),(false,())))))
 else
 (bif o1.1 == 13 then
 ((Zu N o1.2.1).bind fun bq2 =>
 (bif bq2.2.1 then
 ((Zbn N o1.2.2.1 0 7).bind fun bq1 =>
 (bif bq1.2.1 then
 (some ((),(o1.2.2.2 == 0,())))
 else
 (some ((),(false,())))))
 else
 (some ((),(false,())))))
 else
 (bif o1.1 == 14 then
 ((Zbn N o1.2.1 0 7).bind fun bq2 =>
 (bif bq2.2.1 then
 e9007
 else
 (some ((),(false,())))))
 else
 (some ((),(false,())))))):Option (Unit × (Bool × Unit))) fun e9002 =>
 (Wq ((bif o1.2.1 == 0 then
 e9004
 else
 (some ((),(false,())))):Option (Unit × (Bool × Unit))) fun e9008 =>
 (bif o1.1 == 9 then
 (bif o1.1 == 9 then
 e9008
 else
 e9002)
 else
 (bif o1.1 == 10 then
 (bif o1.1 == 10 then
 e9008
 else
 e9002)
 else
 (bif o1.1 == 11 then
 e9008
 else
 e9002))))):Option (Unit × (Bool × Unit))) fun e9000 =>
 (Wq ((bif o1.1 == 5 then
 ((Zu N o1.2.1).bind fun bq2 =>
 (bif bq2.2.1 then
 ((Zg7 N o1.2.2.1).bind fun bq1 =>
 (bif bq1.2.1 then
 (some ((),(o1.2.2.2 == 0,())))
 else
 (some ((),(false,())))))
 else
 (some ((),(false,())))))
 else
 (bif o1.1 == 6 then
 ((Zg7 N o1.2.1).bind fun bq2 =>
 (bif bq2.2.1 then
 e9007
 else
 (some ((),(false,())))))
 else
 (bif o1.1 == 7 then
 ((Zu N o1.2.1).bind fun bq2 =>
 (bif bq2.2.1 then
 ((Zbn N o1.2.2.1 1 20).bind fun bq1 =>
 (bif bq1.2.1 then
 (some ((),(o1.2.2.2 == 0,())))
 else
 (some ((),(false,())))))
 else
 (some ((),(false,())))))
 else
 (Wq (((Zu N o1.2.1).bind fun bq1 =>
 (bif bq1.2.1 then
 e9004
 else
 (some ((),(false,()))))):Option (Unit × (Bool × Unit))) fun e9005 =>
 (bif o1.1 == 8 then
 (bif o1.1 == 8 then
 e9005
 else
 e9000)
 else
 (bif o1.1 == 15 then
 (bif o1.1 == 15 then
 e9005
 else
 e9000)
 else
 (bif o1.1 == 16 then
 e9005
 else
 e9000))))))):Option (Unit × (Bool × Unit))) fun e9001 =>
 (Wq (((Zu N o1.2.1).bind fun bq3 =>
 (bif bq3.2.1 then
 e9006
 else
 (some ((),(false,()))))):Option (Unit × (Bool × Unit))) fun e9003 =>
 (bif o1.1 == 2 then
 (bif o1.1 == 2 then
 e9003
 else
 e9001)
 else
 (bif o1.1 == 3 then
 (bif o1.1 == 3 then
 e9003
 else
 e9001)
 else
 (bif o1.1 == 4 then
 e9003
 else
 e9001))))))))))
def Za7 {R:Type} (N:Nat) (code3:List (Int × Int × Int × Int)) (to4:Int) (K0:Option R) (K1:Int → Int → Bool → Option R):Nat → Int → Int → Option R
  | 0,_,_=>none
  | n + 1,d5,k6 =>
    (bif decide (k6 < to4) then
 (bif inb k6 (List.length code3) then
 (bif (List.getD code3 (Int.toNat k6) (0,0,0,0)).1 == 8 then
 (bif inb k6 (List.length code3) then
 (bif (List.getD code3 (Int.toNat k6) (0,0,0,0)).1 == 9 then
 (bif decide ((isub .i64 (iadd .i64 d5 1) 1) < 0) then
 K0
 else
 (Za7 N code3 to4 K0 K1 n (isub .i64 (iadd .i64 d5 1) 1) (iadd .i64 k6 1)))
 else
 (bif decide ((iadd .i64 d5 1) < 0) then
 K0
 else
 (Za7 N code3 to4 K0 K1 n (iadd .i64 d5 1) (iadd .i64 k6 1)))) else none)
 else
 (bif inb k6 (List.length code3) then
 (bif (List.getD code3 (Int.toNat k6) (0,0,0,0)).1 == 9 then
 (bif decide ((isub .i64 d5 1) < 0) then
 K0
 else
 (Za7 N code3 to4 K0 K1 n (isub .i64 d5 1) (iadd .i64 k6 1)))
 else
 (bif decide (d5 < 0) then
 K0
 else
 (Za7 N code3 to4 K0 K1 n d5 (iadd .i64 k6 1)))) else none)) else none)
 else
 (K1 d5 k6 (decide (k6 < to4))))
def Zf4 (N:Nat) (code1:List (Int × Int × Int × Int)) (i2:Int):Option (Unit × (Bool × Unit)) :=
    (bif inb i2 (List.length code1) then
 (bif decide ((iadd .i64 (iadd .i64 i2 1) (List.getD code1 (Int.toNat i2) (0,0,0,0)).2.2.1) > (ilen code1)) then
 (some ((),(false,())))
 else
 (Za7 N code1 (iadd .i64 (iadd .i64 i2 1) (List.getD code1 (Int.toNat i2) (0,0,0,0)).2.2.1)
 (some ((),(false,())))
 (fun d10 k11 t12 =>
   (some ((),(d10 == 0,()))))
  N 0 (iadd .i64 i2 1))) else none)
def Za8 {R:Type} (N:Nat) (code2:List (Int × Int × Int × Int)) (K0:Option R) (K1:Int → Int → Int → Bool → Option R):Nat → Int → Int → Int → Option R
  | 0,_,_,_=>none
  | n + 1,d3,forks4,i5 =>
    (bif decide (i5 < (ilen code2)) then
 (bif inb i5 (List.length code2) then
 ((Zt N (List.getD code2 (Int.toNat i5) (0,0,0,0))).bind fun o12 =>
 (bif !o12.2.1 then
 K0
 else
 (bif inb i5 (List.length code2) then
 (bif (List.getD code2 (Int.toNat i5) (0,0,0,0)).1 == 8 then
 (bif decide ((iadd .i64 d3 1) < 0) then
 K0
 else
 (Za8 N code2 K0 K1 n (iadd .i64 d3 1) forks4 (iadd .i64 i5 1)))
 else
 (bif (List.getD code2 (Int.toNat i5) (0,0,0,0)).1 == 9 then
 (bif decide ((isub .i64 d3 1) < 0) then
 K0
 else
 (Za8 N code2 K0 K1 n (isub .i64 d3 1) forks4 (iadd .i64 i5 1)))
 else
 (bif (List.getD code2 (Int.toNat i5) (0,0,0,0)).1 == 7 then
 ((Zf4 N code2 i5).bind fun o13 =>
 (bif !o13.2.1 then
 K0
 else
 (bif decide (d3 < 0) then
 K0
 else
 (Za8 N code2 K0 K1 n d3 forks4 (iadd .i64 i5 1)))))
 else
 (bif (List.getD code2 (Int.toNat i5) (0,0,0,0)).1 == 11 then
 (bif decide (d3 > 0) then
 K0
 else
 (bif decide ((iadd .i64 forks4 1) > 1) then
 K0
 else
 (bif decide (d3 < 0) then
 K0
 else
 (Za8 N code2 K0 K1 n d3 (iadd .i64 forks4 1) (iadd .i64 i5 1)))))
 else
 (bif decide (d3 < 0) then
 K0
 else
 (Za8 N code2 K0 K1 n d3 forks4 (iadd .i64 i5 1))))))) else none))) else none)
 else
 (K1 d3 forks4 i5 (decide (i5 < (ilen code2)))))
def Zd0 (N:Nat) (code1:List (Int × Int × Int × Int)):Option (Unit × (Bool × Unit)) :=
    (bif decide ((ilen code1) > 24) then
 (some ((),(false,())))
 else
 (Za8 N code1
 (some ((),(false,())))
 (fun d14 forks15 i16 t17 =>
   (some ((),(d14 == 0,()))))
  N 0 0 0))
def Zcq {R:Type} (N:Nat) (code2:List (Int × Int × Int × Int)) (K0:Option R) (K1:Int → Bool → Option R):Nat → Int → Option R
  | 0,_=>none
  | n + 1,i3 =>
    (bif decide (i3 < (ilen code2)) then
 (bif inb i3 (List.length code2) then
 (bif (List.getD code2 (Int.toNat i3) (0,0,0,0)).1 == 11 then
 K0
 else
 (Zcq N code2 K0 K1 n (iadd .i64 i3 1))) else none)
 else
 (K1 i3 (decide (i3 < (ilen code2)))))
def Zc2 (N:Nat) (code1:List (Int × Int × Int × Int)):Option (Unit × (Bool × Unit)) :=
    (Zcq N code1
 (some ((),(true,())))
 (fun i6 t7 =>
   (some ((),(false,()))))
  N 0)
def Zca (N:Nat) (o1:Int × Int × Int × Int):Option (Unit × (Int × Unit)) :=
    ((Zt N o1).bind fun o2 =>
 (bif !o2.2.1 then
 (some ((),(0,())))
 else
 (bif o1.1 == 5 then
 (bif o1.1 == 5 then
 (some ((),(1,())))
 else
 (bif o1.1 == 12 then
 (bif o1.1 == 12 then
 (some ((),(2,())))
 else
 (some ((),(0,()))))
 else
 (bif o1.1 == 13 then
 (bif o1.1 == 13 then
 (some ((),(2,())))
 else
 (some ((),(0,()))))
 else
 (bif o1.1 == 14 then
 (bif o1.1 == 14 then
 (some ((),(2,())))
 else
 (some ((),(0,()))))
 else
 (bif o1.1 == 15 then
 (bif o1.1 == 15 then
 (some ((),(2,())))
 else
 (some ((),(0,()))))
 else
 (bif o1.1 == 16 then
 (some ((),(2,())))
 else
 (some ((),(0,())))))))))
 else
 (bif o1.1 == 6 then
 (some ((),(1,())))
 else
 (bif o1.1 == 12 then
 (bif o1.1 == 12 then
 (some ((),(2,())))
 else
 (some ((),(0,()))))
 else
 (bif o1.1 == 13 then
 (bif o1.1 == 13 then
 (some ((),(2,())))
 else
 (some ((),(0,()))))
 else
 (bif o1.1 == 14 then
 (bif o1.1 == 14 then
 (some ((),(2,())))
 else
 (some ((),(0,()))))
 else
 (bif o1.1 == 15 then
 (bif o1.1 == 15 then
 (some ((),(2,())))
 else
 (some ((),(0,()))))
 else
 (bif o1.1 == 16 then
 (some ((),(2,())))
 else
 (some ((),(0,()))))))))))))
def Zed {R:Type} (N:Nat) (code4:List (Int × Int × Int × Int)) (K0:Option R) (K1:Int → Bool → Option R):Nat → Int → Option R
  | 0,_=>none
  | n + 1,i5 =>
    (bif decide (i5 < (ilen code4)) then
 (bif inb i5 (List.length code4) then
 ((Zca N (List.getD code4 (Int.toNat i5) (0,0,0,0))).bind fun o9 =>
 (bif o9.2.1 == 2 then
 K0
 else
 (Zed N code4 K0 K1 n (iadd .i64 i5 1)))) else none)
 else
 (K1 i5 (decide (i5 < (ilen code4)))))
def Zfg (N:Nat) (code1:List (Int × Int × Int × Int)):Option (Unit × (Bool × Unit)) :=
    ((Zd0 N code1).bind fun o2 =>
 (bif !o2.2.1 then
 (some ((),(false,())))
 else
 ((Zc2 N code1).bind fun o3 =>
 (bif o3.2.1 then
 (some ((),(false,())))
 else
 (Zed N code1
 (some ((),(false,())))
 (fun i10 t11 =>
   (some ((),(true,()))))
  N 0)))))
def Zm (N:Nat) (x1:Int) (lo2:Int) (hi3:Int):Option (Unit × (Bool × Unit)) :=
    (bif decide (x1 ≥ lo2) then
 (some ((),(decide (x1 ≤ hi3),())))
 else
 (some ((),(false,()))))
def Zv (N:Nat) (r1:Int):Option (Unit × (Bool × Unit)) :=
    ((Zm N r1 0 3).bind fun o2 =>
 (some ((),(o2.2.1,()))))
def Zaz (N:Nat) (v1:Int):Option (Unit × (Bool × Unit)) :=
    ((Zm N v1 0 65535).bind fun o2 =>
 (some ((),(o2.2.1,()))))
def Zba (N:Nat) (i1:Int):Option (Unit × (Bool × Unit)) :=
    ((Zm N i1 0 7).bind fun o2 =>
 (some ((),(o2.2.1,()))))
def Za3 (N:Nat) (k1:Int):Option (Unit × (Bool × Unit)) :=
    ((Zm N k1 0 7).bind fun o2 =>
 (some ((),(o2.2.1,()))))
def Zr (N:Nat) (o1:Int × Int × Int × Int):Option (Unit × (Bool × Unit)) :=
    (Wq ((bif o1.2.2.1 == 0 then
 (some ((),(o1.2.2.2 == 0,())))
 else
 (some ((),(false,())))):Option (Unit × (Bool × Unit))) fun e9004 =>
 (Wq (((Zv N o1.2.2.1).bind fun bq2 =>
 (bif bq2.2.1 then
 ((Zv N o1.2.2.2).bind fun bq1 =>
 (some ((),(bq1.2.1,()))))
 else
 (some ((),(false,()))))):Option (Unit × (Bool × Unit))) fun e9006 =>
 (Wq (((Zv N o1.2.2.1).bind fun bq1 =>
 (bif bq1.2.1 then
 (some ((),(o1.2.2.2 == 0,())))
 else
 (some ((),(false,()))))):Option (Unit × (Bool × Unit))) fun e9007 =>
 (bif o1.1 == 1 then
 ((Zv N o1.2.1).bind fun bq2 =>
 (bif bq2.2.1 then
 ((Zaz N o1.2.2.1).bind fun bq1 =>
 (bif bq1.2.1 then
 (some ((),(o1.2.2.2 == 0,())))
 else
 (some ((),(false,())))))
 else
 (some ((),(false,())))))
 else
 (Wq ((Wq ((bif o1.1 == 12 then
 ((Za3 N o1.2.1).bind fun bq3 =>
 (bif bq3.2.1 then
 e9006
 else
 (some ((),(false,())))))
 else
 (bif o1.1 == 13 then
 ((Zv N o1.2.1).bind fun bq2 =>
 (bif bq2.2.1 then
 ((Za3 N o1.2.2.1).bind fun bq1 =>
 (bif bq1.2.1 then
 (some ((),(o1.2.2.2 == 0,())))
 else
 (some ((),(false,())))))
 else
 (some ((),(false,())))))
 else
 (bif o1.1 == 14 then
 ((Za3 N o1.2.1).bind fun bq2 =>
 (bif bq2.2.1 then
 e9007
 else
 (some ((),(false,())))))
 else
 (some ((),(false,())))))):Option (Unit × (Bool × Unit))) fun e9002 =>
 (Wq ((bif o1.2.1 == 0 then
 e9004
 else
 (some ((),(false,())))):Option (Unit × (Bool × Unit))) fun e9008 =>
 (bif o1.1 == 9 then
 (bif o1.1 == 9 then
 e9008
 else
 e9002)
 else
 (bif o1.1 == 10 then
 (bif o1.1 == 10 then
 e9008
 else
 e9002)
 else
 (bif o1.1 == 11 then
 e9008
 else
 e9002))))):Option (Unit × (Bool × Unit))) fun e9000 =>
 (Wq ((bif o1.1 == 5 then
 ((Zv N o1.2.1).bind fun bq2 =>
 (bif bq2.2.1 then
 ((Zba N o1.2.2.1).bind fun bq1 =>
 (bif bq1.2.1 then
 (some ((),(o1.2.2.2 == 0,())))
 else
 (some ((),(false,())))))
 else
 (some ((),(false,())))))
 else
 (bif o1.1 == 6 then
 ((Zba N o1.2.1).bind fun bq2 =>
 (bif bq2.2.1 then
 e9007
 else
 (some ((),(false,())))))
 else
 (bif o1.1 == 7 then
 ((Zv N o1.2.1).bind fun bq2 =>
 (bif bq2.2.1 then
 ((Zm N o1.2.2.1 1 20).bind fun bq1 =>
 (bif bq1.2.1 then
 (some ((),(o1.2.2.2 == 0,())))
 else
 (some ((),(false,())))))
 else
 (some ((),(false,())))))
 else
 (Wq (((Zv N o1.2.1).bind fun bq1 =>
 (bif bq1.2.1 then
 e9004
 else
 (some ((),(false,()))))):Option (Unit × (Bool × Unit))) fun e9005 =>
 (bif o1.1 == 8 then
 (bif o1.1 == 8 then
 e9005
 else
 e9000)
 else
 (bif o1.1 == 15 then
 (bif o1.1 == 15 then
 e9005
 else
 e9000)
 else
 (bif o1.1 == 16 then
 e9005
 else
 e9000))))))):Option (Unit × (Bool × Unit))) fun e9001 =>
 (Wq (((Zv N o1.2.1).bind fun bq3 =>
 (bif bq3.2.1 then
 e9006
 else
 (some ((),(false,()))))):Option (Unit × (Bool × Unit))) fun e9003 =>
 (bif o1.1 == 2 then
 (bif o1.1 == 2 then
 e9003
 else
 e9001)
 else
 (bif o1.1 == 3 then
 (bif o1.1 == 3 then
 e9003
 else
 e9001)
 else
 (bif o1.1 == 4 then
 e9003
 else
 e9001))))))))))
def Zhi (N:Nat) (o1:Int × Int × Int × Int):Option (Unit × (Int × Unit)) :=
    ((Zr N o1).bind fun o2 =>
 (bif !o2.2.1 then
 (some ((),(0,())))
 else
 (bif o1.1 == 5 then
 (bif o1.1 == 5 then
 (some ((),(1,())))
 else
 (bif o1.1 == 12 then
 (bif o1.1 == 12 then
 (some ((),(2,())))
 else
 (some ((),(0,()))))
 else
 (bif o1.1 == 13 then
 (bif o1.1 == 13 then
 (some ((),(2,())))
 else
 (some ((),(0,()))))
 else
 (bif o1.1 == 14 then
 (bif o1.1 == 14 then
 (some ((),(2,())))
 else
 (some ((),(0,()))))
 else
 (bif o1.1 == 15 then
 (bif o1.1 == 15 then
 (some ((),(2,())))
 else
 (some ((),(0,()))))
 else
 (bif o1.1 == 16 then
 (some ((),(2,())))
 else
 (some ((),(0,())))))))))
 else
 (bif o1.1 == 6 then
 (some ((),(1,())))
 else
 (bif o1.1 == 12 then
 (bif o1.1 == 12 then
 (some ((),(2,())))
 else
 (some ((),(0,()))))
 else
 (bif o1.1 == 13 then
 (bif o1.1 == 13 then
 (some ((),(2,())))
 else
 (some ((),(0,()))))
 else
 (bif o1.1 == 14 then
 (bif o1.1 == 14 then
 (some ((),(2,())))
 else
 (some ((),(0,()))))
 else
 (bif o1.1 == 15 then
 (bif o1.1 == 15 then
 (some ((),(2,())))
 else
 (some ((),(0,()))))
 else
 (bif o1.1 == 16 then
 (some ((),(2,())))
 else
 (some ((),(0,()))))))))))))
def Zi8 (N:Nat) (o1:Int × Int × Int × Int):Option (Unit × (Int × Unit)) :=
    (bif o1.1 == 8 then
 (some ((),(1,())))
 else
 (bif o1.1 == 9 then
 (some ((),((-1:Int),())))
 else
 (some ((),(0,())))))
def Zb0 {R:Type} (N:Nat) (t3:List (Int × Int × Int × Int)) (K0:Option R) (K1:Int → Int → Bool → Option R):Nat → Int → Int → Option R
  | 0,_,_=>none
  | n + 1,n2,t5 =>
    (bif decide (t5 < (ilen t3)) then
 (bif inb t5 (List.length t3) then
 ((Zi8 N (List.getD t3 (Int.toNat t5) (0,0,0,0))).bind fun o11 =>
 (bif decide ((iadd .i64 n2 o11.2.1) < 0) then
 K0
 else
 (Zb0 N t3 K0 K1 n (iadd .i64 n2 o11.2.1) (iadd .i64 t5 1)))) else none)
 else
 (K1 n2 t5 (decide (t5 < (ilen t3)))))
def Zbv (N:Nat) (code1:List (Int × Int × Int × Int)):Option (Unit × (Bool × Unit)) :=
    (Zb0 N code1
 (some ((),(false,())))
 (fun n12 t13 t14 =>
   (some ((),(n12 == 0,()))))
  N 0 0)
def Zb5 {R:Type} (N:Nat) (i3:Int) (t5:List (Int × Int × Int × Int)) (K0:Int → Int → Bool → Option R):Nat → Int → Int → Option R
  | 0,_,_=>none
  | n + 1,n4,t7 =>
    (bif decide (t7 < (ilen t5)) then
 (bif inb t7 (List.length t5) then
 (bif decide (t7 < i3) then
 ((Zi8 N (List.getD t5 (Int.toNat t7) (0,0,0,0))).bind fun o13 =>
 (Zb5 N i3 t5 K0 n (iadd .i64 n4 o13.2.1) (iadd .i64 t7 1)))
 else
 (Zb5 N i3 t5 K0 n n4 (iadd .i64 t7 1))) else none)
 else
 (K0 n4 t7 (decide (t7 < (ilen t5)))))
def Zer (N:Nat) (code1:List (Int × Int × Int × Int)) (i2:Int):Option (Unit × (Int × Unit)) :=
    (Zb5 N i2 code1
 (fun n14 t15 t16 =>
   (some ((),(n14,()))))
  N 0 0)
def Zbw {R:Type} (N:Nat) (code3:List (Int × Int × Int × Int)) (K0:Option R) (K1:Int → Int → Bool → Option R):Nat → Int → Int → Option R
  | 0,_,_=>none
  | n + 1,forks4,t7 =>
    (bif decide (t7 < (ilen code3)) then
 (bif inb t7 (List.length code3) then
 ((Zr N (List.getD code3 (Int.toNat t7) (0,0,0,0))).bind fun o17 =>
 (bif !o17.2.1 then
 K0
 else
 (bif (List.getD code3 (Int.toNat t7) (0,0,0,0)).1 == 7 then
 (bif decide ((iadd .i64 (iadd .i64 t7 1) (List.getD code3 (Int.toNat t7) (0,0,0,0)).2.2.1) > (ilen code3)) then
 K0
 else
 (bif (((decide ((0:Int) ≤ (iadd .i64 (iadd .i64 t7 1) (List.getD code3 (Int.toNat t7) (0,0,0,0)).2.2.1))) && (decide ((iadd .i64 (iadd .i64 t7 1) (List.getD code3 (Int.toNat t7) (0,0,0,0)).2.2.1) ≤ ((List.length code3):Int)))) && (decide ((0:Int) ≤ (iadd .i64 t7 1)))) && (decide ((iadd .i64 t7 1) ≤ (iadd .i64 (iadd .i64 t7 1) (List.getD code3 (Int.toNat t7) (0,0,0,0)).2.2.1))) then
 ((Zbv N (List.drop (Int.toNat (iadd .i64 t7 1)) (List.take (Int.toNat (iadd .i64 (iadd .i64 t7 1) (List.getD code3 (Int.toNat t7) (0,0,0,0)).2.2.1)) code3))).bind fun o18 =>
 (bif !o18.2.1 then
 K0
 else
 (Zbw N code3 K0 K1 n forks4 (iadd .i64 t7 1)))) else none))
 else
 (bif (List.getD code3 (Int.toNat t7) (0,0,0,0)).1 == 11 then
 (bif decide ((iadd .i64 forks4 1) > 1) then
 K0
 else
 ((Zer N code3 t7).bind fun o19 =>
 (bif o19.2.1 != 0 then
 K0
 else
 (Zbw N code3 K0 K1 n (iadd .i64 forks4 1) (iadd .i64 t7 1)))))
 else
 (Zbw N code3 K0 K1 n forks4 (iadd .i64 t7 1)))))) else none)
 else
 (K1 forks4 t7 (decide (t7 < (ilen code3)))))
def Zby (N:Nat) (code1:List (Int × Int × Int × Int)):Option (Unit × (Bool × Unit)) :=
    (bif decide ((ilen code1) > 24) then
 (some ((),(false,())))
 else
 ((Zbv N code1).bind fun o2 =>
 (bif !o2.2.1 then
 (some ((),(false,())))
 else
 (Zbw N code1
 (some ((),(false,())))
 (fun forks20 t21 t22 =>
   (some ((),(true,()))))
  N 0 0))))
def Zee {R:Type} (N:Nat) (code2:List (Int × Int × Int × Int)) (K0:Option R) (K1:Int → Bool → Option R):Nat → Int → Option R
  | 0,_=>none
  | n + 1,t5 =>
    (bif decide (t5 < (ilen code2)) then
 (bif inb t5 (List.length code2) then
 (bif (List.getD code2 (Int.toNat t5) (0,0,0,0)).1 == 11 then
 K0
 else
 ((Zhi N (List.getD code2 (Int.toNat t5) (0,0,0,0))).bind fun o10 =>
 (bif o10.2.1 == 2 then
 K0
 else
 (Zee N code2 K0 K1 n (iadd .i64 t5 1))))) else none)
 else
 (K1 t5 (decide (t5 < (ilen code2)))))
def Zfh (N:Nat) (code1:List (Int × Int × Int × Int)):Option (Unit × (Bool × Unit)) :=
    (Zee N code1
 (some ((),(false,())))
 (fun t11 t12 =>
   ((Zby N code1).bind fun o13 =>
 (some ((),(o13.2.1,())))))
  N 0)
def Za1 {R:Type} (N:Nat) (l3:List Int) (n4:Int) (K0:Option R) (K1:Int → Bool → Option R):Nat → Int → Option R
  | 0,_=>none
  | n + 1,t7 =>
    (bif decide (t7 < (ilen l3)) then
 (bif inb t7 (List.length l3) then
 ((Zaz N (List.getD l3 (Int.toNat t7) 0)).bind fun o12 =>
 (bif !o12.2.1 then
 K0
 else
 (Za1 N l3 n4 K0 K1 n (iadd .i64 t7 1)))) else none)
 else
 (K1 t7 (decide (t7 < (ilen l3)))))
def Zac (N:Nat) (l1:List Int) (n2:Int):Option (Unit × (Bool × Unit)) :=
    (Za1 N l1 n2
 (some ((),(false,())))
 (fun t13 t14 =>
   (some ((),((ilen l1) == n2,()))))
  N 0)
def Zdb {R:Type} (N:Nat) (l2:List (Int × Int)) (K0:Option R) (K1:Int → Bool → Option R):Nat → Int → Option R
  | 0,_=>none
  | n + 1,t5 =>
    (bif decide (t5 < (ilen l2)) then
 (bif inb t5 (List.length l2) then
 ((Zba N (List.getD l2 (Int.toNat t5) (0,0)).1).bind fun o12 =>
 (bif !o12.2.1 then
 K0
 else
 ((Zaz N (List.getD l2 (Int.toNat t5) (0,0)).2).bind fun o13 =>
 (bif !o13.2.1 then
 K0
 else
 (Zdb N l2 K0 K1 n (iadd .i64 t5 1)))))) else none)
 else
 (K1 t5 (decide (t5 < (ilen l2)))))
def Zbz (N:Nat) (l1:List (Int × Int)):Option (Unit × (Bool × Unit)) :=
    (Zdb N l1
 (some ((),(false,())))
 (fun t14 t15 =>
   (some ((),(decide ((ilen l1) ≤ 300),()))))
  N 0)
def Zdc {R:Type} (N:Nat) (t3:List Int) (K0:Int → Bool → (List (Int × Int × Int)) → Option R):Nat → Int → (List (Int × Int × Int)) → Option R
  | 0,_,_=>none
  | n + 1,t5,l8 =>
    (bif decide (t5 < (ilen t3)) then
 (bif inb t5 (List.length t3) then
 (bif room ((List.length l8) + (List.length ([(List.getD t3 (Int.toNat t5) (0:Int),((0:Int),(0:Int)))]))) then
 (Zdc N t3 K0 n (iadd .i64 t5 1) (List.append l8 ([(List.getD t3 (Int.toNat t5) 0,(0,0))]))) else none) else none)
 else
 (K0 t5 (decide (t5 < (ilen t3))) l8))
def Zak (N:Nat) (l1:List Int):Option (Unit × ((Int × List (Int × Int × Int)) × (Bool × Unit))) :=
    ((Zac N l1 8).bind fun o2 =>
 (bif !o2.2.1 then
 (some ((),((0,([]:List (Int × Int × Int))),(false,()))))
 else
 (Zdc N l1
 (fun t12 t13 l14 =>
   (some ((),((0,l14),(true,())))))
  N 0 ([]:List (Int × Int × Int)))))
def Zx (N:Nat) (l1:List Int):Option (Unit × ((List Int) × Unit)) :=
    (bif room (List.length l1) then
 (some ((),(l1,()))) else none)
def Zg1 {R:Type} (N:Nat) (l4:List (Int × Int)) (cell5:Int) (K0:Int → Option R) (K1:Int → Bool → Option R):Nat → Int → Option R
  | 0,_=>none
  | n + 1,i6 =>
    (bif decide (i6 ≥ 0) then
 (bif inb i6 (List.length l4) then
 (bif (List.getD l4 (Int.toNat i6) (0,0)).1 == cell5 then
 (bif inb i6 (List.length l4) then
 (K0 (List.getD l4 (Int.toNat i6) (0,0)).2) else none)
 else
 (Zg1 N l4 cell5 K0 K1 n (isub .i64 i6 1))) else none)
 else
 (K1 i6 (decide (i6 ≥ 0))))
def Zff (N:Nat) (l1:List (Int × Int)) (cell2:Int):Option (Unit × (Int × (Bool × Unit))) :=
    ((Zbz N l1).bind fun o3 =>
 (bif !o3.2.1 then
 (some ((),(0,(false,()))))
 else
 (Zg1 N l1 cell2
 (fun t10 =>
   (some ((),(t10,(true,())))))
 (fun i11 t12 =>
   (some ((),(0,(false,())))))
  N (isub .i64 (ilen l1) 1))))
def Zgg {R:Type} (N:Nat) (l3:List (Int × Int)) (K0:Int → Bool → (List (Int × Int)) → Option R):Nat → Int → (List (Int × Int)) → Option R
  | 0,_,_=>none
  | n + 1,t4,l5 =>
    (bif decide (t4 < 8) then
 ((Zff N l3 t4).bind fun o10 =>
 (bif o10.2.2.1 then
 (bif room ((List.length l5) + (List.length ([(t4,o10.2.1)]))) then
 (Zgg N l3 K0 n (iadd .i64 t4 1) (List.append l5 ([(t4,o10.2.1)]))) else none)
 else
 (Zgg N l3 K0 n (iadd .i64 t4 1) l5)))
 else
 (K0 t4 (decide (t4 < 8)) l5))
def Zd1 (N:Nat) (l1:List (Int × Int)):Option (Unit × ((List (Int × Int)) × Unit)) :=
    ((Zbz N l1).bind fun o2 =>
 (bif !o2.2.1 then
 (some ((),(([]:List (Int × Int)),())))
 else
 (Zgg N l1
 (fun t11 t12 l13 =>
   (some ((),(l13,()))))
  N 0 ([]:List (Int × Int)))))
def Zcj {R:Type} (N:Nat) (regs7:List Int) (kids8:Int) (t9:Int) (b15:Int) (l19:List (Int × Int)) (l20:List Int) (K0:Int → Bool → (List (Int × Int × Int)) → Option R):Nat → Int → (List (Int × Int × Int)) → Option R
  | 0,_,_=>none
  | n + 1,t10,l21 =>
    (bif decide (t10 < t9) then
 (bif inb t10 (List.length l19) then
 (bif room ((List.length l21) + (List.length ([((List.getD l19 (Int.toNat t10) ((0:Int),(0:Int))).1,((List.getD l19 (Int.toNat t10) ((0:Int),(0:Int))).2,(0:Int)))]))) then
 (Zcj N regs7 kids8 t9 b15 l19 l20 K0 n (iadd .i64 t10 1) (List.append l21 ([((List.getD l19 (Int.toNat t10) (0,0)).1,((List.getD l19 (Int.toNat t10) (0,0)).2,0))]))) else none) else none)
 else
 (K0 t10 (decide (t10 < t9)) l21))
def Zbe {R:Type} (N:Nat) (regs28:List Int) (t29:Int) (b35:Int) (l39:List Int) (l40:List (Int × Int)) (l41:List (Int × Int × Int)) (K0:Int → Bool → (List Y_KidRun) → Option R):Nat → Int → (List Y_KidRun) → Option R
  | 0,_,_=>none
  | n + 1,t30,l42 =>
    (bif decide (t30 < t29) then
 ((Zx N regs28).bind fun bq1 =>
 (bif room ((List.length l42) + (List.length ([((0:Int),((0:Int),((0:Int),((0:Int),((0:Int),((0:Int),(bq1.2.1,(([]:List (Int × Int × Int)),(([]:List (Int × Int)),(([]:List (Int × Int × List Int)),(false,((0:Int),((0:Int),((0:Int),(0:Int)))))))))))))))]))) then
 (Zbe N regs28 t29 b35 l39 l40 l41 K0 n (iadd .i64 t30 1) (List.append l42 ([(0,(0,(0,(0,(0,(0,(bq1.2.1,(([]:List (Int × Int × Int)),(([]:List (Int × Int)),(([]:List (Int × Int × List Int)),(false,(0,0,0,0))))))))))))]))) else none))
 else
 (K0 t30 (decide (t30 < t29)) l42))
def Zdh (N:Nat) (rv1:Int) (regs2:List Int) (writes3:List (Int × Int)) (kids4:Int):Option (Unit × (Y_Family × Unit)) :=
    ((Zx N regs2).bind fun o5 =>
 ((Zd1 N writes3).bind fun o6 =>
 (Zcj N regs2 kids4 (ilen o6.2.1) rv1 o6.2.1 o5.2.1
 (fun t25 t26 l27 =>
   (Zbe N regs2 kids4 rv1 o5.2.1 o6.2.1 l27
 (fun t49 t50 l51 =>
   (some ((),((rv1,(0,(0,(false,(o5.2.1,(o6.2.1,(l27,(([]:List Int),(([]:List (Int × Int)),l51))))))))),()))))
  N 0 ([]:List Y_KidRun)))
  N 0 ([]:List (Int × Int × Int)))))
def Zi9 (N:Nat) (e1:Int × Int × Int) (a2:Int):Option ((Int × Unit) × (Bool × Unit)) :=
    (some ((a2,()),(e1.1 == a2,())))
def Zg {R:Type} (N:Nat) (s3:List (Int × Int × Int)) (K0:Int → Int → Option R) (K1:Int → Bool → Int → Option R):Nat → Int → Int → Option R
  | 0,_,_=>none
  | n + 1,t5,b6 =>
    (bif decide (t5 < (ilen s3)) then
 (bif inb t5 (List.length s3) then
 ((Zi9 N (List.getD s3 (Int.toNat t5) (0,0,0)) b6).bind fun o14 =>
 (bif o14.2.1 then
 (K0 t5 o14.1.1)
 else
 (Zg N s3 K0 K1 n (iadd .i64 t5 1) o14.1.1))) else none)
 else
 (K1 t5 (decide (t5 < (ilen s3))) b6))
def Ze (N:Nat) (s1:List (Int × Int × Int)) (cap2:Int):Option ((Int × Unit) × (Int × Unit)) :=
    (Zg N s1
 (fun t15 b16 =>
   (some ((b16,()),(t15,()))))
 (fun t17 t18 b19 =>
   (some ((b19,()),((-1:Int),()))))
  N 0 cap2)
def Zck (N:Nat) (f1:Y_Family) (cell2:Int):Option (Unit × (Int × Unit)) :=
    ((Ze N f1.2.2.2.2.2.2.1 cell2).bind fun o3 =>
 (some ((),(o3.2.1,()))))
def Zbg (N:Nat) (f1:Y_Family) (k2:Int):Option ((Y_Family × Unit) × Unit) :=
    (bif inb k2 (List.length (Q9 f1)) then
 ((Zx N (P4 f1)).bind fun bq1 =>
 (bif inb k2 (List.length (Q9 f1)) then
 (some (((U9 (List.set (Q9 f1) (Int.toNat k2) (0,(0,(f1.2.1,(iadd .i64 (List.getD (Q9 f1) (Int.toNat k2) d_KidRun).2.2.2.1 1,(0,(0,(bq1.2.1,(([]:List (Int × Int × Int)),(([]:List (Int × Int)),(([]:List (Int × Int × List Int)),(false,(0,0,0,0))))))))))))) f1),()),())) else none)) else none)
def Zfi (N:Nat) (cell1:Int):Option (Unit × ((Int × Int × Int × Int) × (Bool × Unit))) :=
    ((Zba N cell1).bind fun o2 =>
 (bif !o2.2.1 then
 (some ((),((0,0,0,0),(false,()))))
 else
 (some ((),((cell1,(0,0,0)),(true,()))))))
def Zef {R:Type} (N:Nat) (t2:List (Int × Int × Int)) (b5:Int × List (Int × Int × Int)) (K0:Option R) (K1:Int → Bool → Option R):Nat → Int → Option R
  | 0,_=>none
  | n + 1,t4 =>
    (bif decide (t4 < (ilen b5.2)) then
 (bif inb t4 (List.length t2) then
 ((Zaz N (List.getD t2 (Int.toNat t4) (0,0,0)).1).bind fun o14 =>
 (bif !o14.2.1 then
 K0
 else
 ((Zm N (List.getD t2 (Int.toNat t4) (0,0,0)).2.1 0 b5.1).bind fun o15 =>
 (bif !o15.2.1 then
 K0
 else
 ((Zm N (List.getD t2 (Int.toNat t4) (0,0,0)).2.2 0 99).bind fun o16 =>
 (bif !o16.2.1 then
 K0
 else
 (Zef N t2 b5 K0 K1 n (iadd .i64 t4 1)))))))) else none)
 else
 (K1 t4 (decide (t4 < (ilen b5.2)))))
def Zb1 (N:Nat) (m1:Int × List (Int × Int × Int)):Option (Unit × (Bool × Unit)) :=
    (Zef N m1.2 m1
 (some ((),(false,())))
 (fun t17 t18 =>
   (bif (ilen m1.2) == 8 then
 ((Zm N m1.1 0 1000000).bind fun o19 =>
 (some ((),(o19.2.1,()))))
 else
 (some ((),(false,())))))
  N 0)
def Zl0 (N:Nat) (p1:Int × Int × Int × Int):Option (Unit × (Bool × Unit)) :=
    ((Zba N p1.1).bind fun o2 =>
 (bif o2.2.1 then
 ((Zm N p1.2.1 0 4).bind fun o3 =>
 (bif o3.2.1 then
 ((Zm N p1.2.2.1 0 1000000).bind fun o4 =>
 (bif o4.2.1 then
 ((Zaz N p1.2.2.2).bind fun o5 =>
 (some ((),(o5.2.1,()))))
 else
 (some ((),(false,())))))
 else
 (some ((),(false,())))))
 else
 (some ((),(false,())))))
def Zeg (N:Nat) (m1:Int × List (Int × Int × Int)) (rv2:Int) (p3:Int × Int × Int × Int):Option (Unit × ((Int × Int × Int × Int) × Unit)) :=
    ((Zb1 N m1).bind fun o4 =>
 (bif !o4.2.1 then
 (some ((),(p3,())))
 else
 ((Zl0 N p3).bind fun o5 =>
 (bif !o5.2.1 then
 (some ((),(p3,())))
 else
 (bif inb p3.1 (List.length m1.2) then
 (bif p3.2.1 == 0 then
 (bif (List.getD m1.2 (Int.toNat p3.1) (0,0,0)).2.2 == 0 then
 (bif decide ((List.getD m1.2 (Int.toNat p3.1) (0,0,0)).2.1 ≤ rv2) then
 (some ((),((p3.1,(1,((List.getD m1.2 (Int.toNat p3.1) (0,0,0)).2.1,p3.2.2.2))),())))
 else
 (some ((),((p3.1,(4,p3.2.2)),()))))
 else
 (some ((),((p3.1,(4,p3.2.2)),()))))
 else
 (bif p3.2.1 == 1 then
 (some ((),((p3.1,(2,(p3.2.2.1,(List.getD m1.2 (Int.toNat p3.1) (0,0,0)).1))),())))
 else
 (bif p3.2.1 == 2 then
 (bif (List.getD m1.2 (Int.toNat p3.1) (0,0,0)).2.2 == 0 then
 (bif (List.getD m1.2 (Int.toNat p3.1) (0,0,0)).2.1 == p3.2.2.1 then
 (some ((),((p3.1,(3,p3.2.2)),())))
 else
 (some ((),((p3.1,(4,p3.2.2)),()))))
 else
 (some ((),((p3.1,(4,p3.2.2)),()))))
 else
 (some ((),(p3,())))))) else none)))))
def Zie (N:Nat) (f1:Y_Family) (k2:Int) (o3:Int × Int × Int × Int) (m4:Int × List (Int × Int × Int)):Option ((Y_Family × Unit) × Unit) :=
    (bif inb k2 (List.length (Q9 f1)) then
 (Wq (List.getD (Q9 f1) (Int.toNat k2) d_KidRun) fun e9000 =>
 ((Zff N (P8 e9000) o3.2.2.1).bind fun bq4 =>
 (bif bq4.2.2.1 then
 (bif inb o3.2.1 (List.length (P6 e9000)) then
 (some (((U9 (List.set (Q9 f1) (Int.toNat k2) (S6 (List.set (P6 e9000) (Int.toNat o3.2.1) bq4.2.1) (S1 (iadd .i64 e9000.2.1 1) e9000))) f1),()),())) else none)
 else
 ((Zck N (U9 (List.set (Q9 f1) (Int.toNat k2) e9000) f1) o3.2.2.1).bind fun bq3 =>
 (bif decide (bq3.2.1 ≥ 0) then
 (bif inb bq3.2.1 (List.length (P6 f1)) then
 (Wq (List.getD (P6 f1) (Int.toNat bq3.2.1) (0,0,0)) fun e9001 =>
 (bif decide (e9001.2.2 > e9000.2.2.1) then
 ((Zbg N (U9 (List.set (Q9 f1) (Int.toNat k2) e9000) f1) k2).bind fun bq1 =>
 (some ((bq1.1.1,()),())))
 else
 (bif inb o3.2.1 (List.length (P6 e9000)) then
 (bif room ((List.length (P7 e9000)) + (List.length ([e9001]))) then
 (some (((U9 (List.set (Q9 f1) (Int.toNat k2) (S7 (List.append (P7 e9000) ([e9001])) (S6 (List.set (P6 e9000) (Int.toNat o3.2.1) e9001.2.1) (S1 (iadd .i64 e9000.2.1 1) e9000)))) f1),()),())) else none) else none))) else none)
 else
 (bif !(P10 e9000) then
 ((Zfi N o3.2.2.1).bind fun bq2 =>
 ((Zeg N m4 f1.1 bq2.2.1).bind fun bq1 =>
 (bif bq1.2.1.2.1 == 4 then
 (some (((U9 (List.set (Q9 f1) (Int.toNat k2) (U11 bq1.2.1 (S10 true e9000))) (S3 true f1)),()),()))
 else
 (bif bq1.2.1.2.1 == 3 then
 (bif inb o3.2.1 (List.length (P6 e9000)) then
 (bif room ((List.length (P7 e9000)) + (List.length ([(o3.2.2.1,(bq1.2.1.2.2.2,(-1:Int)))]))) then
 (some (((U9 (List.set (Q9 f1) (Int.toNat k2) (U14 0 (S13 0 (S12 0 (S11 0 (S10 false (S7 (List.append (P7 e9000) ([(o3.2.2.1,(bq1.2.1.2.2.2,(-1:Int)))])) (S6 (List.set (P6 e9000) (Int.toNat o3.2.1) bq1.2.1.2.2.2) (S1 (iadd .i64 e9000.2.1 1) e9000))))))))) f1),()),())) else none) else none)
 else
 (some (((U9 (List.set (Q9 f1) (Int.toNat k2) (U11 bq1.2.1 (S10 true e9000))) f1),()),()))))))
 else
 ((Zeg N m4 f1.1 (Q11 e9000)).bind fun bq1 =>
 (bif bq1.2.1.2.1 == 4 then
 (some (((U9 (List.set (Q9 f1) (Int.toNat k2) (U11 bq1.2.1 e9000)) (S3 true f1)),()),()))
 else
 (bif bq1.2.1.2.1 == 3 then
 (bif inb o3.2.1 (List.length (P6 e9000)) then
 (bif room ((List.length (P7 e9000)) + (List.length ([(o3.2.2.1,(bq1.2.1.2.2.2,(-1:Int)))]))) then
 (some (((U9 (List.set (Q9 f1) (Int.toNat k2) (U14 0 (S13 0 (S12 0 (S11 0 (S10 false (S7 (List.append (P7 e9000) ([(o3.2.2.1,(bq1.2.1.2.2.2,(-1:Int)))])) (S6 (List.set (P6 e9000) (Int.toNat o3.2.1) bq1.2.1.2.2.2) (S1 (iadd .i64 e9000.2.1 1) e9000))))))))) f1),()),())) else none) else none)
 else
 (some (((U9 (List.set (Q9 f1) (Int.toNat k2) (U11 bq1.2.1 e9000)) f1),()),()))))))))))) else none)
def Zbi (N:Nat) (l1:List (Int × Int)):Option (Unit × ((List (Int × Int)) × Unit)) :=
    (bif room (List.length l1) then
 (some ((),(l1,()))) else none)
def Zeh {R:Type} (N:Nat) (code4:List (Int × Int × Int × Int)) (K0:Int → Option R) (K1:Int → Int → Bool → Option R):Nat → Int → Int → Option R
  | 0,_,_=>none
  | n + 1,n5,k6 =>
    (bif decide (k6 < (ilen code4)) then
 (bif inb k6 (List.length code4) then
 ((Zi8 N (List.getD code4 (Int.toNat k6) (0,0,0,0))).bind fun o12 =>
 (bif (iadd .i64 n5 o12.2.1) == 0 then
 (K0 k6)
 else
 (Zeh N code4 K0 K1 n (iadd .i64 n5 o12.2.1) (iadd .i64 k6 1)))) else none)
 else
 (K1 n5 k6 (decide (k6 < (ilen code4)))))
def Zfj (N:Nat) (code1:List (Int × Int × Int × Int)) (i2:Int):Option (Unit × (Int × Unit)) :=
    ((Zm N i2 0 (isub .i64 (ilen code1) 1)).bind fun o3 =>
 (bif !o3.2.1 then
 (some ((),((-1:Int),())))
 else
 (bif inb i2 (List.length code1) then
 (bif (List.getD code1 (Int.toNat i2) (0,0,0,0)).1 != 8 then
 (some ((),((-1:Int),())))
 else
 (Zeh N code1
 (fun t13 =>
   (some ((),(t13,()))))
 (fun n14 k15 t16 =>
   (some ((),((-1:Int),()))))
  N 0 i2)) else none)))
def Zh2 (N:Nat) (x1:Y_KidRun) (code2:List (Int × Int × Int × Int)):Option ((Y_KidRun × Unit) × Unit) :=
    (bif (ilen (P9 x1)) == 0 then
 (some (((S8 ([]:List (Int × Int)) (S5 2 (S0 1 x1))),()),()))
 else
 (Wq (isub .i64 (ilen (P9 x1)) 1) fun e9001 =>
 (bif inb e9001 (List.length (P9 x1)) then
 (bif ((decide ((0:Int) ≤ e9001)) && (decide (e9001 ≤ ((List.length (P9 x1)):Int)))) && (decide (e9001 ≤ ((Int.toNat e9001):Int))) then
 (Wq (List.getD (P9 x1) (Int.toNat e9001) (0,(0,([]:List Int)))) fun e9000 =>
 ((Zx N e9000.2.2).bind fun bq3 =>
 (bif inb e9000.1 (List.length code2) then
 (bif inb (List.getD code2 (Int.toNat e9000.1) (0,0,0,0)).2.1 (List.length bq3.2.1) then
 (bif (decide ((0:Int) ≤ e9000.2.1)) && (decide (e9000.2.1 ≤ ((List.length (P8 x1)):Int))) then
 ((Zbi N (List.take (Int.toNat e9000.2.1) (P8 x1))).bind fun bq2 =>
 ((Zfj N code2 e9000.1).bind fun bq1 =>
 (some (((S9 (List.take (Int.toNat e9001) (P9 x1)) (S8 bq2.2.1 (S6 (List.set bq3.2.1 (Int.toNat (List.getD code2 (Int.toNat e9000.1) (0,0,0,0)).2.1) 0) (S1 (iadd .i64 bq1.2.1 1) x1)))),()),())))) else none) else none) else none))) else none) else none)))
def Zmq (N:Nat) (o1:Int × Int × Int × Int) (regs2:List Int):Option (Unit × ((List Int) × (Bool × Unit))) :=
    ((Zx N regs2).bind fun o3 =>
 ((Zr N o1).bind fun o4 =>
 (bif !o4.2.1 then
 (some ((),(o3.2.1,(false,()))))
 else
 (bif decide (o1.1 > 4) then
 (some ((),(o3.2.1,(false,()))))
 else
 ((Zac N regs2 4).bind fun o5 =>
 (bif !o5.2.1 then
 (some ((),(o3.2.1,(false,()))))
 else
 (bif o1.1 == 1 then
 (bif inb o1.2.1 (List.length o3.2.1) then
 (some ((),(List.set o3.2.1 (Int.toNat o1.2.1) o1.2.2.1,(true,())))) else none)
 else
 (bif o1.1 == 2 then
 (bif inb o1.2.2.1 (List.length regs2) then
 (bif inb o1.2.2.2 (List.length regs2) then
 (bif inz 65536 then
 (bif inb o1.2.1 (List.length o3.2.1) then
 (some ((),(List.set o3.2.1 (Int.toNat o1.2.1) (irem (iadd .i64 (List.getD regs2 (Int.toNat o1.2.2.1) 0) (List.getD regs2 (Int.toNat o1.2.2.2) 0)) 65536),(true,())))) else none) else none) else none) else none)
 else
 (bif o1.1 == 3 then
 (bif inb o1.2.2.1 (List.length regs2) then
 (bif inb o1.2.2.2 (List.length regs2) then
 (bif inz 65536 then
 (bif inb o1.2.1 (List.length o3.2.1) then
 (some ((),(List.set o3.2.1 (Int.toNat o1.2.1) (irem (iadd .i64 (isub .i64 (List.getD regs2 (Int.toNat o1.2.2.1) 0) (List.getD regs2 (Int.toNat o1.2.2.2) 0)) 65536) 65536),(true,())))) else none) else none) else none) else none)
 else
 (bif inb o1.2.1 (List.length o3.2.1) then
 (bif inb o1.2.2.1 (List.length regs2) then
 (bif inb o1.2.2.2 (List.length regs2) then
 (bif decide ((List.getD regs2 (Int.toNat o1.2.2.1) 0) < (List.getD regs2 (Int.toNat o1.2.2.2) 0)) then
 (bif inb o1.2.1 (List.length (List.set o3.2.1 (Int.toNat o1.2.1) 0)) then
 (Wq (List.set o3.2.1 (Int.toNat o1.2.1) 0) fun s6 =>
 (some ((),(List.set s6 (Int.toNat o1.2.1) 1,(true,()))))) else none)
 else
 (some ((),(List.set o3.2.1 (Int.toNat o1.2.1) 0,(true,()))))) else none) else none) else none))))))))))
def Ziw (N:Nat) (f1:Y_Family) (k2:Int) (code3:List (Int × Int × Int × Int)) (m4:Int × List (Int × Int × Int)):Option ((Y_Family × Unit) × Unit) :=
    (bif inb k2 (List.length (Q9 f1)) then
 (Wq (List.getD (Q9 f1) (Int.toNat k2) d_KidRun) fun e9000 =>
 (bif decide (e9000.2.1 ≥ (ilen code3)) then
 (some (((U9 (List.set (Q9 f1) (Int.toNat k2) (S5 1 (S0 1 e9000))) f1),()),()))
 else
 (bif inb e9000.2.1 (List.length code3) then
 (Wq (List.getD code3 (Int.toNat e9000.2.1) (0,0,0,0)) fun e9001 =>
 (bif e9001.1 == 5 then
 ((Zie N (U9 (List.set (Q9 f1) (Int.toNat k2) e9000) f1) k2 e9001 m4).bind fun bq1 =>
 (some ((bq1.1.1,()),())))
 else
 (bif e9001.1 == 10 then
 ((Zh2 N e9000 code3).bind fun bq1 =>
 (some (((U9 (List.set (Q9 f1) (Int.toNat k2) bq1.1.1) f1),()),())))
 else
 (bif e9001.1 == 6 then
 (bif inb e9001.2.2.1 (List.length (P6 e9000)) then
 (bif room ((List.length (P8 e9000)) + (List.length ([(e9001.2.1,List.getD (P6 e9000) (Int.toNat e9001.2.2.1) (0:Int))]))) then
 (some (((U9 (List.set (Q9 f1) (Int.toNat k2) (S8 (List.append (P8 e9000) ([(e9001.2.1,List.getD (P6 e9000) (Int.toNat e9001.2.2.1) 0)])) (S1 (iadd .i64 e9000.2.1 1) e9000))) f1),()),())) else none) else none)
 else
 (bif e9001.1 == 7 then
 (bif inb e9001.2.1 (List.length (P6 e9000)) then
 (bif (List.getD (P6 e9000) (Int.toNat e9001.2.1) 0) == 0 then
 (some (((U9 (List.set (Q9 f1) (Int.toNat k2) (e9000.1,(iadd .i64 (iadd .i64 e9000.2.1 e9001.2.2.1) 1,e9000.2.2))) f1),()),()))
 else
 (some (((U9 (List.set (Q9 f1) (Int.toNat k2) (e9000.1,(iadd .i64 e9000.2.1 1,e9000.2.2))) f1),()),()))) else none)
 else
 (bif e9001.1 == 8 then
 ((Zx N (P6 e9000)).bind fun bq1 =>
 (bif room ((List.length (P9 e9000)) + (List.length ([(e9000.2.1,(ilen (P8 e9000),bq1.2.1))]))) then
 (some (((U9 (List.set (Q9 f1) (Int.toNat k2) (S9 (List.append (P9 e9000) ([(e9000.2.1,(ilen (P8 e9000),bq1.2.1))])) (S1 (iadd .i64 e9000.2.1 1) e9000))) f1),()),())) else none))
 else
 (bif e9001.1 == 9 then
 (Wq (isub .i64 (ilen (P9 e9000)) 1) fun e9002 =>
 (bif inb e9002 (List.length (P9 e9000)) then
 (bif (decide ((0:Int) ≤ e9002)) && (decide (e9002 ≤ ((List.length (P9 e9000)):Int))) then
 (Wq (List.getD (P9 e9000) (Int.toNat e9002) (0,(0,([]:List Int)))) fun e9003 =>
 (bif inb e9003.1 (List.length code3) then
 (bif inb (List.getD code3 (Int.toNat e9003.1) (0,0,0,0)).2.1 (List.length (P6 e9000)) then
 (some (((U9 (List.set (Q9 f1) (Int.toNat k2) (S9 (List.take (Int.toNat e9002) (P9 e9000)) (S6 (List.set (P6 e9000) (Int.toNat (List.getD code3 (Int.toNat e9003.1) (0,0,0,0)).2.1) 1) (S1 (iadd .i64 e9000.2.1 1) e9000)))) f1),()),())) else none) else none)) else none) else none))
 else
 ((Zmq N e9001 (P6 e9000)).bind fun bq1 =>
 (some (((U9 (List.set (Q9 f1) (Int.toNat k2) (S6 bq1.2.1 (S1 (iadd .i64 e9000.2.1 1) e9000))) f1),()),())))))))))) else none))) else none)
def Zam (N:Nat) (x1:List (Int × Int × Int)):Option (((List (Int × Int × Int)) × Unit) × Unit):=Zm4 rngE cfE N x1
def Zay {R:Type} (N:Nat) (k4:Int) (t5:Int) (b7:Int) (b8:Int) (b9:Int) (b10:Bool) (b11:Int) (b12:Int) (b13:Int) (b14:Int) (b15:Int) (b16:Int) (b17:Bool) (b18:Int) (b19:Int) (b20:Int) (b21:Int) (l22:List (Int × Int)) (l23:List Int) (l24:List (Int × Int)) (l26:List Int) (l27:List (Int × Int)) (l28:List Y_KidRun) (i29:Nat) (l30:List Int) (l31:List (Int × Int × Int)) (l32:List (Int × Int)) (l33:List (Int × Int × List Int)) (K0:Int → Bool → (List (Int × Int × Int)) → Option R):Nat → Int → (List (Int × Int × Int)) → Option R
  | 0,_,_=>none
  | n + 1,t6,l25 =>
    (bif decide (t6 < t5) then
 (bif inb t6 (List.length l22) then
 (Wq (List.getD l22 (Int.toNat t6) (0,0)) fun e9000 =>
 ((Zck N (b7,(b8,(b9,(b10,(l23,(l24,(l25,(l26,(l27,List.set l28 i29 (b11,(b12,(b13,(b14,(b15,(b16,(l30,(l31,(l32,(l33,(b17,(b18,(b19,(b20,b21))))))))))))))))))))))) e9000.1).bind fun bq1 =>
 (bif decide (bq1.2.1 ≥ 0) then
 (bif inb bq1.2.1 (List.length l25) then
 (Zay N k4 t5 b7 b8 b9 b10 b11 b12 b13 b14 b15 b16 b17 b18 b19 b20 b21 l22 l23 l24 l26 l27 l28 i29 l30 l31 l32 l33 K0 n (iadd .i64 t6 1) (List.set l25 (Int.toNat bq1.2.1) (e9000.1,(e9000.2,b8)))) else none)
 else
 (bif room ((List.length l25) + (List.length ([(e9000.1,(e9000.2,b8))]))) then
 (Zay N k4 t5 b7 b8 b9 b10 b11 b12 b13 b14 b15 b16 b17 b18 b19 b20 b21 l22 l23 l24 l26 l27 l28 i29 l30 l31 l32 l33 K0 n (iadd .i64 t6 1) (List.append l25 ([(e9000.1,(e9000.2,b8))]))) else none)))) else none)
 else
 (K0 t6 (decide (t6 < t5)) l25))
def Za6 {R:Type} (N:Nat) (k43:Int) (t44:Int) (b46:Int) (b47:Int) (b48:Int) (b49:Bool) (b50:Int) (b51:Int) (b52:Int) (b53:Int) (b54:Int) (b55:Int) (b56:Bool) (b57:Int) (b58:Int) (b59:Int) (b60:Int) (l61:List (Int × Int × Int)) (l62:List Int) (l63:List (Int × Int)) (l64:List (Int × Int × Int)) (l65:List Int) (l67:List Y_KidRun) (i68:Nat) (l69:List Int) (l70:List (Int × Int)) (l71:List (Int × Int × List Int)) (K0:Int → Bool → (List (Int × Int)) → Option R):Nat → Int → (List (Int × Int)) → Option R
  | 0,_,_=>none
  | n + 1,t45,l66 =>
    (bif decide (t45 < t44) then
 (bif inb t45 (List.length l61) then
 (Wq (List.getD l61 (Int.toNat t45) (0,0,0)) fun e9000 =>
 (bif e9000.2.2 == (-1:Int) then
 (bif room ((List.length l66) + (List.length ([(e9000.1,e9000.2.1)]))) then
 (Za6 N k43 t44 b46 b47 b48 b49 b50 b51 b52 b53 b54 b55 b56 b57 b58 b59 b60 l61 l62 l63 l64 l65 l67 i68 l69 l70 l71 K0 n (iadd .i64 t45 1) (List.append l66 ([(e9000.1,e9000.2.1)]))) else none)
 else
 (Za6 N k43 t44 b46 b47 b48 b49 b50 b51 b52 b53 b54 b55 b56 b57 b58 b59 b60 l61 l62 l63 l64 l65 l67 i68 l69 l70 l71 K0 n (iadd .i64 t45 1) l66))) else none)
 else
 (K0 t45 (decide (t45 < t44)) l66))
def Zbr (N:Nat) (f1:Y_Family) (k2:Int):Option ((Y_Family × Unit) × Unit) :=
    (bif inb k2 (List.length (Q9 f1)) then
 ((Zd1 N (List.getD (Q9 f1) (Int.toNat k2) d_KidRun).2.2.2.2.2.2.2.2.1).bind fun o3 =>
 (Zay N k2 (ilen o3.2.1) f1.1 (iadd .i64 f1.2.1 1) f1.2.2.1 f1.2.2.2.1 (List.getD (Q9 f1) (Int.toNat k2) d_KidRun).1 (List.getD (Q9 f1) (Int.toNat k2) d_KidRun).2.1 (List.getD (Q9 f1) (Int.toNat k2) d_KidRun).2.2.1 (List.getD (Q9 f1) (Int.toNat k2) d_KidRun).2.2.2.1 (List.getD (Q9 f1) (Int.toNat k2) d_KidRun).2.2.2.2.1 (List.getD (Q9 f1) (Int.toNat k2) d_KidRun).2.2.2.2.2.1 (List.getD (Q9 f1) (Int.toNat k2) d_KidRun).2.2.2.2.2.2.2.2.2.2.1 (List.getD (Q9 f1) (Int.toNat k2) d_KidRun).2.2.2.2.2.2.2.2.2.2.2.1 (List.getD (Q9 f1) (Int.toNat k2) d_KidRun).2.2.2.2.2.2.2.2.2.2.2.2.1 (List.getD (Q9 f1) (Int.toNat k2) d_KidRun).2.2.2.2.2.2.2.2.2.2.2.2.2.1 (List.getD (Q9 f1) (Int.toNat k2) d_KidRun).2.2.2.2.2.2.2.2.2.2.2.2.2.2 o3.2.1 (P4 f1) (P5 f1) (P7 f1) (P8 f1) (Q9 f1) (Int.toNat k2) (List.getD (Q9 f1) (Int.toNat k2) d_KidRun).2.2.2.2.2.2.1 (List.getD (Q9 f1) (Int.toNat k2) d_KidRun).2.2.2.2.2.2.2.1 (List.getD (Q9 f1) (Int.toNat k2) d_KidRun).2.2.2.2.2.2.2.2.1 (List.getD (Q9 f1) (Int.toNat k2) d_KidRun).2.2.2.2.2.2.2.2.2.1
 (fun t39 t40 l41 =>
   ((Zam N l41).bind fun o42 =>
 (Za6 N k2 (ilen (List.getD (Q9 f1) (Int.toNat k2) d_KidRun).2.2.2.2.2.2.2.1) f1.1 (iadd .i64 f1.2.1 1) f1.2.2.1 f1.2.2.2.1 (List.getD (Q9 f1) (Int.toNat k2) d_KidRun).1 (List.getD (Q9 f1) (Int.toNat k2) d_KidRun).2.1 (List.getD (Q9 f1) (Int.toNat k2) d_KidRun).2.2.1 (List.getD (Q9 f1) (Int.toNat k2) d_KidRun).2.2.2.1 (List.getD (Q9 f1) (Int.toNat k2) d_KidRun).2.2.2.2.1 (List.getD (Q9 f1) (Int.toNat k2) d_KidRun).2.2.2.2.2.1 (List.getD (Q9 f1) (Int.toNat k2) d_KidRun).2.2.2.2.2.2.2.2.2.2.1 (List.getD (Q9 f1) (Int.toNat k2) d_KidRun).2.2.2.2.2.2.2.2.2.2.2.1 (List.getD (Q9 f1) (Int.toNat k2) d_KidRun).2.2.2.2.2.2.2.2.2.2.2.2.1 (List.getD (Q9 f1) (Int.toNat k2) d_KidRun).2.2.2.2.2.2.2.2.2.2.2.2.2.1 (List.getD (Q9 f1) (Int.toNat k2) d_KidRun).2.2.2.2.2.2.2.2.2.2.2.2.2.2 (List.getD (Q9 f1) (Int.toNat k2) d_KidRun).2.2.2.2.2.2.2.1 (P4 f1) (P5 f1) o42.1.1 (P7 f1) (Q9 f1) (Int.toNat k2) (List.getD (Q9 f1) (Int.toNat k2) d_KidRun).2.2.2.2.2.2.1 (List.getD (Q9 f1) (Int.toNat k2) d_KidRun).2.2.2.2.2.2.2.2.1 (List.getD (Q9 f1) (Int.toNat k2) d_KidRun).2.2.2.2.2.2.2.2.2.1
 (fun t75 t76 l77 =>
   (bif room ((List.length (P7 f1)) + (List.length ([k2]))) then
 (some (((f1.1,(iadd .i64 f1.2.1 1,(0,(U6 (List.set (Q9 f1) (Int.toNat k2) (S9 ([]:List (Int × Int × List Int)) (S4 0 (S0 3 (List.getD (Q9 f1) (Int.toNat k2) d_KidRun))))) (S5 l77 (S4 (List.append (P7 f1) ([k2])) (S3 o42.1.1 f1.2.2.2))))))),()),())) else none))
  N 0 (P8 f1))))
  N 0 (P6 f1))) else none)
def Zif (N:Nat) (f1:Y_Family) (k2:Int) (code3:List (Int × Int × Int × Int)) (m4:Int × List (Int × Int × Int)):Option ((Y_Family × Unit) × Unit) :=
    (bif f1.2.2.2.1 then
 (some ((f1,()),()))
 else
 (bif inb k2 (List.length (Q9 f1)) then
 (Wq (List.getD (Q9 f1) (Int.toNat k2) d_KidRun) fun e9000 =>
 (Wq (List.set (Q9 f1) (Int.toNat k2) e9000) fun e9001 =>
 (bif e9000.1 == 0 then
 ((Ziw N (U9 e9001 f1) k2 code3 m4).bind fun bq1 =>
 (some ((bq1.1.1,()),())))
 else
 (bif e9000.1 == 1 then
 (bif f1.2.2.1 == 0 then
 (some (((U9 (List.set (Q9 f1) (Int.toNat k2) (2,e9000.2)) (S2 (iadd .i64 k2 1) f1)),()),()))
 else
 (some (((U9 e9001 f1),()),())))
 else
 (bif e9000.1 == 2 then
 (bif (P4 e9000) == (ilen (P7 e9000)) then
 ((Zbr N (U9 e9001 f1) k2).bind fun bq1 =>
 (some ((bq1.1.1,()),())))
 else
 (bif inb (P4 e9000) (List.length (P7 e9000)) then
 (Wq (List.getD (P7 e9000) (Int.toNat (P4 e9000)) (0,0,0)) fun e9002 =>
 ((Zck N (U9 e9001 f1) e9002.1).bind fun bq2 =>
 (Wq (List.set (Q9 f1) (Int.toNat k2) (S4 (iadd .i64 (P4 e9000) 1) e9000)) fun e9003 =>
 (bif decide (bq2.2.1 ≥ 0) then
 (bif inb bq2.2.1 (List.length (P6 f1)) then
 (bif inb (P4 e9000) (List.length (P7 e9000)) then
 (bif (List.getD (P6 f1) (Int.toNat bq2.2.1) (0,0,0)).2.2 == e9002.2.2 then
 (some (((U9 e9003 f1),()),()))
 else
 ((Zbg N (U9 e9001 (S2 0 f1)) k2).bind fun bq1 =>
 (some ((bq1.1.1,()),())))) else none) else none)
 else
 (bif inb (P4 e9000) (List.length (P7 e9000)) then
 (bif (-1:Int) == e9002.2.2 then
 (some (((U9 e9003 f1),()),()))
 else
 ((Zbg N (U9 e9001 (S2 0 f1)) k2).bind fun bq1 =>
 (some ((bq1.1.1,()),())))) else none))))) else none))
 else
 (some (((U9 e9001 f1),()),()))))))) else none))
def Zcb (N:Nat) (m1:Int × List (Int × Int × Int)):Option (Unit × ((Int × List (Int × Int × Int)) × Unit)) :=
    (bif room (List.length m1.2) then
 (some ((),(m1,()))) else none)
def Zow (N:Nat) (m1:Int × List (Int × Int × Int)):Option (Unit × ((Int × List (Int × Int × Int)) × (Int × Unit))) :=
    ((Zcb N m1).bind fun o2 =>
 ((Zb1 N m1).bind fun o3 =>
 (bif !o3.2.1 then
 (some ((),(o2.2.1,(0,()))))
 else
 (bif m1.1 == 1000000 then
 (some ((),(o2.2.1,(0,()))))
 else
 (some ((),((iadd .i64 o2.2.1.1 1,o2.2.1.2),(iadd .i64 o2.2.1.1 1,()))))))))
def Ztc (N:Nat) (code1:List Int):Option (Unit × (Bool × Unit)) :=
    (some ((),(decide ((ilen code1) > 1048576),())))
def Zcr {R:Type} (N:Nat) (code2:List Int) (K0:Int → Int → Bool → Option R):Nat → Int → Int → Option R
  | 0,_,_=>none
  | n + 1,h3,i4 =>
    (bif decide (i4 < (ilen code2)) then
 (bif decide (i4 < 4000) then
 (bif inb i4 (List.length code2) then
 (Zcr N code2 K0 n (iand .i64 (iadd .i64 (iadd .i64 (imul .i64 h3 131) (IntKind.wrap .i64 (List.getD code2 (Int.toNat i4) 0))) 7) 1073741823) (iadd .i64 i4 1)) else none)
 else
 (K0 h3 i4 (decide (i4 < 4000))))
 else
 (K0 h3 i4 false))
def Zgs (N:Nat) (code1:List Int):Option (Unit × ((List Int × Int × Int) × Unit)) :=
    (Zcr N code1
 (fun h8 i9 t10 =>
   (some ((),((code1,(0,h8)),()))))
  N (iadd .i64 10101 (ilen code1)) 0)
def Zf5 (N:Nat) (c1:List Int × Int × Int):Option (((List Int × Int × Int) × Unit) × (Int × Unit)) :=
    (bif inn 33 then
 (bif inn 45 then
 (bif decide (c1.2.1 < (ilen c1.1)) then
 (bif inb c1.2.1 (List.length c1.1) then
 (some (((c1.1,(iadd .i64 c1.2.1 1,iadd .i64 (imul .i64 c1.2.2 6364136223846793005) 1442695040888963407)),()),(iand .i64 (iadd .i64 (iand .i64 (ixor .i64 (ishr .i64 (iadd .i64 (imul .i64 c1.2.2 6364136223846793005) 1442695040888963407) 33) (ishr .i64 (iadd .i64 (imul .i64 c1.2.2 6364136223846793005) 1442695040888963407) 45)) 255) (IntKind.wrap .i64 (List.getD c1.1 (Int.toNat c1.2.1) 0))) 255,()))) else none)
 else
 (some (((c1.1,(c1.2.1,iadd .i64 (imul .i64 c1.2.2 6364136223846793005) 1442695040888963407)),()),(iand .i64 (ixor .i64 (ishr .i64 (iadd .i64 (imul .i64 c1.2.2 6364136223846793005) 1442695040888963407) 33) (ishr .i64 (iadd .i64 (imul .i64 c1.2.2 6364136223846793005) 1442695040888963407) 45)) 255,())))) else none) else none)
def Zb (N:Nat) (c1:List Int × Int × Int) (n2:Int):Option (((List Int × Int × Int) × Unit) × (Int × Unit)) :=
    (bif decide (n2 ≤ 0) then
 (some ((c1,()),(0,())))
 else
 (bif decide (n2 ≤ 256) then
 ((Zf5 N c1).bind fun o3 =>
 (bif inz n2 then
 (some ((o3.1.1,()),(irem o3.2.1 n2,()))) else none))
 else
 ((Zf5 N c1).bind fun o4 =>
 ((Zf5 N o4.1.1).bind fun o5 =>
 ((Zf5 N o5.1.1).bind fun o6 =>
 ((Zf5 N o6.1.1).bind fun o7 =>
 (bif inz n2 then
 (some ((o7.1.1,()),(irem (iadd .i64 (iadd .i64 (iadd .i64 (imul .i64 o4.2.1 16777216) (imul .i64 o5.2.1 65536)) (imul .i64 o6.2.1 256)) o7.2.1) n2,()))) else none)))))))
def Zw (N:Nat) (c1:List Int × Int × Int) (n2:Int):Option (((List Int × Int × Int) × Unit) × (Bool × Unit)) :=
    ((Zb N c1 n2).bind fun o3 =>
 (some ((o3.1.1,()),(o3.2.1 == 0,()))))
def Zbo (N:Nat) (c1:List Int × Int × Int) (list2:List Int):Option (((List Int × Int × Int) × Unit) × (Int × Unit)) :=
    ((Zb N c1 (ilen list2)).bind fun o3 =>
 (bif inb o3.2.1 (List.length list2) then
 (some ((o3.1.1,()),(List.getD list2 (Int.toNat o3.2.1) 0,()))) else none))
def Zg8 (N:Nat) (c1:List Int × Int × Int):Option (((List Int × Int × Int) × Unit) × (Int × Unit)) :=
    ((Zw N c1 6).bind fun o2 =>
 (bif o2.2.1 then
 ((Zbo N o2.1.1 ([0,65535,65534,256])).bind fun o3 =>
 (some ((o3.1.1,()),(o3.2.1,()))))
 else
 ((Zb N o2.1.1 9).bind fun o4 =>
 (some ((o4.1.1,()),(o4.2.1,()))))))
def Zco {R:Type} (N:Nat) (K0:Int → Bool → (List Int × Int × Int) → (List Int) → Option R):Nat → Int → (List Int × Int × Int) → (List Int) → Option R
  | 0,_,_,_=>none
  | n + 1,i2,b3,l4 =>
    (bif decide (i2 < 8) then
 ((Zg8 N b3).bind fun o10 =>
 (bif room ((List.length l4) + (List.length ([o10.2.1]))) then
 (Zco N K0 n (iadd .i64 i2 1) o10.1.1 (List.append l4 ([o10.2.1]))) else none))
 else
 (K0 i2 (decide (i2 < 8)) b3 l4))
def Zcf (N:Nat) (c1:List Int × Int × Int):Option (((List Int × Int × Int) × Unit) × ((List Int) × Unit)) :=
    (Zco N
 (fun i11 t12 b13 l14 =>
   (some ((b13,()),(l14,()))))
  N 0 c1 ([]:List Int))
def Zcl {R:Type} (N:Nat) (b7:Int) (l8:List Int) (K0:Int → Bool → (List Int × Int × Int) → (List Int) → Option R):Nat → Int → (List Int × Int × Int) → (List Int) → Option R
  | 0,_,_,_=>none
  | n + 1,i4,b5,l9 =>
    (bif decide (i4 < 8) then
 ((Zw N b5 2).bind fun o18 =>
 (bif o18.2.1 then
 ((Zg8 N o18.1.1).bind fun o19 =>
 (bif room ((List.length l9) + (List.length ([(iadd .i64 (1:Int) o19.2.1)]))) then
 (Zcl N b7 l8 K0 n (iadd .i64 i4 1) o19.1.1 (List.append l9 ([(iadd .i64 1 o19.2.1)]))) else none))
 else
 (bif room ((List.length l9) + (List.length ([(0:Int)]))) then
 (Zcl N b7 l8 K0 n (iadd .i64 i4 1) o18.1.1 (List.append l9 ([0]))) else none)))
 else
 (K0 i4 (decide (i4 < 8)) b5 l9))
def Zcm (N:Nat) (c1:List Int × Int × Int):Option (((List Int × Int × Int) × Unit) × ((List Int × List Int × Int) × Unit)) :=
    ((Zcf N c1).bind fun o2 =>
 ((Zg8 N o2.1.1).bind fun o3 =>
 (Zcl N o3.2.1 o2.2.1
 (fun i20 t21 b22 l23 =>
   (some ((b22,()),((o2.2.1,(l23,o3.2.1)),()))))
  N 0 o3.1.1 ([]:List Int))))
def Za (N:Nat) (c1:List Int × Int × Int):Option (((List Int × Int × Int) × Unit) × (Int × Unit)) :=
    ((Zb N c1 4).bind fun o2 =>
 (some ((o2.1.1,()),(o2.2.1,()))))
def Zbx (N:Nat) (c1:List Int × Int × Int):Option (((List Int × Int × Int) × Unit) × (Int × Unit)) :=
    ((Zw N c1 8).bind fun o2 =>
 (bif o2.2.1 then
 ((Zb N o2.1.1 8).bind fun o3 =>
 (some ((o3.1.1,()),(o3.2.1,()))))
 else
 ((Zb N o2.1.1 3).bind fun o4 =>
 (some ((o4.1.1,()),(o4.2.1,()))))))
def Zk (N:Nat) (c1:List Int × Int × Int):Option (((List Int × Int × Int) × Unit) × (Int × Unit)) :=
    ((Zw N c1 4).bind fun o2 =>
 (bif o2.2.1 then
 ((Zb N o2.1.1 8).bind fun o3 =>
 (some ((o3.1.1,()),(o3.2.1,()))))
 else
 ((Zbo N o2.1.1 ([0,4,1])).bind fun o4 =>
 (some ((o4.1.1,()),(o4.2.1,()))))))
def Zj (N:Nat) (c1:List Int × Int × Int) (kind2:Int):Option (((List Int × Int × Int) × Unit) × ((Int × Int × Int × Int) × Unit)) :=
    (bif kind2 == 1 then
 ((Za N c1).bind fun o3 =>
 ((Zg8 N o3.1.1).bind fun o4 =>
 (some ((o4.1.1,()),((kind2,(o3.2.1,(o4.2.1,0))),())))))
 else
 (bif kind2 == 2 then
 (bif kind2 == 2 then
 ((Za N c1).bind fun o5 =>
 ((Za N o5.1.1).bind fun o6 =>
 ((Za N o6.1.1).bind fun o7 =>
 (some ((o7.1.1,()),((kind2,(o5.2.1,(o6.2.1,o7.2.1))),()))))))
 else
 (bif kind2 == 5 then
 ((Za N c1).bind fun o8 =>
 ((Zbx N o8.1.1).bind fun o9 =>
 (some ((o9.1.1,()),((kind2,(o8.2.1,(o9.2.1,0))),())))))
 else
 (bif kind2 == 6 then
 ((Zbx N c1).bind fun o10 =>
 ((Za N o10.1.1).bind fun o11 =>
 (some ((o11.1.1,()),((kind2,(o10.2.1,(o11.2.1,0))),())))))
 else
 (bif kind2 == 7 then
 ((Za N c1).bind fun o12 =>
 ((Zb N o12.1.1 3).bind fun o13 =>
 (some ((o13.1.1,()),((kind2,(o12.2.1,(iadd .i64 1 o13.2.1,0))),())))))
 else
 (bif kind2 == 8 then
 (bif kind2 == 8 then
 ((Za N c1).bind fun o14 =>
 (some ((o14.1.1,()),((kind2,(o14.2.1,(0,0))),()))))
 else
 (bif kind2 == 12 then
 ((Zk N c1).bind fun o15 =>
 ((Za N o15.1.1).bind fun o16 =>
 ((Za N o16.1.1).bind fun o17 =>
 (some ((o17.1.1,()),((kind2,(o15.2.1,(o16.2.1,o17.2.1))),()))))))
 else
 (bif kind2 == 13 then
 ((Za N c1).bind fun o18 =>
 ((Zk N o18.1.1).bind fun o19 =>
 (some ((o19.1.1,()),((kind2,(o18.2.1,(o19.2.1,0))),())))))
 else
 (bif kind2 == 14 then
 ((Zk N c1).bind fun o20 =>
 ((Za N o20.1.1).bind fun o21 =>
 (some ((o21.1.1,()),((kind2,(o20.2.1,(o21.2.1,0))),())))))
 else
 (some ((c1,()),((kind2,(0,0,0)),())))))))
 else
 (bif kind2 == 15 then
 (bif kind2 == 15 then
 ((Za N c1).bind fun o22 =>
 (some ((o22.1.1,()),((kind2,(o22.2.1,(0,0))),()))))
 else
 (bif kind2 == 12 then
 ((Zk N c1).bind fun o23 =>
 ((Za N o23.1.1).bind fun o24 =>
 ((Za N o24.1.1).bind fun o25 =>
 (some ((o25.1.1,()),((kind2,(o23.2.1,(o24.2.1,o25.2.1))),()))))))
 else
 (bif kind2 == 13 then
 ((Za N c1).bind fun o26 =>
 ((Zk N o26.1.1).bind fun o27 =>
 (some ((o27.1.1,()),((kind2,(o26.2.1,(o27.2.1,0))),())))))
 else
 (bif kind2 == 14 then
 ((Zk N c1).bind fun o28 =>
 ((Za N o28.1.1).bind fun o29 =>
 (some ((o29.1.1,()),((kind2,(o28.2.1,(o29.2.1,0))),())))))
 else
 (some ((c1,()),((kind2,(0,0,0)),())))))))
 else
 (bif kind2 == 16 then
 ((Za N c1).bind fun o30 =>
 (some ((o30.1.1,()),((kind2,(o30.2.1,(0,0))),()))))
 else
 (bif kind2 == 12 then
 ((Zk N c1).bind fun o31 =>
 ((Za N o31.1.1).bind fun o32 =>
 ((Za N o32.1.1).bind fun o33 =>
 (some ((o33.1.1,()),((kind2,(o31.2.1,(o32.2.1,o33.2.1))),()))))))
 else
 (bif kind2 == 13 then
 ((Za N c1).bind fun o34 =>
 ((Zk N o34.1.1).bind fun o35 =>
 (some ((o35.1.1,()),((kind2,(o34.2.1,(o35.2.1,0))),())))))
 else
 (bif kind2 == 14 then
 ((Zk N c1).bind fun o36 =>
 ((Za N o36.1.1).bind fun o37 =>
 (some ((o37.1.1,()),((kind2,(o36.2.1,(o37.2.1,0))),())))))
 else
 (some ((c1,()),((kind2,(0,0,0)),())))))))))))))
 else
 (bif kind2 == 3 then
 (bif kind2 == 3 then
 ((Za N c1).bind fun o38 =>
 ((Za N o38.1.1).bind fun o39 =>
 ((Za N o39.1.1).bind fun o40 =>
 (some ((o40.1.1,()),((kind2,(o38.2.1,(o39.2.1,o40.2.1))),()))))))
 else
 (bif kind2 == 5 then
 ((Za N c1).bind fun o41 =>
 ((Zbx N o41.1.1).bind fun o42 =>
 (some ((o42.1.1,()),((kind2,(o41.2.1,(o42.2.1,0))),())))))
 else
 (bif kind2 == 6 then
 ((Zbx N c1).bind fun o43 =>
 ((Za N o43.1.1).bind fun o44 =>
 (some ((o44.1.1,()),((kind2,(o43.2.1,(o44.2.1,0))),())))))
 else
 (bif kind2 == 7 then
 ((Za N c1).bind fun o45 =>
 ((Zb N o45.1.1 3).bind fun o46 =>
 (some ((o46.1.1,()),((kind2,(o45.2.1,(iadd .i64 1 o46.2.1,0))),())))))
 else
 (bif kind2 == 8 then
 (bif kind2 == 8 then
 ((Za N c1).bind fun o47 =>
 (some ((o47.1.1,()),((kind2,(o47.2.1,(0,0))),()))))
 else
 (bif kind2 == 12 then
 ((Zk N c1).bind fun o48 =>
 ((Za N o48.1.1).bind fun o49 =>
 ((Za N o49.1.1).bind fun o50 =>
 (some ((o50.1.1,()),((kind2,(o48.2.1,(o49.2.1,o50.2.1))),()))))))
 else
 (bif kind2 == 13 then
 ((Za N c1).bind fun o51 =>
 ((Zk N o51.1.1).bind fun o52 =>
 (some ((o52.1.1,()),((kind2,(o51.2.1,(o52.2.1,0))),())))))
 else
 (bif kind2 == 14 then
 ((Zk N c1).bind fun o53 =>
 ((Za N o53.1.1).bind fun o54 =>
 (some ((o54.1.1,()),((kind2,(o53.2.1,(o54.2.1,0))),())))))
 else
 (some ((c1,()),((kind2,(0,0,0)),())))))))
 else
 (bif kind2 == 15 then
 (bif kind2 == 15 then
 ((Za N c1).bind fun o55 =>
 (some ((o55.1.1,()),((kind2,(o55.2.1,(0,0))),()))))
 else
 (bif kind2 == 12 then
 ((Zk N c1).bind fun o56 =>
 ((Za N o56.1.1).bind fun o57 =>
 ((Za N o57.1.1).bind fun o58 =>
 (some ((o58.1.1,()),((kind2,(o56.2.1,(o57.2.1,o58.2.1))),()))))))
 else
 (bif kind2 == 13 then
 ((Za N c1).bind fun o59 =>
 ((Zk N o59.1.1).bind fun o60 =>
 (some ((o60.1.1,()),((kind2,(o59.2.1,(o60.2.1,0))),())))))
 else
 (bif kind2 == 14 then
 ((Zk N c1).bind fun o61 =>
 ((Za N o61.1.1).bind fun o62 =>
 (some ((o62.1.1,()),((kind2,(o61.2.1,(o62.2.1,0))),())))))
 else
 (some ((c1,()),((kind2,(0,0,0)),())))))))
 else
 (bif kind2 == 16 then
 ((Za N c1).bind fun o63 =>
 (some ((o63.1.1,()),((kind2,(o63.2.1,(0,0))),()))))
 else
 (bif kind2 == 12 then
 ((Zk N c1).bind fun o64 =>
 ((Za N o64.1.1).bind fun o65 =>
 ((Za N o65.1.1).bind fun o66 =>
 (some ((o66.1.1,()),((kind2,(o64.2.1,(o65.2.1,o66.2.1))),()))))))
 else
 (bif kind2 == 13 then
 ((Za N c1).bind fun o67 =>
 ((Zk N o67.1.1).bind fun o68 =>
 (some ((o68.1.1,()),((kind2,(o67.2.1,(o68.2.1,0))),())))))
 else
 (bif kind2 == 14 then
 ((Zk N c1).bind fun o69 =>
 ((Za N o69.1.1).bind fun o70 =>
 (some ((o70.1.1,()),((kind2,(o69.2.1,(o70.2.1,0))),())))))
 else
 (some ((c1,()),((kind2,(0,0,0)),())))))))))))))
 else
 (bif kind2 == 4 then
 ((Za N c1).bind fun o71 =>
 ((Za N o71.1.1).bind fun o72 =>
 ((Za N o72.1.1).bind fun o73 =>
 (some ((o73.1.1,()),((kind2,(o71.2.1,(o72.2.1,o73.2.1))),()))))))
 else
 (bif kind2 == 5 then
 ((Za N c1).bind fun o74 =>
 ((Zbx N o74.1.1).bind fun o75 =>
 (some ((o75.1.1,()),((kind2,(o74.2.1,(o75.2.1,0))),())))))
 else
 (bif kind2 == 6 then
 ((Zbx N c1).bind fun o76 =>
 ((Za N o76.1.1).bind fun o77 =>
 (some ((o77.1.1,()),((kind2,(o76.2.1,(o77.2.1,0))),())))))
 else
 (bif kind2 == 7 then
 ((Za N c1).bind fun o78 =>
 ((Zb N o78.1.1 3).bind fun o79 =>
 (some ((o79.1.1,()),((kind2,(o78.2.1,(iadd .i64 1 o79.2.1,0))),())))))
 else
 (bif kind2 == 8 then
 (bif kind2 == 8 then
 ((Za N c1).bind fun o80 =>
 (some ((o80.1.1,()),((kind2,(o80.2.1,(0,0))),()))))
 else
 (bif kind2 == 12 then
 ((Zk N c1).bind fun o81 =>
 ((Za N o81.1.1).bind fun o82 =>
 ((Za N o82.1.1).bind fun o83 =>
 (some ((o83.1.1,()),((kind2,(o81.2.1,(o82.2.1,o83.2.1))),()))))))
 else
 (bif kind2 == 13 then
 ((Za N c1).bind fun o84 =>
 ((Zk N o84.1.1).bind fun o85 =>
 (some ((o85.1.1,()),((kind2,(o84.2.1,(o85.2.1,0))),())))))
 else
 (bif kind2 == 14 then
 ((Zk N c1).bind fun o86 =>
 ((Za N o86.1.1).bind fun o87 =>
 (some ((o87.1.1,()),((kind2,(o86.2.1,(o87.2.1,0))),())))))
 else
 (some ((c1,()),((kind2,(0,0,0)),())))))))
 else
 (bif kind2 == 15 then
 (bif kind2 == 15 then
 ((Za N c1).bind fun o88 =>
 (some ((o88.1.1,()),((kind2,(o88.2.1,(0,0))),()))))
 else
 (bif kind2 == 12 then
 ((Zk N c1).bind fun o89 =>
 ((Za N o89.1.1).bind fun o90 =>
 ((Za N o90.1.1).bind fun o91 =>
 (some ((o91.1.1,()),((kind2,(o89.2.1,(o90.2.1,o91.2.1))),()))))))
 else
 (bif kind2 == 13 then
 ((Za N c1).bind fun o92 =>
 ((Zk N o92.1.1).bind fun o93 =>
 (some ((o93.1.1,()),((kind2,(o92.2.1,(o93.2.1,0))),())))))
 else
 (bif kind2 == 14 then
 ((Zk N c1).bind fun o94 =>
 ((Za N o94.1.1).bind fun o95 =>
 (some ((o95.1.1,()),((kind2,(o94.2.1,(o95.2.1,0))),())))))
 else
 (some ((c1,()),((kind2,(0,0,0)),())))))))
 else
 (bif kind2 == 16 then
 ((Za N c1).bind fun o96 =>
 (some ((o96.1.1,()),((kind2,(o96.2.1,(0,0))),()))))
 else
 (bif kind2 == 12 then
 ((Zk N c1).bind fun o97 =>
 ((Za N o97.1.1).bind fun o98 =>
 ((Za N o98.1.1).bind fun o99 =>
 (some ((o99.1.1,()),((kind2,(o97.2.1,(o98.2.1,o99.2.1))),()))))))
 else
 (bif kind2 == 13 then
 ((Za N c1).bind fun o100 =>
 ((Zk N o100.1.1).bind fun o101 =>
 (some ((o101.1.1,()),((kind2,(o100.2.1,(o101.2.1,0))),())))))
 else
 (bif kind2 == 14 then
 ((Zk N c1).bind fun o102 =>
 ((Za N o102.1.1).bind fun o103 =>
 (some ((o103.1.1,()),((kind2,(o102.2.1,(o103.2.1,0))),())))))
 else
 (some ((c1,()),((kind2,(0,0,0)),()))))))))))))))))
def Zc {R:Type} (N:Nat) (rec:(List Int × Int × Int) → Int → Int → Bool → Option (((List Int × Int × Int) × Unit) × ((List (Int × Int × Int × Int)) × Unit))) (most6:Int) (deep7:Int) (kid8:Bool) (K0:Int → Bool → (List Int × Int × Int) → (List (Int × Int × Int × Int)) → Option R):Nat → Int → (List Int × Int × Int) → (List (Int × Int × Int × Int)) → Option R
  | 0,_,_,_=>none
  | n + 1,n9,b10,l11 =>
    (bif decide (n9 > 0) then
 (bif decide ((ilen l11) < most6) then
 ((Zb N b10 20).bind fun o84 =>
 (bif decide (o84.2.1 < 5) then
 ((Zj N o84.1.1 5).bind fun o85 =>
 (bif room ((List.length l11) + (List.length ([o85.2.1]))) then
 (Zc N rec most6 deep7 kid8 K0 n (isub .i64 n9 1) o85.1.1 (List.append l11 ([o85.2.1]))) else none))
 else
 (bif decide (o84.2.1 < 10) then
 ((Zj N o84.1.1 6).bind fun o86 =>
 (bif room ((List.length l11) + (List.length ([o86.2.1]))) then
 (Zc N rec most6 deep7 kid8 K0 n (isub .i64 n9 1) o86.1.1 (List.append l11 ([o86.2.1]))) else none))
 else
 (bif decide (o84.2.1 < 12) then
 ((Zb N o84.1.1 4).bind fun o87 =>
 ((Zj N o87.1.1 (iadd .i64 1 o87.2.1)).bind fun o88 =>
 (bif room ((List.length l11) + (List.length ([o88.2.1]))) then
 (Zc N rec most6 deep7 kid8 K0 n (isub .i64 n9 1) o88.1.1 (List.append l11 ([o88.2.1]))) else none)))
 else
 (bif o84.2.1 == 12 then
 (bif decide (deep7 > 0) then
 (bif decide ((isub .i64 most6 (ilen l11)) ≥ 4) then
 ((rec o84.1.1 (isub .i64 (isub .i64 most6 (ilen l11)) 3) (isub .i64 deep7 1) kid8).bind fun o89 =>
 ((Zj N o89.1.1 8).bind fun o90 =>
 (bif room ((List.length l11) + (List.length ([o90.2.1]))) then
 (bif room ((List.length (List.append l11 ([o90.2.1]))) + (List.length o89.2.1)) then
 ((Zw N o90.1.1 3).bind fun o91 =>
 (bif o91.2.1 then
 (bif room ((List.length (List.append (List.append l11 ([o90.2.1])) o89.2.1)) + (List.length ([((10:Int),((0:Int),((0:Int),(0:Int))))]))) then
 (bif room ((List.length (List.append (List.append (List.append l11 ([o90.2.1])) o89.2.1) ([(10,(0,0,0))]))) + (List.length ([((9:Int),((0:Int),((0:Int),(0:Int))))]))) then
 (Zc N rec most6 deep7 kid8 K0 n (isub .i64 n9 1) o91.1.1 (List.append (List.append (List.append (List.append l11 ([o90.2.1])) o89.2.1) ([(10,(0,0,0))])) ([(9,(0,0,0))]))) else none) else none)
 else
 (bif room ((List.length (List.append (List.append l11 ([o90.2.1])) o89.2.1)) + (List.length ([((9:Int),((0:Int),((0:Int),(0:Int))))]))) then
 (Zc N rec most6 deep7 kid8 K0 n (isub .i64 n9 1) o91.1.1 (List.append (List.append (List.append l11 ([o90.2.1])) o89.2.1) ([(9,(0,0,0))]))) else none))) else none) else none)))
 else
 (bif o84.2.1 == 13 then
 (bif decide ((isub .i64 most6 (ilen l11)) ≥ 3) then
 ((rec o84.1.1 2 0 kid8).bind fun o92 =>
 ((Zj N o92.1.1 7).bind fun o93 =>
 (bif room ((List.length l11) + (List.length ([(o93.2.1.1,(o93.2.1.2.1,(ilen o92.2.1,o93.2.1.2.2.2)))]))) then
 (bif room ((List.length (List.append l11 ([(o93.2.1.1,(o93.2.1.2.1,(ilen o92.2.1,o93.2.1.2.2.2)))]))) + (List.length o92.2.1)) then
 (Zc N rec most6 deep7 kid8 K0 n (isub .i64 n9 1) o93.1.1 (List.append (List.append l11 ([(o93.2.1.1,(o93.2.1.2.1,(ilen o92.2.1,o93.2.1.2.2.2)))])) o92.2.1)) else none) else none)))
 else
 (bif o84.2.1 == 14 then
 ((Zw N o84.1.1 6).bind fun o94 =>
 (bif o94.2.1 then
 (bif room ((List.length l11) + (List.length ([((10:Int),((0:Int),((0:Int),(0:Int))))]))) then
 (Zc N rec most6 deep7 kid8 K0 n (isub .i64 n9 1) o94.1.1 (List.append l11 ([(10,(0,0,0))]))) else none)
 else
 (bif kid8 then
 ((Zb N o94.1.1 3).bind fun o95 =>
 ((Zj N o95.1.1 (iadd .i64 1 o95.2.1)).bind fun o96 =>
 (bif room ((List.length l11) + (List.length ([o96.2.1]))) then
 (Zc N rec most6 deep7 kid8 K0 n (isub .i64 n9 1) o96.1.1 (List.append l11 ([o96.2.1]))) else none)))
 else
 ((Zb N o94.1.1 5).bind fun o97 =>
 ((Zj N o97.1.1 (iadd .i64 12 o97.2.1)).bind fun o98 =>
 (bif room ((List.length l11) + (List.length ([o98.2.1]))) then
 (Zc N rec most6 deep7 kid8 K0 n (isub .i64 n9 1) o98.1.1 (List.append l11 ([o98.2.1]))) else none))))))
 else
 (bif kid8 then
 ((Zb N o84.1.1 3).bind fun o99 =>
 ((Zj N o99.1.1 (iadd .i64 1 o99.2.1)).bind fun o100 =>
 (bif room ((List.length l11) + (List.length ([o100.2.1]))) then
 (Zc N rec most6 deep7 kid8 K0 n (isub .i64 n9 1) o100.1.1 (List.append l11 ([o100.2.1]))) else none)))
 else
 ((Zb N o84.1.1 5).bind fun o101 =>
 ((Zj N o101.1.1 (iadd .i64 12 o101.2.1)).bind fun o102 =>
 (bif room ((List.length l11) + (List.length ([o102.2.1]))) then
 (Zc N rec most6 deep7 kid8 K0 n (isub .i64 n9 1) o102.1.1 (List.append l11 ([o102.2.1]))) else none))))))
 else
 (bif o84.2.1 == 14 then
 ((Zw N o84.1.1 6).bind fun o103 =>
 (bif o103.2.1 then
 (bif room ((List.length l11) + (List.length ([((10:Int),((0:Int),((0:Int),(0:Int))))]))) then
 (Zc N rec most6 deep7 kid8 K0 n (isub .i64 n9 1) o103.1.1 (List.append l11 ([(10,(0,0,0))]))) else none)
 else
 (bif kid8 then
 ((Zb N o103.1.1 3).bind fun o104 =>
 ((Zj N o104.1.1 (iadd .i64 1 o104.2.1)).bind fun o105 =>
 (bif room ((List.length l11) + (List.length ([o105.2.1]))) then
 (Zc N rec most6 deep7 kid8 K0 n (isub .i64 n9 1) o105.1.1 (List.append l11 ([o105.2.1]))) else none)))
 else
 ((Zb N o103.1.1 5).bind fun o106 =>
 ((Zj N o106.1.1 (iadd .i64 12 o106.2.1)).bind fun o107 =>
 (bif room ((List.length l11) + (List.length ([o107.2.1]))) then
 (Zc N rec most6 deep7 kid8 K0 n (isub .i64 n9 1) o107.1.1 (List.append l11 ([o107.2.1]))) else none))))))
 else
 (bif kid8 then
 ((Zb N o84.1.1 3).bind fun o108 =>
 ((Zj N o108.1.1 (iadd .i64 1 o108.2.1)).bind fun o109 =>
 (bif room ((List.length l11) + (List.length ([o109.2.1]))) then
 (Zc N rec most6 deep7 kid8 K0 n (isub .i64 n9 1) o109.1.1 (List.append l11 ([o109.2.1]))) else none)))
 else
 ((Zb N o84.1.1 5).bind fun o110 =>
 ((Zj N o110.1.1 (iadd .i64 12 o110.2.1)).bind fun o111 =>
 (bif room ((List.length l11) + (List.length ([o111.2.1]))) then
 (Zc N rec most6 deep7 kid8 K0 n (isub .i64 n9 1) o111.1.1 (List.append l11 ([o111.2.1]))) else none)))))))
 else
 (bif o84.2.1 == 13 then
 (bif decide ((isub .i64 most6 (ilen l11)) ≥ 3) then
 ((rec o84.1.1 2 0 kid8).bind fun o112 =>
 ((Zj N o112.1.1 7).bind fun o113 =>
 (bif room ((List.length l11) + (List.length ([(o113.2.1.1,(o113.2.1.2.1,(ilen o112.2.1,o113.2.1.2.2.2)))]))) then
 (bif room ((List.length (List.append l11 ([(o113.2.1.1,(o113.2.1.2.1,(ilen o112.2.1,o113.2.1.2.2.2)))]))) + (List.length o112.2.1)) then
 (Zc N rec most6 deep7 kid8 K0 n (isub .i64 n9 1) o113.1.1 (List.append (List.append l11 ([(o113.2.1.1,(o113.2.1.2.1,(ilen o112.2.1,o113.2.1.2.2.2)))])) o112.2.1)) else none) else none)))
 else
 (bif o84.2.1 == 14 then
 ((Zw N o84.1.1 6).bind fun o114 =>
 (bif o114.2.1 then
 (bif room ((List.length l11) + (List.length ([((10:Int),((0:Int),((0:Int),(0:Int))))]))) then
 (Zc N rec most6 deep7 kid8 K0 n (isub .i64 n9 1) o114.1.1 (List.append l11 ([(10,(0,0,0))]))) else none)
 else
 (bif kid8 then
 ((Zb N o114.1.1 3).bind fun o115 =>
 ((Zj N o115.1.1 (iadd .i64 1 o115.2.1)).bind fun o116 =>
 (bif room ((List.length l11) + (List.length ([o116.2.1]))) then
 (Zc N rec most6 deep7 kid8 K0 n (isub .i64 n9 1) o116.1.1 (List.append l11 ([o116.2.1]))) else none)))
 else
 ((Zb N o114.1.1 5).bind fun o117 =>
 ((Zj N o117.1.1 (iadd .i64 12 o117.2.1)).bind fun o118 =>
 (bif room ((List.length l11) + (List.length ([o118.2.1]))) then
 (Zc N rec most6 deep7 kid8 K0 n (isub .i64 n9 1) o118.1.1 (List.append l11 ([o118.2.1]))) else none))))))
 else
 (bif kid8 then
 ((Zb N o84.1.1 3).bind fun o119 =>
 ((Zj N o119.1.1 (iadd .i64 1 o119.2.1)).bind fun o120 =>
 (bif room ((List.length l11) + (List.length ([o120.2.1]))) then
 (Zc N rec most6 deep7 kid8 K0 n (isub .i64 n9 1) o120.1.1 (List.append l11 ([o120.2.1]))) else none)))
 else
 ((Zb N o84.1.1 5).bind fun o121 =>
 ((Zj N o121.1.1 (iadd .i64 12 o121.2.1)).bind fun o122 =>
 (bif room ((List.length l11) + (List.length ([o122.2.1]))) then
 (Zc N rec most6 deep7 kid8 K0 n (isub .i64 n9 1) o122.1.1 (List.append l11 ([o122.2.1]))) else none))))))
 else
 (bif o84.2.1 == 14 then
 ((Zw N o84.1.1 6).bind fun o123 =>
 (bif o123.2.1 then
 (bif room ((List.length l11) + (List.length ([((10:Int),((0:Int),((0:Int),(0:Int))))]))) then
 (Zc N rec most6 deep7 kid8 K0 n (isub .i64 n9 1) o123.1.1 (List.append l11 ([(10,(0,0,0))]))) else none)
 else
 (bif kid8 then
 ((Zb N o123.1.1 3).bind fun o124 =>
 ((Zj N o124.1.1 (iadd .i64 1 o124.2.1)).bind fun o125 =>
 (bif room ((List.length l11) + (List.length ([o125.2.1]))) then
 (Zc N rec most6 deep7 kid8 K0 n (isub .i64 n9 1) o125.1.1 (List.append l11 ([o125.2.1]))) else none)))
 else
 ((Zb N o123.1.1 5).bind fun o126 =>
 ((Zj N o126.1.1 (iadd .i64 12 o126.2.1)).bind fun o127 =>
 (bif room ((List.length l11) + (List.length ([o127.2.1]))) then
 (Zc N rec most6 deep7 kid8 K0 n (isub .i64 n9 1) o127.1.1 (List.append l11 ([o127.2.1]))) else none))))))
 else
 (bif kid8 then
 ((Zb N o84.1.1 3).bind fun o128 =>
 ((Zj N o128.1.1 (iadd .i64 1 o128.2.1)).bind fun o129 =>
 (bif room ((List.length l11) + (List.length ([o129.2.1]))) then
 (Zc N rec most6 deep7 kid8 K0 n (isub .i64 n9 1) o129.1.1 (List.append l11 ([o129.2.1]))) else none)))
 else
 ((Zb N o84.1.1 5).bind fun o130 =>
 ((Zj N o130.1.1 (iadd .i64 12 o130.2.1)).bind fun o131 =>
 (bif room ((List.length l11) + (List.length ([o131.2.1]))) then
 (Zc N rec most6 deep7 kid8 K0 n (isub .i64 n9 1) o131.1.1 (List.append l11 ([o131.2.1]))) else none)))))))
 else
 (bif o84.2.1 == 13 then
 (bif decide ((isub .i64 most6 (ilen l11)) ≥ 3) then
 ((rec o84.1.1 2 0 kid8).bind fun o132 =>
 ((Zj N o132.1.1 7).bind fun o133 =>
 (bif room ((List.length l11) + (List.length ([(o133.2.1.1,(o133.2.1.2.1,(ilen o132.2.1,o133.2.1.2.2.2)))]))) then
 (bif room ((List.length (List.append l11 ([(o133.2.1.1,(o133.2.1.2.1,(ilen o132.2.1,o133.2.1.2.2.2)))]))) + (List.length o132.2.1)) then
 (Zc N rec most6 deep7 kid8 K0 n (isub .i64 n9 1) o133.1.1 (List.append (List.append l11 ([(o133.2.1.1,(o133.2.1.2.1,(ilen o132.2.1,o133.2.1.2.2.2)))])) o132.2.1)) else none) else none)))
 else
 (bif o84.2.1 == 14 then
 ((Zw N o84.1.1 6).bind fun o134 =>
 (bif o134.2.1 then
 (bif room ((List.length l11) + (List.length ([((10:Int),((0:Int),((0:Int),(0:Int))))]))) then
 (Zc N rec most6 deep7 kid8 K0 n (isub .i64 n9 1) o134.1.1 (List.append l11 ([(10,(0,0,0))]))) else none)
 else
 (bif kid8 then
 ((Zb N o134.1.1 3).bind fun o135 =>
 ((Zj N o135.1.1 (iadd .i64 1 o135.2.1)).bind fun o136 =>
 (bif room ((List.length l11) + (List.length ([o136.2.1]))) then
 (Zc N rec most6 deep7 kid8 K0 n (isub .i64 n9 1) o136.1.1 (List.append l11 ([o136.2.1]))) else none)))
 else
 ((Zb N o134.1.1 5).bind fun o137 =>
 ((Zj N o137.1.1 (iadd .i64 12 o137.2.1)).bind fun o138 =>
 (bif room ((List.length l11) + (List.length ([o138.2.1]))) then
 (Zc N rec most6 deep7 kid8 K0 n (isub .i64 n9 1) o138.1.1 (List.append l11 ([o138.2.1]))) else none))))))
 else
 (bif kid8 then
 ((Zb N o84.1.1 3).bind fun o139 =>
 ((Zj N o139.1.1 (iadd .i64 1 o139.2.1)).bind fun o140 =>
 (bif room ((List.length l11) + (List.length ([o140.2.1]))) then
 (Zc N rec most6 deep7 kid8 K0 n (isub .i64 n9 1) o140.1.1 (List.append l11 ([o140.2.1]))) else none)))
 else
 ((Zb N o84.1.1 5).bind fun o141 =>
 ((Zj N o141.1.1 (iadd .i64 12 o141.2.1)).bind fun o142 =>
 (bif room ((List.length l11) + (List.length ([o142.2.1]))) then
 (Zc N rec most6 deep7 kid8 K0 n (isub .i64 n9 1) o142.1.1 (List.append l11 ([o142.2.1]))) else none))))))
 else
 (bif o84.2.1 == 14 then
 ((Zw N o84.1.1 6).bind fun o143 =>
 (bif o143.2.1 then
 (bif room ((List.length l11) + (List.length ([((10:Int),((0:Int),((0:Int),(0:Int))))]))) then
 (Zc N rec most6 deep7 kid8 K0 n (isub .i64 n9 1) o143.1.1 (List.append l11 ([(10,(0,0,0))]))) else none)
 else
 (bif kid8 then
 ((Zb N o143.1.1 3).bind fun o144 =>
 ((Zj N o144.1.1 (iadd .i64 1 o144.2.1)).bind fun o145 =>
 (bif room ((List.length l11) + (List.length ([o145.2.1]))) then
 (Zc N rec most6 deep7 kid8 K0 n (isub .i64 n9 1) o145.1.1 (List.append l11 ([o145.2.1]))) else none)))
 else
 ((Zb N o143.1.1 5).bind fun o146 =>
 ((Zj N o146.1.1 (iadd .i64 12 o146.2.1)).bind fun o147 =>
 (bif room ((List.length l11) + (List.length ([o147.2.1]))) then
 (Zc N rec most6 deep7 kid8 K0 n (isub .i64 n9 1) o147.1.1 (List.append l11 ([o147.2.1]))) else none))))))
 else
 (bif kid8 then
 ((Zb N o84.1.1 3).bind fun o148 =>
 ((Zj N o148.1.1 (iadd .i64 1 o148.2.1)).bind fun o149 =>
 (bif room ((List.length l11) + (List.length ([o149.2.1]))) then
 (Zc N rec most6 deep7 kid8 K0 n (isub .i64 n9 1) o149.1.1 (List.append l11 ([o149.2.1]))) else none)))
 else
 ((Zb N o84.1.1 5).bind fun o150 =>
 ((Zj N o150.1.1 (iadd .i64 12 o150.2.1)).bind fun o151 =>
 (bif room ((List.length l11) + (List.length ([o151.2.1]))) then
 (Zc N rec most6 deep7 kid8 K0 n (isub .i64 n9 1) o151.1.1 (List.append l11 ([o151.2.1]))) else none)))))))))))
 else
 (K0 n9 (decide ((ilen l11) < most6)) b10 l11))
 else
 (K0 n9 false b10 l11))
def Zcc (N:Nat):Nat → (List Int × Int × Int) → Int → Int → Bool → Option (((List Int × Int × Int) × Unit) × ((List (Int × Int × Int × Int)) × Unit))
  | 0,_,_,_,_=>none
  | m + 1,c1,most2,deep3,kid4 =>
    ((Zb N c1 most2).bind fun o5 =>
 (Zc N (Zcc N m) most2 deep3 kid4
 (fun n152 t153 b154 l155 =>
   (some ((b154,()),(l155,()))))
  N (iadd .i64 1 o5.2.1) o5.1.1 ([]:List (Int × Int × Int × Int))))
def Zja (N:Nat) (c1:List Int × Int × Int) (most2:Int) (deep3:Int) (kid4:Bool):Option (((List Int × Int × Int) × Unit) × ((List (Int × Int × Int × Int)) × Unit)):=Zcc N N c1 most2 deep3 kid4
def Zfu {R:Type} (N:Nat) (l12:List (Int × Int × Int × Int)) (K0:Int → Bool → (List Int × Int × Int) → (List (List (Int × Int × Int × Int))) → Option R):Nat → Int → (List Int × Int × Int) → (List (List (Int × Int × Int × Int))) → Option R
  | 0,_,_,_=>none
  | n + 1,n10,b11,l13 =>
    (bif decide (n10 > 0) then
 ((Zb N b11 5).bind fun o20 =>
 ((Zja N o20.1.1 (iadd .i64 2 o20.2.1) 1 true).bind fun o21 =>
 (bif room ((List.length l13) + (List.length ([o21.2.1]))) then
 (Zfu N l12 K0 n (isub .i64 n10 1) o21.1.1 (List.append l13 ([o21.2.1]))) else none)))
 else
 (K0 n10 (decide (n10 > 0)) b11 l13))
def Zb9 (N:Nat) (c1:List Int × Int × Int) (forks2:Bool):Option (((List Int × Int × Int) × Unit) × ((List (Int × Int × Int × Int) × List (List (Int × Int × Int × Int))) × Unit)) :=
    (bif !forks2 then
 ((Zb N c1 8).bind fun o3 =>
 ((Zja N o3.1.1 (iadd .i64 3 o3.2.1) 2 false).bind fun o4 =>
 (some ((o4.1.1,()),((o4.2.1,([]:List (List (Int × Int × Int × Int)))),())))))
 else
 ((Zb N c1 4).bind fun o5 =>
 ((Zja N o5.1.1 (iadd .i64 1 o5.2.1) 1 false).bind fun o6 =>
 ((Zb N o6.1.1 4).bind fun o7 =>
 ((Zja N o7.1.1 (iadd .i64 1 o7.2.1) 1 false).bind fun o8 =>
 (bif room ((List.length o6.2.1) + (List.length ([((11:Int),((0:Int),((0:Int),(0:Int))))]))) then
 (bif room ((List.length (List.append o6.2.1 ([(11,(0,0,0))]))) + (List.length o8.2.1)) then
 ((Zb N o8.1.1 3).bind fun o9 =>
 (Zfu N (List.append (List.append o6.2.1 ([(11,(0,0,0))])) o8.2.1)
 (fun n22 t23 b24 l25 =>
   (some ((b24,()),((List.append (List.append o6.2.1 ([(11,(0,0,0))])) o8.2.1,l25),()))))
  N (iadd .i64 1 o9.2.1) o9.1.1 ([]:List (List (Int × Int × Int × Int))))) else none) else none))))))
def Z0 {R:Type} (N:Nat) (n4:Int) (most5:Int) (K0:Int → Int → Bool → (List Int × Int × Int) → (List (Int × Int × Int)) → Option R):Nat → Int → Int → (List Int × Int × Int) → (List (Int × Int × Int)) → Option R
  | 0,_,_,_,_=>none
  | n + 1,who6,i7,b8,l9 =>
    (bif decide (i7 < most5) then
 ((Zw N b8 3).bind fun o29 =>
 (bif o29.2.1 then
 ((Zb N o29.1.1 n4).bind fun o30 =>
 ((Zw N o30.1.1 2).bind fun o31 =>
 (bif o31.2.1 then
 ((Zb N o31.1.1 3).bind fun o32 =>
 ((Zw N o32.1.1 2).bind fun o33 =>
 (bif o33.2.1 then
 ((Zw N o33.1.1 40).bind fun o34 =>
 (bif o34.2.1 then
 (bif room ((List.length l9) + (List.length ([((3:Int),(o30.2.1,(0:Int)))]))) then
 (Z0 N n4 most5 K0 n o30.2.1 (iadd .i64 i7 1) o34.1.1 (List.append l9 ([(3,(o30.2.1,0))]))) else none)
 else
 (bif room ((List.length l9) + (List.length ([((1:Int),(o30.2.1,(0:Int)))]))) then
 (Z0 N n4 most5 K0 n o30.2.1 (iadd .i64 i7 1) o34.1.1 (List.append l9 ([(1,(o30.2.1,0))]))) else none)))
 else
 ((Zw N o33.1.1 40).bind fun o35 =>
 (bif o35.2.1 then
 (bif room ((List.length l9) + (List.length ([((3:Int),(o30.2.1,(0:Int)))]))) then
 (Z0 N n4 most5 K0 n o30.2.1 (iadd .i64 i7 1) o35.1.1 (List.append l9 ([(3,(o30.2.1,0))]))) else none)
 else
 (bif room ((List.length l9) + (List.length ([((2:Int),(o30.2.1,o32.2.1))]))) then
 (Z0 N n4 most5 K0 n o30.2.1 (iadd .i64 i7 1) o35.1.1 (List.append l9 ([(2,(o30.2.1,o32.2.1))]))) else none))))))
 else
 ((Zw N o31.1.1 40).bind fun o36 =>
 (bif o36.2.1 then
 (bif room ((List.length l9) + (List.length ([((3:Int),(o30.2.1,(0:Int)))]))) then
 (Z0 N n4 most5 K0 n o30.2.1 (iadd .i64 i7 1) o36.1.1 (List.append l9 ([(3,(o30.2.1,0))]))) else none)
 else
 (bif room ((List.length l9) + (List.length ([((1:Int),(o30.2.1,(0:Int)))]))) then
 (Z0 N n4 most5 K0 n o30.2.1 (iadd .i64 i7 1) o36.1.1 (List.append l9 ([(1,(o30.2.1,0))]))) else none))))))
 else
 ((Zw N o29.1.1 2).bind fun o37 =>
 (bif o37.2.1 then
 ((Zb N o37.1.1 3).bind fun o38 =>
 ((Zw N o38.1.1 2).bind fun o39 =>
 (bif o39.2.1 then
 ((Zw N o39.1.1 40).bind fun o40 =>
 (bif o40.2.1 then
 (bif room ((List.length l9) + (List.length ([((3:Int),(who6,(0:Int)))]))) then
 (Z0 N n4 most5 K0 n who6 (iadd .i64 i7 1) o40.1.1 (List.append l9 ([(3,(who6,0))]))) else none)
 else
 (bif room ((List.length l9) + (List.length ([((1:Int),(who6,(0:Int)))]))) then
 (Z0 N n4 most5 K0 n who6 (iadd .i64 i7 1) o40.1.1 (List.append l9 ([(1,(who6,0))]))) else none)))
 else
 ((Zw N o39.1.1 40).bind fun o41 =>
 (bif o41.2.1 then
 (bif room ((List.length l9) + (List.length ([((3:Int),(who6,(0:Int)))]))) then
 (Z0 N n4 most5 K0 n who6 (iadd .i64 i7 1) o41.1.1 (List.append l9 ([(3,(who6,0))]))) else none)
 else
 (bif room ((List.length l9) + (List.length ([((2:Int),(who6,o38.2.1))]))) then
 (Z0 N n4 most5 K0 n who6 (iadd .i64 i7 1) o41.1.1 (List.append l9 ([(2,(who6,o38.2.1))]))) else none))))))
 else
 ((Zw N o37.1.1 40).bind fun o42 =>
 (bif o42.2.1 then
 (bif room ((List.length l9) + (List.length ([((3:Int),(who6,(0:Int)))]))) then
 (Z0 N n4 most5 K0 n who6 (iadd .i64 i7 1) o42.1.1 (List.append l9 ([(3,(who6,0))]))) else none)
 else
 (bif room ((List.length l9) + (List.length ([((1:Int),(who6,(0:Int)))]))) then
 (Z0 N n4 most5 K0 n who6 (iadd .i64 i7 1) o42.1.1 (List.append l9 ([(1,(who6,0))]))) else none)))))))
 else
 (K0 who6 i7 (decide (i7 < most5)) b8 l9))
def Zc3 (N:Nat) (c1:List Int × Int × Int) (n2:Int) (most3:Int):Option (((List Int × Int × Int) × Unit) × ((List (Int × Int × Int)) × Unit)) :=
    (Z0 N n2 most3
 (fun who43 i44 t45 b46 l47 =>
   (some ((b46,()),(l47,()))))
  N 0 0 c1 ([]:List (Int × Int × Int)))
def Zbj {R:Type} (N:Nat) (how6:Int) (most7:Int) (n8:Int) (b12:Int) (l13:List Int) (l14:List Int) (K0:Int → Bool → (List Int × Int × Int) → (List (List (Int × Int × Int × Int) × List (List (Int × Int × Int × Int)))) → Option R):Nat → Int → (List Int × Int × Int) → (List (List (Int × Int × Int × Int) × List (List (Int × Int × Int × Int)))) → Option R
  | 0,_,_,_=>none
  | n + 1,i9,b10,l15 =>
    (bif decide (i9 < n8) then
 (bif how6 == 2 then
 ((Zb9 N b10 true).bind fun o28 =>
 (bif room ((List.length l15) + (List.length ([o28.2.1]))) then
 (Zbj N how6 most7 n8 b12 l13 l14 K0 n (iadd .i64 i9 1) o28.1.1 (List.append l15 ([o28.2.1]))) else none))
 else
 (bif how6 == 0 then
 ((Zw N b10 3).bind fun o29 =>
 ((Zb9 N o29.1.1 o29.2.1).bind fun o30 =>
 (bif room ((List.length l15) + (List.length ([o30.2.1]))) then
 (Zbj N how6 most7 n8 b12 l13 l14 K0 n (iadd .i64 i9 1) o30.1.1 (List.append l15 ([o30.2.1]))) else none)))
 else
 ((Zb9 N b10 false).bind fun o31 =>
 (bif room ((List.length l15) + (List.length ([o31.2.1]))) then
 (Zbj N how6 most7 n8 b12 l13 l14 K0 n (iadd .i64 i9 1) o31.1.1 (List.append l15 ([o31.2.1]))) else none))))
 else
 (K0 i9 (decide (i9 < n8)) b10 l15))
def Zcs (N:Nat) (c1:List Int × Int × Int) (how2:Int) (most3:Int):Option (((List Int × Int × Int) × Unit) × (((List Int × List Int × Int) × List (List (Int × Int × Int × Int) × List (List (Int × Int × Int × Int))) × List (Int × Int × Int)) × Unit)) :=
    ((Zcm N c1).bind fun o4 =>
 ((Zb N o4.1.1 4).bind fun o5 =>
 (Zbj N how2 most3 (iadd .i64 1 o5.2.1) o4.2.1.2.2 o4.2.1.1 o4.2.1.2.1
 (fun i32 t33 b34 l35 =>
   ((Zb N b34 (iadd .i64 most3 1)).bind fun o36 =>
 ((Zc3 N o36.1.1 (iadd .i64 1 o5.2.1) o36.2.1).bind fun o37 =>
 (some ((o37.1.1,()),((o4.2.1,(l35,o37.2.1)),()))))))
  N 0 o5.1.1 ([]:List (List (Int × Int × Int × Int) × List (List (Int × Int × Int × Int)))))))
def Zig (N:Nat) (c1:List Int × Int × Int):Option (((List Int × Int × Int) × Unit) × ((List Int × List Int × Int) × Unit)) :=
    ((Zcm N c1).bind fun o2 =>
 ((Zb N o2.1.1 16).bind fun o3 =>
 (bif o3.2.1 == 0 then
 (bif (decide ((0:Int) ≤ 7)) && (decide ((7:Int) ≤ ((List.length o2.2.1.1):Int))) then
 (some ((o3.1.1,()),((List.take (Int.toNat 7) o2.2.1.1,o2.2.1.2),()))) else none)
 else
 (bif o3.2.1 == 1 then
 ((Zb N o3.1.1 8).bind fun o4 =>
 (bif inb o4.2.1 (List.length o2.2.1.2.1) then
 (some ((o4.1.1,()),((o2.2.1.1,(List.set o2.2.1.2.1 (Int.toNat o4.2.1) 65537,o2.2.1.2.2)),()))) else none))
 else
 (bif o3.2.1 == 2 then
 (some ((o3.1.1,()),((o2.2.1.1,(o2.2.1.2.1,65536)),())))
 else
 (bif o3.2.1 == 3 then
 (bif (decide ((0:Int) ≤ 3)) && (decide ((3:Int) ≤ ((List.length o2.2.1.2.1):Int))) then
 (some ((o3.1.1,()),((o2.2.1.1,(List.take (Int.toNat 3) o2.2.1.2.1,o2.2.1.2.2)),()))) else none)
 else
 (bif o3.2.1 == 4 then
 ((Zb N o3.1.1 8).bind fun o5 =>
 (bif inb o5.2.1 (List.length o2.2.1.1) then
 (some ((o5.1.1,()),((List.set o2.2.1.1 (Int.toNat o5.2.1) (-1:Int),o2.2.1.2),()))) else none))
 else
 (some ((o3.1.1,()),(o2.2.1,()))))))))))
def Znt (N:Nat) (c1:List Int × Int × Int):Option (((List Int × Int × Int) × Unit) × ((Int × Int × Int × Int) × Unit)) :=
    ((Zb N c1 16).bind fun o2 =>
 ((Zj N o2.1.1 (iadd .i64 1 o2.2.1)).bind fun o3 =>
 ((Zb N o3.1.1 16).bind fun o4 =>
 (bif o4.2.1 == 0 then
 ((Zbo N o4.1.1 ([(-1:Int),4,8])).bind fun o5 =>
 (some ((o5.1.1,()),((o3.2.1.1,(o5.2.1,o3.2.1.2.2)),()))))
 else
 (bif o4.2.1 == 1 then
 ((Zbo N o4.1.1 ([(-1:Int),4,8,65536,21])).bind fun o6 =>
 (some ((o6.1.1,()),((o3.2.1.1,(o3.2.1.2.1,(o6.2.1,o3.2.1.2.2.2))),()))))
 else
 (bif o4.2.1 == 2 then
 ((Zbo N o4.1.1 ([(-1:Int),4,1])).bind fun o7 =>
 (some ((o7.1.1,()),((o3.2.1.1,(o3.2.1.2.1,(o3.2.1.2.2.1,o7.2.1))),()))))
 else
 (bif o4.2.1 == 3 then
 ((Zbo N o4.1.1 ([0,17,(-3:Int)])).bind fun o8 =>
 (some ((o8.1.1,()),((o8.2.1,o3.2.1.2),()))))
 else
 (some ((o4.1.1,()),(o3.2.1,()))))))))))
def Zfv {R:Type} (N:Nat) (K0:Bool → (List Int × Int × Int) → (List (Int × Int × Int × Int)) → Option R):Nat → (List Int × Int × Int) → (List (Int × Int × Int × Int)) → Option R
  | 0,_,_=>none
  | n + 1,b6,l7 =>
    ((Zb N b6 2).bind fun o12 =>
 (bif decide ((ilen l7) < (iadd .i64 24 o12.2.1)) then
 (bif room ((List.length l7) + (List.length ([((1:Int),((0:Int),((0:Int),(0:Int))))]))) then
 (Zfv N K0 n o12.1.1 (List.append l7 ([(1,(0,0,0))]))) else none)
 else
 (K0 (decide ((ilen l7) < (iadd .i64 24 o12.2.1))) o12.1.1 l7)))
def Zd2 (N:Nat) (c1:List Int × Int × Int) (code2:List (Int × Int × Int × Int)):Option (((List Int × Int × Int) × Unit) × ((List (Int × Int × Int × Int)) × Unit)) :=
    (bif room ((List.length ([]:List (Int × Int × Int × Int))) + (List.length code2)) then
 (bif (ilen (List.append ([]:List (Int × Int × Int × Int)) code2)) == 0 then
 (some ((c1,()),([(9,(0,0,0))],())))
 else
 ((Zb N c1 (ilen (List.append ([]:List (Int × Int × Int × Int)) code2))).bind fun o3 =>
 ((Zb N o3.1.1 6).bind fun o4 =>
 (bif o4.2.1 == 0 then
 ((Znt N o4.1.1).bind fun o5 =>
 (bif inb o3.2.1 (List.length (List.append ([]:List (Int × Int × Int × Int)) code2)) then
 (some ((o5.1.1,()),(List.set (List.append ([]:List (Int × Int × Int × Int)) code2) (Int.toNat o3.2.1) o5.2.1,()))) else none))
 else
 (bif o4.2.1 == 1 then
 (bif inb o3.2.1 (List.length (List.append ([]:List (Int × Int × Int × Int)) code2)) then
 (some ((o4.1.1,()),(List.set (List.append ([]:List (Int × Int × Int × Int)) code2) (Int.toNat o3.2.1) (11,(0,0,0)),()))) else none)
 else
 (bif o4.2.1 == 2 then
 (both
 (bif (decide ((0:Int) ≤ o3.2.1)) && (decide (o3.2.1 ≤ ((List.length (List.append ([]:List (Int × Int × Int × Int)) code2)):Int))) then
 (bif (decide ((0:Int) ≤ (iadd .i64 o3.2.1 1))) && (decide ((iadd .i64 o3.2.1 1) ≤ ((List.length (List.append ([]:List (Int × Int × Int × Int)) code2)):Int))) then
 (bif room ((Int.toNat o3.2.1) + (List.length (List.drop (Int.toNat (iadd .i64 o3.2.1 1)) (List.take (List.length (List.append ([]:List (Int × Int × Int × Int)) code2)) (List.append ([]:List (Int × Int × Int × Int)) code2))))) then
 (some ((o4.1.1,()),(List.append (List.take (Int.toNat o3.2.1) (List.append ([]:List (Int × Int × Int × Int)) code2)) (List.drop (Int.toNat (iadd .i64 o3.2.1 1)) (List.take (List.length (List.append ([]:List (Int × Int × Int × Int)) code2)) (List.append ([]:List (Int × Int × Int × Int)) code2))),()))) else none) else none) else none)
 (bif (decide ((0:Int) ≤ (iadd .i64 o3.2.1 1))) && (decide ((iadd .i64 o3.2.1 1) ≤ ((List.length (List.append ([]:List (Int × Int × Int × Int)) code2)):Int))) then
 (bif (decide ((0:Int) ≤ o3.2.1)) && (decide (o3.2.1 ≤ ((List.length (List.append ([]:List (Int × Int × Int × Int)) code2)):Int))) then
 (bif room ((Int.toNat o3.2.1) + (List.length (List.drop (Int.toNat (iadd .i64 o3.2.1 1)) (List.take (List.length (List.append ([]:List (Int × Int × Int × Int)) code2)) (List.append ([]:List (Int × Int × Int × Int)) code2))))) then
 (some ((o4.1.1,()),(List.append (List.take (Int.toNat o3.2.1) (List.append ([]:List (Int × Int × Int × Int)) code2)) (List.drop (Int.toNat (iadd .i64 o3.2.1 1)) (List.take (List.length (List.append ([]:List (Int × Int × Int × Int)) code2)) (List.append ([]:List (Int × Int × Int × Int)) code2))),()))) else none) else none) else none))
 else
 (bif o4.2.1 == 3 then
 (Zfv N
 (fun t13 b14 l15 =>
   (some ((b14,()),(l15,()))))
  N o4.1.1 (List.append ([]:List (Int × Int × Int × Int)) code2))
 else
 (bif o4.2.1 == 4 then
 (bif inb o3.2.1 (List.length (List.append ([]:List (Int × Int × Int × Int)) code2)) then
 (bif inb o3.2.1 (List.length (List.append ([]:List (Int × Int × Int × Int)) code2)) then
 (some ((o4.1.1,()),(List.set (List.append ([]:List (Int × Int × Int × Int)) code2) (Int.toNat o3.2.1) ((List.getD (List.append ([]:List (Int × Int × Int × Int)) code2) (Int.toNat o3.2.1) (0,0,0,0)).1,((List.getD (List.append ([]:List (Int × Int × Int × Int)) code2) (Int.toNat o3.2.1) (0,0,0,0)).2.1,(iadd .i64 (List.getD (List.append ([]:List (Int × Int × Int × Int)) code2) (Int.toNat o3.2.1) (0,0,0,0)).2.2.1 1,(List.getD (List.append ([]:List (Int × Int × Int × Int)) code2) (Int.toNat o3.2.1) (0,0,0,0)).2.2.2))),()))) else none) else none)
 else
 ((Zb N o4.1.1 2).bind fun o16 =>
 (bif inb o3.2.1 (List.length (List.append ([]:List (Int × Int × Int × Int)) code2)) then
 (some ((o16.1.1,()),(List.set (List.append ([]:List (Int × Int × Int × Int)) code2) (Int.toNat o3.2.1) (isub .i64 9 o16.2.1,(0,0,0)),()))) else none)))))))))) else none)
def Zjn (N:Nat) (c1:List Int × Int × Int):Option (((List Int × Int × Int) × Unit) × ((List (Int × Int × Int × Int) × List (List (Int × Int × Int × Int))) × Unit)) :=
    ((Zw N c1 2).bind fun o2 =>
 ((Zb9 N o2.1.1 o2.2.1).bind fun o3 =>
 ((Zb N o3.1.1 10).bind fun o4 =>
 (bif o4.2.1 == 0 then
 ((Zd2 N o4.1.1 o3.2.1.1).bind fun o5 =>
 (some ((o5.1.1,()),((o5.2.1,o3.2.1.2),()))))
 else
 (bif o4.2.1 == 1 then
 (bif decide ((ilen o3.2.1.2) > 0) then
 ((Zb N o4.1.1 (ilen o3.2.1.2)).bind fun o6 =>
 (bif inb o6.2.1 (List.length o3.2.1.2) then
 ((Zd2 N o6.1.1 (List.getD o3.2.1.2 (Int.toNat o6.2.1) ([]:List (Int × Int × Int × Int)))).bind fun o7 =>
 (bif inb o6.2.1 (List.length o3.2.1.2) then
 (some ((o7.1.1,()),((o3.2.1.1,List.set o3.2.1.2 (Int.toNat o6.2.1) o7.2.1),()))) else none)) else none))
 else
 (some ((o4.1.1,()),(o3.2.1,()))))
 else
 (bif o4.2.1 == 2 then
 (bif room ((List.length o3.2.1.2) + (List.length ([([]:List (Int × Int × Int × Int))]))) then
 (some ((o4.1.1,()),((o3.2.1.1,List.append o3.2.1.2 ([([]:List (Int × Int × Int × Int))])),()))) else none)
 else
 (bif o4.2.1 == 3 then
 (some ((o4.1.1,()),((o3.2.1.1,([]:List (List (Int × Int × Int × Int)))),())))
 else
 (some ((o4.1.1,()),(o3.2.1,()))))))))))
def Zfw {R:Type} (N:Nat) (b7:List Int × Int × Int) (b9:Int) (l10:List Int) (l11:List Int) (l13:List (Int × Int × Int)) (K0:Bool → (List (List (Int × Int × Int × Int) × List (List (Int × Int × Int × Int)))) → Option R):Nat → (List (List (Int × Int × Int × Int) × List (List (Int × Int × Int × Int)))) → Option R
  | 0,_=>none
  | n + 1,l12 =>
    (bif decide ((ilen l12) < 5) then
 (bif room ((List.length l12) + (List.length ([(([]:List (Int × Int × Int × Int)),([]:List (List (Int × Int × Int × Int))))]))) then
 (Zfw N b7 b9 l10 l11 l13 K0 n (List.append l12 ([(([]:List (Int × Int × Int × Int)),([]:List (List (Int × Int × Int × Int))))]))) else none)
 else
 (K0 (decide ((ilen l12) < 5)) l12))
def Zfx {R:Type} (N:Nat) (b20:Int) (l21:List Int) (l22:List Int) (l23:List (List (Int × Int × Int × Int) × List (List (Int × Int × Int × Int)))) (K0:Bool → (List Int × Int × Int) → (List (Int × Int × Int)) → Option R):Nat → (List Int × Int × Int) → (List (Int × Int × Int)) → Option R
  | 0,_,_=>none
  | n + 1,b18,l24 =>
    ((Zb N b18 2).bind fun o30 =>
 (bif decide ((ilen l24) < (iadd .i64 400 o30.2.1)) then
 (bif room ((List.length l24) + (List.length ([((1:Int),((0:Int),(0:Int)))]))) then
 (Zfx N b20 l21 l22 l23 K0 n o30.1.1 (List.append l24 ([(1,(0,0))]))) else none)
 else
 (K0 (decide ((ilen l24) < (iadd .i64 400 o30.2.1))) o30.1.1 l24)))
def Zf6 (N:Nat) (c1:List Int × Int × Int) (most2:Int):Option (((List Int × Int × Int) × Unit) × (((List Int × List Int × Int) × List (List (Int × Int × Int × Int) × List (List (Int × Int × Int × Int))) × List (Int × Int × Int)) × Unit)) :=
    ((Zcs N c1 0 most2).bind fun o3 =>
 ((Zb N o3.1.1 30).bind fun o4 =>
 (bif o4.2.1 == 0 then
 ((Zig N o4.1.1).bind fun o5 =>
 (some ((o5.1.1,()),((o5.2.1,o3.2.1.2),()))))
 else
 (bif o4.2.1 == 1 then
 ((Zjn N o4.1.1).bind fun o6 =>
 (bif inb 0 (List.length o3.2.1.2.1) then
 (some ((o6.1.1,()),((o3.2.1.1,(List.set o3.2.1.2.1 (Int.toNat 0) o6.2.1,o3.2.1.2.2)),()))) else none))
 else
 (bif o4.2.1 == 2 then
 (Zfw N o4.1.1 o3.2.1.1.2.2 o3.2.1.1.1 o3.2.1.1.2.1 o3.2.1.2.2
 (fun t16 l17 =>
   (some ((o4.1.1,()),((o3.2.1.1,(l17,o3.2.1.2.2)),()))))
  N o3.2.1.2.1)
 else
 (bif o4.2.1 == 3 then
 (bif room ((List.length o3.2.1.2.2) + (List.length ([((4:Int),((0:Int),(0:Int))),((1:Int),((4:Int),(0:Int))),((2:Int),((0:Int),(3:Int))),((2:Int),((0:Int),(-1:Int))),((3:Int),((-1:Int),(0:Int)))]))) then
 (some ((o4.1.1,()),((o3.2.1.1,(o3.2.1.2.1,List.append o3.2.1.2.2 ([(4,(0,0)),(1,(4,0)),(2,(0,3)),(2,(0,(-1:Int))),(3,((-1:Int),0))]))),()))) else none)
 else
 (bif o4.2.1 == 4 then
 (Zfx N o3.2.1.1.2.2 o3.2.1.1.1 o3.2.1.1.2.1 o3.2.1.2.1
 (fun t31 b32 l33 =>
   (some ((b32,()),((o3.2.1.1,(o3.2.1.2.1,l33)),()))))
  N o4.1.1 o3.2.1.2.2)
 else
 (some ((o4.1.1,()),(o3.2.1,()))))))))))
def Zbs {R:Type} (N:Nat) (b5:List Int × List Int × Int) (K0:Option R) (K1:Int → Bool → Option R):Nat → Int → Option R
  | 0,_=>none
  | n + 1,i4 =>
    (bif decide (i4 < (ilen b5.2.1)) then
 (bif inb i4 (List.length b5.2.1) then
 ((Zbn N (List.getD b5.2.1 (Int.toNat i4) 0) 0 65536).bind fun o9 =>
 (bif !o9.2.1 then
 K0
 else
 (Zbs N b5 K0 K1 n (iadd .i64 i4 1)))) else none)
 else
 (K1 i4 (decide (i4 < (ilen b5.2.1)))))
def Zdi (N:Nat) (s1:List Int × List Int × Int):Option (Unit × (Bool × Unit)) :=
    ((Zf3 N s1.1).bind fun o2 =>
 (bif !o2.2.1 then
 (some ((),(false,())))
 else
 (bif (ilen s1.2.1) != 8 then
 (some ((),(false,())))
 else
 ((Zhp N s1.2.2).bind fun o3 =>
 (bif !o3.2.1 then
 (some ((),(false,())))
 else
 (Zbs N s1
 (some ((),(false,())))
 (fun i10 t11 =>
   (some ((),(true,()))))
  N 0))))))
def Zcg {R:Type} (N:Nat) (b5:List (Int × Int × Int × Int) × List (List (Int × Int × Int × Int))) (K0:Option R) (K1:Int → Bool → Option R):Nat → Int → Option R
  | 0,_=>none
  | n + 1,i4 =>
    (bif decide (i4 < (ilen b5.2)) then
 (bif inb i4 (List.length b5.2) then
 ((Zfg N (List.getD b5.2 (Int.toNat i4) ([]:List (Int × Int × Int × Int)))).bind fun o9 =>
 (bif !o9.2.1 then
 K0
 else
 (Zcg N b5 K0 K1 n (iadd .i64 i4 1)))) else none)
 else
 (K1 i4 (decide (i4 < (ilen b5.2)))))
def Zd3 (N:Nat) (p1:List (Int × Int × Int × Int) × List (List (Int × Int × Int × Int))):Option (Unit × (Bool × Unit)) :=
    ((Zd0 N p1.1).bind fun o2 =>
 (bif !o2.2.1 then
 (some ((),(false,())))
 else
 (bif decide ((ilen p1.2) > 3) then
 (some ((),(false,())))
 else
 ((Zc2 N p1.1).bind fun o3 =>
 (bif !(beq o3.2.1 (decide ((ilen p1.2) > 0))) then
 (some ((),(false,())))
 else
 (Zcg N p1
 (some ((),(false,())))
 (fun i10 t11 =>
   (some ((),(true,()))))
  N 0))))))
def Zbt {R:Type} (N:Nat) (b4:(List Int × List Int × Int) × List (List (Int × Int × Int × Int) × List (List (Int × Int × Int × Int))) × List (Int × Int × Int)) (K0:Option R) (K1:Int → Bool → Option R):Nat → Int → Option R
  | 0,_=>none
  | n + 1,i3 =>
    (bif decide (i3 < (ilen b4.2.1)) then
 (bif inb i3 (List.length b4.2.1) then
 ((Zd3 N (List.getD b4.2.1 (Int.toNat i3) (([]:List (Int × Int × Int × Int)),([]:List (List (Int × Int × Int × Int)))))).bind fun o8 =>
 (bif !o8.2.1 then
 K0
 else
 (Zbt N b4 K0 K1 n (iadd .i64 i3 1)))) else none)
 else
 (K1 i3 (decide (i3 < (ilen b4.2.1)))))
def Zdj (N:Nat) (s1:(List Int × List Int × Int) × List (List (Int × Int × Int × Int) × List (List (Int × Int × Int × Int))) × List (Int × Int × Int)):Option (Unit × (Bool × Unit)) :=
    ((Zdi N s1.1).bind fun o2 =>
 (bif !o2.2.1 then
 (some ((),(false,())))
 else
 (bif decide ((ilen s1.2.1) > 4) then
 (some ((),(false,())))
 else
 (bif decide ((ilen s1.2.2) > 400) then
 (some ((),(false,())))
 else
 (Zbt N s1
 (some ((),(false,())))
 (fun i9 t10 =>
   (some ((),(true,()))))
  N 0)))))
def Zei {R:Type} (N:Nat) (l2:List Int) (K0:Option R) (K1:Int → Bool → Option R):Nat → Int → Option R
  | 0,_=>none
  | n + 1,t5 =>
    (bif decide (t5 < (ilen l2)) then
 (bif inb t5 (List.length l2) then
 ((Zm N (List.getD l2 (Int.toNat t5) 0) 0 65536).bind fun o10 =>
 (bif !o10.2.1 then
 K0
 else
 (Zei N l2 K0 K1 n (iadd .i64 t5 1)))) else none)
 else
 (K1 t5 (decide (t5 < (ilen l2)))))
def Zfk (N:Nat) (l1:List Int):Option (Unit × (Bool × Unit)) :=
    (Zei N l1
 (some ((),(false,())))
 (fun t11 t12 =>
   (some ((),((ilen l1) == 8,()))))
  N 0)
def Zkx (N:Nat) (s1:List Int × List Int × Int):Option (Unit × (Bool × Unit)) :=
    ((Zac N s1.1 8).bind fun o2 =>
 (bif o2.2.1 then
 ((Zfk N s1.2.1).bind fun o3 =>
 (bif o3.2.1 then
 ((Zaz N s1.2.2).bind fun o4 =>
 (some ((),(o4.2.1,()))))
 else
 (some ((),(false,())))))
 else
 (some ((),(false,())))))
def Zm5 (N:Nat) (o1:Int × Int × Int × Int):Option (Unit × (Bool × Unit)) :=
    (some ((),(o1.1 == 11,())))
def Zq {R:Type} (N:Nat) (s2:List (Int × Int × Int × Int)) (K0:Int → Option R) (K1:Int → Bool → Option R):Nat → Int → Option R
  | 0,_=>none
  | n + 1,t4 =>
    (bif decide (t4 < (ilen s2)) then
 (bif inb t4 (List.length s2) then
 ((Zm5 N (List.getD s2 (Int.toNat t4) (0,0,0,0))).bind fun o10 =>
 (bif o10.2.1 then
 (K0 t4)
 else
 (Zq N s2 K0 K1 n (iadd .i64 t4 1)))) else none)
 else
 (K1 t4 (decide (t4 < (ilen s2)))))
def Zs (N:Nat) (s1:List (Int × Int × Int × Int)):Option (Unit × (Int × Unit)) :=
    (Zq N s1
 (fun t11 =>
   (some ((),(t11,()))))
 (fun t12 t13 =>
   (some ((),((-1:Int),()))))
  N 0)
def Za0 (N:Nat) (s1:List (Int × Int × Int × Int)):Option (Unit × (Bool × Unit)) :=
    ((Zs N s1).bind fun o2 =>
 (some ((),(decide (o2.2.1 ≥ 0),()))))
def Zhj (N:Nat) (code1:List (Int × Int × Int × Int)):Option (Unit × (Bool × Unit)) :=
    ((Za0 N code1).bind fun o2 =>
 (some ((),(o2.2.1,()))))
def Zdd {R:Type} (N:Nat) (t2:List (List (Int × Int × Int × Int))) (b5:List (Int × Int × Int × Int) × List (List (Int × Int × Int × Int))) (K0:Option R) (K1:Int → Bool → Option R):Nat → Int → Option R
  | 0,_=>none
  | n + 1,t4 =>
    (bif decide (t4 < (ilen b5.2)) then
 (bif inb t4 (List.length t2) then
 ((Zfh N (List.getD t2 (Int.toNat t4) ([]:List (Int × Int × Int × Int)))).bind fun o10 =>
 (bif !o10.2.1 then
 K0
 else
 (Zdd N t2 b5 K0 K1 n (iadd .i64 t4 1)))) else none)
 else
 (K1 t4 (decide (t4 < (ilen b5.2)))))
def Zf7 (N:Nat) (p1:List (Int × Int × Int × Int) × List (List (Int × Int × Int × Int))):Option (Unit × (Bool × Unit)) :=
    (Zdd N p1.2 p1
 (some ((),(false,())))
 (fun t11 t12 =>
   ((Zby N p1.1).bind fun o13 =>
 (bif o13.2.1 then
 (bif decide ((ilen p1.2) ≤ 3) then
 ((Zhj N p1.1).bind fun o14 =>
 (some ((),(beq o14.2.1 (decide ((ilen p1.2) > 0)),()))))
 else
 (some ((),(false,()))))
 else
 (some ((),(false,()))))))
  N 0)
def Zix (N:Nat) (p1:List (Int × Int × Int × Int) × List (List (Int × Int × Int × Int))):Option (Unit × (Bool × Unit)) :=
    ((Zf7 N p1).bind fun o2 =>
 (some ((),(!o2.2.1,()))))
def Zf {R:Type} (N:Nat) (s2:List (List (Int × Int × Int × Int) × List (List (Int × Int × Int × Int)))) (K0:Int → Option R) (K1:Int → Bool → Option R):Nat → Int → Option R
  | 0,_=>none
  | n + 1,t4 =>
    (bif decide (t4 < (ilen s2)) then
 (bif inb t4 (List.length s2) then
 ((Zix N (List.getD s2 (Int.toNat t4) (([]:List (Int × Int × Int × Int)),([]:List (List (Int × Int × Int × Int)))))).bind fun o10 =>
 (bif o10.2.1 then
 (K0 t4)
 else
 (Zf N s2 K0 K1 n (iadd .i64 t4 1)))) else none)
 else
 (K1 t4 (decide (t4 < (ilen s2)))))
def Zo (N:Nat) (s1:List (List (Int × Int × Int × Int) × List (List (Int × Int × Int × Int)))):Option (Unit × (Int × Unit)) :=
    (Zf N s1
 (fun t11 =>
   (some ((),(t11,()))))
 (fun t12 t13 =>
   (some ((),((-1:Int),()))))
  N 0)
def Zaq (N:Nat) (s1:List (List (Int × Int × Int × Int) × List (List (Int × Int × Int × Int)))):Option (Unit × (Bool × Unit)) :=
    ((Zo N s1).bind fun o2 =>
 (some ((),(decide (o2.2.1 ≥ 0),()))))
def Zg2 (N:Nat) (s1:(List Int × List Int × Int) × List (List (Int × Int × Int × Int) × List (List (Int × Int × Int × Int))) × List (Int × Int × Int)):Option (Unit × (Bool × Unit)) :=
    ((Zkx N s1.1).bind fun o2 =>
 (bif o2.2.1 then
 (bif decide ((ilen s1.2.1) ≤ 4) then
 (bif decide ((ilen s1.2.2) ≤ 400) then
 ((Zaq N s1.2.1).bind fun o3 =>
 (some ((),(!o3.2.1,()))))
 else
 (some ((),(false,()))))
 else
 (some ((),(false,()))))
 else
 (some ((),(false,())))))
def Zok (N:Nat):Option (Unit × ((List Int) × Unit)) :=
    (bif ((decide ((0:Int) ≤ 16)) && (decide ((16:Int) ≤ 16))) && (room (Int.toNat 16)) then
 (some ((),(List.replicate (Int.toNat 16) 0,()))) else none)
def Zib (N:Nat) (key1:Int) (v2:Int):Option (Unit × (Int × Unit)) :=
    (some ((),(iadd .i64 (iadd .i64 1 (imul .i64 65536 key1)) v2,())))
def Zhq (N:Nat) (slot1:Int):Option (Unit × (Int × Unit)) :=
    (bif inz 65536 then
 (some ((),(iquo .i64 (isub .i64 slot1 1) 65536,()))) else none)
def Zih (N:Nat) (key1:Int):Option (Unit × (Int × Unit)) :=
    ((Za3 N key1).bind fun o2 =>
 (bif !o2.2.1 then
 (some ((),((-1:Int),())))
 else
 (bif inz 4 then
 (some ((),(irem (iadd .i64 (imul .i64 7 key1) 3) 4,()))) else none)))
def Zb6 {R:Type} (N:Nat) (t2:List Int) (K0:Option R) (K1:Int → Bool → (List Bool) → Option R):Nat → Int → (List Bool) → Option R
  | 0,_,_=>none
  | n + 1,t4,l5 =>
    (bif decide (t4 < (ilen t2)) then
 (bif inb t4 (List.length t2) then
 (bif (List.getD t2 (Int.toNat t4) 0) == 0 then
 (Zb6 N t2 K0 K1 n (iadd .i64 t4 1) l5)
 else
 ((Zib N 7 65535).bind fun o21 =>
 ((Zm N (List.getD t2 (Int.toNat t4) 0) 1 o21.2.1).bind fun o22 =>
 (bif !o22.2.1 then
 K0
 else
 ((Zhq N (List.getD t2 (Int.toNat t4) 0)).bind fun o23 =>
 ((Zih N o23.2.1).bind fun o24 =>
 (bif inz 4 then
 (bif o24.2.1 != (iquo .i64 t4 4) then
 K0
 else
 ((Zhq N (List.getD t2 (Int.toNat t4) 0)).bind fun o25 =>
 (bif (inb o25.2.1 8) && (decide ((List.length l5) = 8)) then
 (bif List.getD l5 (Int.toNat o25.2.1) false then
 K0
 else
 ((Zhq N (List.getD t2 (Int.toNat t4) 0)).bind fun o26 =>
 (bif (inb o26.2.1 8) && (decide ((List.length l5) = 8)) then
 (Zb6 N t2 K0 K1 n (iadd .i64 t4 1) (List.set l5 (Int.toNat o26.2.1) true)) else none))) else none))) else none))))))) else none)
 else
 (K1 t4 (decide (t4 < (ilen t2))) l5))
def Zb2 (N:Nat) (l1:List Int):Option (Unit × (Bool × Unit)) :=
    (bif (ilen l1) != 16 then
 (some ((),(false,())))
 else
 (Zb6 N l1
 (some ((),(false,())))
 (fun t27 t28 l29 =>
   (some ((),(true,()))))
  N 0 (List.replicate 8 false)))
def Zdk {R:Type} (N:Nat) (key3:Int) (t4:List Int) (K0:Int → Option R) (K1:Int → Bool → Option R):Nat → Int → Option R
  | 0,_=>none
  | n + 1,t6 =>
    (bif decide (t6 < (ilen t4)) then
 (bif inb t6 (List.length t4) then
 (bif decide ((List.getD t4 (Int.toNat t6) 0) > 0) then
 ((Zhq N (List.getD t4 (Int.toNat t6) 0)).bind fun o12 =>
 (bif o12.2.1 == key3 then
 (K0 t6)
 else
 (Zdk N key3 t4 K0 K1 n (iadd .i64 t6 1))))
 else
 (Zdk N key3 t4 K0 K1 n (iadd .i64 t6 1))) else none)
 else
 (K1 t6 (decide (t6 < (ilen t4)))))
def Zds (N:Nat) (l1:List Int) (key2:Int):Option (Unit × (Int × Unit)) :=
    (Zdk N key2 l1
 (fun t13 =>
   (some ((),(t13,()))))
 (fun t14 t15 =>
   (some ((),((-1:Int),()))))
  N 0)
def Zhk (N:Nat) (l1:List Int) (key2:Int):Option (Unit × (Int × (Bool × Unit))) :=
    ((Zb2 N l1).bind fun o3 =>
 (bif !o3.2.1 then
 (some ((),(0,(false,()))))
 else
 ((Za3 N key2).bind fun o4 =>
 (bif !o4.2.1 then
 (some ((),(0,(false,()))))
 else
 ((Zds N l1 key2).bind fun o5 =>
 (bif decide (o5.2.1 < 0) then
 (some ((),(0,(false,()))))
 else
 ((Zds N l1 key2).bind fun o6 =>
 (bif inb o6.2.1 (List.length l1) then
 (bif inz 65536 then
 (some ((),(irem (isub .i64 (List.getD l1 (Int.toNat o6.2.1) 0) 1) 65536,(true,())))) else none) else none))))))))
def Zct {R:Type} (N:Nat) (key12:Int) (v13:Int) (l15:List Int) (K0:Int → Bool → Option R):Nat → Int → Option R
  | 0,_=>none
  | n + 1,at14 =>
    (bif inb at14 (List.length l15) then
 (bif (List.getD l15 (Int.toNat at14) 0) != 0 then
 (Zct N key12 v13 l15 K0 n (iadd .i64 at14 1))
 else
 (K0 at14 ((List.getD l15 (Int.toNat at14) 0) != 0))) else none)
def Zcd (N:Nat) (l1:List Int) (key2:Int) (v3:Int):Option (Unit × ((List Int) × (Int × (Bool × Unit)))) :=
    ((Zx N l1).bind fun o4 =>
 ((Zb2 N l1).bind fun o5 =>
 (bif !o5.2.1 then
 (some ((),(o4.2.1,(0,(false,())))))
 else
 ((Za3 N key2).bind fun o6 =>
 (bif !o6.2.1 then
 (some ((),(o4.2.1,(0,(false,())))))
 else
 ((Zaz N v3).bind fun o7 =>
 (bif !o7.2.1 then
 (some ((),(o4.2.1,(0,(false,())))))
 else
 ((Zds N l1 key2).bind fun o8 =>
 (bif decide (o8.2.1 ≥ 0) then
 ((Zhk N l1 key2).bind fun o9 =>
 ((Zib N key2 v3).bind fun o10 =>
 (bif inb o8.2.1 (List.length o4.2.1) then
 (some ((),(List.set o4.2.1 (Int.toNat o8.2.1) o10.2.1,(iadd .i64 o9.2.1 1,(true,()))))) else none)))
 else
 ((Zih N key2).bind fun o11 =>
 (Zct N key2 v3 o4.2.1
 (fun at18 t19 =>
   ((Zib N key2 v3).bind fun o20 =>
 (bif inb at18 (List.length o4.2.1) then
 (some ((),(List.set o4.2.1 (Int.toNat at18) o20.2.1,(0,(true,()))))) else none)))
  N (imul .i64 4 o11.2.1))))))))))))
def Zbk {R:Type} (N:Nat) (t4:List Int) (K0:Int → Bool → (List Int) → Option R):Nat → Int → (List Int) → Option R
  | 0,_,_=>none
  | n + 1,t6,l7 =>
    (bif decide (t6 < (ilen t4)) then
 (bif inb t6 (List.length t4) then
 (bif decide ((List.getD t4 (Int.toNat t6) 0) > 0) then
 ((Zcd N l7 t6 (isub .i64 (List.getD t4 (Int.toNat t6) 0) 1)).bind fun o13 =>
 (Zbk N t4 K0 n (iadd .i64 t6 1) o13.2.1))
 else
 (Zbk N t4 K0 n (iadd .i64 t6 1) l7)) else none)
 else
 (K0 t6 (decide (t6 < (ilen t4))) l7))
def Z2 (N:Nat) (m1:List Int):Option (Unit × ((List Int) × Unit)) :=
    ((Zfk N m1).bind fun o2 =>
 (bif !o2.2.1 then
 (some ((),(([]:List Int),())))
 else
 ((Zok N).bind fun o3 =>
 (Zbk N m1
 (fun t14 t15 l16 =>
   (some ((),(l16,()))))
  N 0 o3.2.1))))
def Zbd (N:Nat) (r1:Y_Root):Option ((Y_Root × Unit) × Unit) :=
    (some (((6,(r1.2.1,(0,(0,(0,(0,(0,(0,(0,(0,(0,(false,(([]:List Int),(([]:List (Int × Int)),(([]:List (Int × Int)),(([]:List (Int × Int × Int × Int × List Int)),(r1.2.2.2.2.2.2.2.2.2.2.2.2.2.2.2.2.1,(([]:List Int),(false,((0,0,0,0),((0,(0,(0,(0,(0,(([]:List (Int × Int)),([]:List Int))))))),d_Family))))))))))))))))))))),()),()))
def Zax {R:Type} (N:Nat) (k3:Int) (r4:Nat) (t6:Int) (b8:Int) (b9:Int) (b10:Int) (b11:Int) (l12:List Y_Root) (l13:List (Int × Int × Int)) (l14:List Int) (l15:List (Int × Int × Int)) (l16:List (Int × Int × List (Int × Int))) (K0:Bool → Int → Bool → Option R):Nat → Bool → Int → Option R
  | 0,_,_=>none
  | n + 1,alone5,t7 =>
    (bif decide (t7 < t6) then
 (bif inb t7 (List.length l12) then
 (bif alone5 then
 (bif t7 == k3 then
 (Zax N k3 r4 t6 b8 b9 b10 b11 l12 l13 l14 l15 l16 K0 n true (iadd .i64 t7 1))
 else
 (bif (List.getD l12 (Int.toNat t7) d_Root).1 == 0 then
 (Zax N k3 r4 t6 b8 b9 b10 b11 l12 l13 l14 l15 l16 K0 n true (iadd .i64 t7 1))
 else
 (Zax N k3 r4 t6 b8 b9 b10 b11 l12 l13 l14 l15 l16 K0 n ((List.getD l12 (Int.toNat t7) d_Root).1 == 8) (iadd .i64 t7 1))))
 else
 (Zax N k3 r4 t6 b8 b9 b10 b11 l12 l13 l14 l15 l16 K0 n false (iadd .i64 t7 1))) else none)
 else
 (K0 alone5 t7 (decide (t7 < t6))))
def Zch (N:Nat) (w1:Y_World) (k2:Int):Option ((Y_World × Unit) × Unit) :=
    (bif inb k2 (List.length (P5 w1)) then
 (Zax N k2 (Int.toNat k2) (ilen (P5 w1)) w1.1 w1.2.1 w1.2.2.1.1 w1.2.2.2.1.2 (P5 w1) w1.2.2.1.2 w1.2.2.2.1.1 (P4 w1) (Q6 w1)
 (fun alone20 t21 t22 =>
   (bif w1.2.1 != 0 then
 (bif w1.2.1 != (iadd .i64 k2 1) then
 (some ((w1,()),()))
 else
 (bif decide ((List.getD (P5 w1) (Int.toNat k2) d_Root).2.1 ≥ 3) then
 (bif w1.2.1 == 0 then
 (some (((w1.1,(iadd .i64 k2 1,w1.2.2)),()),()))
 else
 (bif w1.2.1 == (iadd .i64 k2 1) then
 (bif !alone20 then
 (some ((w1,()),()))
 else
 (bif ((decide ((0:Int) ≤ 4)) && (decide ((4:Int) ≤ 4))) && (room (Int.toNat 4)) then
 (some (((S5 (List.set (P5 w1) (Int.toNat k2) (1,((List.getD (P5 w1) (Int.toNat k2) d_Root).2.1,(0,(0,(w1.2.2.1.1,(0,(0,(0,(0,(w1.1,(0,(false,(List.replicate (Int.toNat 4) 0,(([]:List (Int × Int)),(([]:List (Int × Int)),(([]:List (Int × Int × Int × Int × List Int)),(([]:List (Int × Int × Int)),(([]:List Int),(false,((0,0,0,0),((0,(0,(0,(0,(0,(([]:List (Int × Int)),([]:List Int))))))),d_Family)))))))))))))))))))))) w1),()),())) else none))
 else
 (bif ((decide ((0:Int) ≤ 4)) && (decide ((4:Int) ≤ 4))) && (room (Int.toNat 4)) then
 (some (((S5 (List.set (P5 w1) (Int.toNat k2) (1,((List.getD (P5 w1) (Int.toNat k2) d_Root).2.1,(0,(0,(w1.2.2.1.1,(0,(0,(0,(0,(w1.1,(0,(false,(List.replicate (Int.toNat 4) 0,(([]:List (Int × Int)),(([]:List (Int × Int)),(([]:List (Int × Int × Int × Int × List Int)),(([]:List (Int × Int × Int)),(([]:List Int),(false,((0,0,0,0),((0,(0,(0,(0,(0,(([]:List (Int × Int)),([]:List Int))))))),d_Family)))))))))))))))))))))) w1),()),())) else none)))
 else
 (bif w1.2.1 == (iadd .i64 k2 1) then
 (bif !alone20 then
 (some ((w1,()),()))
 else
 (bif ((decide ((0:Int) ≤ 4)) && (decide ((4:Int) ≤ 4))) && (room (Int.toNat 4)) then
 (some (((S5 (List.set (P5 w1) (Int.toNat k2) (1,((List.getD (P5 w1) (Int.toNat k2) d_Root).2.1,(0,(0,(w1.2.2.1.1,(0,(0,(0,(0,(w1.1,(0,(false,(List.replicate (Int.toNat 4) 0,(([]:List (Int × Int)),(([]:List (Int × Int)),(([]:List (Int × Int × Int × Int × List Int)),(([]:List (Int × Int × Int)),(([]:List Int),(false,((0,0,0,0),((0,(0,(0,(0,(0,(([]:List (Int × Int)),([]:List Int))))))),d_Family)))))))))))))))))))))) w1),()),())) else none))
 else
 (bif ((decide ((0:Int) ≤ 4)) && (decide ((4:Int) ≤ 4))) && (room (Int.toNat 4)) then
 (some (((S5 (List.set (P5 w1) (Int.toNat k2) (1,((List.getD (P5 w1) (Int.toNat k2) d_Root).2.1,(0,(0,(w1.2.2.1.1,(0,(0,(0,(0,(w1.1,(0,(false,(List.replicate (Int.toNat 4) 0,(([]:List (Int × Int)),(([]:List (Int × Int)),(([]:List (Int × Int × Int × Int × List Int)),(([]:List (Int × Int × Int)),(([]:List Int),(false,((0,0,0,0),((0,(0,(0,(0,(0,(([]:List (Int × Int)),([]:List Int))))))),d_Family)))))))))))))))))))))) w1),()),())) else none))))
 else
 (bif decide ((List.getD (P5 w1) (Int.toNat k2) d_Root).2.1 ≥ 3) then
 (bif w1.2.1 == 0 then
 (some (((w1.1,(iadd .i64 k2 1,w1.2.2)),()),()))
 else
 (bif w1.2.1 == (iadd .i64 k2 1) then
 (bif !alone20 then
 (some ((w1,()),()))
 else
 (bif ((decide ((0:Int) ≤ 4)) && (decide ((4:Int) ≤ 4))) && (room (Int.toNat 4)) then
 (some (((S5 (List.set (P5 w1) (Int.toNat k2) (1,((List.getD (P5 w1) (Int.toNat k2) d_Root).2.1,(0,(0,(w1.2.2.1.1,(0,(0,(0,(0,(w1.1,(0,(false,(List.replicate (Int.toNat 4) 0,(([]:List (Int × Int)),(([]:List (Int × Int)),(([]:List (Int × Int × Int × Int × List Int)),(([]:List (Int × Int × Int)),(([]:List Int),(false,((0,0,0,0),((0,(0,(0,(0,(0,(([]:List (Int × Int)),([]:List Int))))))),d_Family)))))))))))))))))))))) w1),()),())) else none))
 else
 (bif ((decide ((0:Int) ≤ 4)) && (decide ((4:Int) ≤ 4))) && (room (Int.toNat 4)) then
 (some (((S5 (List.set (P5 w1) (Int.toNat k2) (1,((List.getD (P5 w1) (Int.toNat k2) d_Root).2.1,(0,(0,(w1.2.2.1.1,(0,(0,(0,(0,(w1.1,(0,(false,(List.replicate (Int.toNat 4) 0,(([]:List (Int × Int)),(([]:List (Int × Int)),(([]:List (Int × Int × Int × Int × List Int)),(([]:List (Int × Int × Int)),(([]:List Int),(false,((0,0,0,0),((0,(0,(0,(0,(0,(([]:List (Int × Int)),([]:List Int))))))),d_Family)))))))))))))))))))))) w1),()),())) else none)))
 else
 (bif w1.2.1 == (iadd .i64 k2 1) then
 (bif !alone20 then
 (some ((w1,()),()))
 else
 (bif ((decide ((0:Int) ≤ 4)) && (decide ((4:Int) ≤ 4))) && (room (Int.toNat 4)) then
 (some (((S5 (List.set (P5 w1) (Int.toNat k2) (1,((List.getD (P5 w1) (Int.toNat k2) d_Root).2.1,(0,(0,(w1.2.2.1.1,(0,(0,(0,(0,(w1.1,(0,(false,(List.replicate (Int.toNat 4) 0,(([]:List (Int × Int)),(([]:List (Int × Int)),(([]:List (Int × Int × Int × Int × List Int)),(([]:List (Int × Int × Int)),(([]:List Int),(false,((0,0,0,0),((0,(0,(0,(0,(0,(([]:List (Int × Int)),([]:List Int))))))),d_Family)))))))))))))))))))))) w1),()),())) else none))
 else
 (bif ((decide ((0:Int) ≤ 4)) && (decide ((4:Int) ≤ 4))) && (room (Int.toNat 4)) then
 (some (((S5 (List.set (P5 w1) (Int.toNat k2) (1,((List.getD (P5 w1) (Int.toNat k2) d_Root).2.1,(0,(0,(w1.2.2.1.1,(0,(0,(0,(0,(w1.1,(0,(false,(List.replicate (Int.toNat 4) 0,(([]:List (Int × Int)),(([]:List (Int × Int)),(([]:List (Int × Int × Int × Int × List Int)),(([]:List (Int × Int × Int)),(([]:List Int),(false,((0,0,0,0),((0,(0,(0,(0,(0,(([]:List (Int × Int)),([]:List Int))))))),d_Family)))))))))))))))))))))) w1),()),())) else none)))))
  N true 0) else none)
def Zic (N:Nat) (who1:Int) (what2:Int) (mode3:Int):Option (Unit × (Bool × Unit)) :=
    ((Zm N who1 1 9).bind fun o4 =>
 (bif o4.2.1 then
 ((Zm N what2 0 8).bind fun o5 =>
 (bif o5.2.1 then
 ((Zm N mode3 1 2).bind fun o6 =>
 (some ((),(o6.2.1,()))))
 else
 (some ((),(false,())))))
 else
 (some ((),(false,())))))
def Zh3 (N:Nat) (a1:Int × Int × Int) (b2:Int × Int × Int):Option (Unit × (Int × Unit)) :=
    (bif a1.2.1 != b2.2.1 then
 (some ((),(isub .i64 a1.2.1 b2.2.1,())))
 else
 (some ((),(isub .i64 a1.1 b2.1,()))))
def Zau {R:Type} (N:Nat) (l2:List (Int × Int × Int)) (K0:Option R) (K1:Int → Bool → Option R):Nat → Int → Option R
  | 0,_=>none
  | n + 1,t5 =>
    (bif decide (t5 < (ilen l2)) then
 (bif inb t5 (List.length l2) then
 ((Zic N (List.getD l2 (Int.toNat t5) (0,0,0)).1 (List.getD l2 (Int.toNat t5) (0,0,0)).2.1 (List.getD l2 (Int.toNat t5) (0,0,0)).2.2).bind fun o12 =>
 (bif !o12.2.1 then
 K0
 else
 (bif decide (t5 > 0) then
 (bif inb (isub .i64 t5 1) (List.length l2) then
 ((Zh3 N (List.getD l2 (Int.toNat (isub .i64 t5 1)) (0,0,0)) (List.getD l2 (Int.toNat t5) (0,0,0))).bind fun o13 =>
 (bif decide (o13.2.1 ≥ 0) then
 K0
 else
 (bif decide (t5 > 0) then
 (bif inb (isub .i64 t5 1) (List.length l2) then
 (bif (List.getD l2 (Int.toNat (isub .i64 t5 1)) (0,0,0)).2.1 == (List.getD l2 (Int.toNat t5) (0,0,0)).2.1 then
 (bif (List.getD l2 (Int.toNat t5) (0,0,0)).2.2 == 2 then
 K0
 else
 (bif inb (isub .i64 t5 1) (List.length l2) then
 (bif (List.getD l2 (Int.toNat (isub .i64 t5 1)) (0,0,0)).2.2 == 2 then
 K0
 else
 (Zau N l2 K0 K1 n (iadd .i64 t5 1))) else none))
 else
 (Zau N l2 K0 K1 n (iadd .i64 t5 1))) else none)
 else
 (Zau N l2 K0 K1 n (iadd .i64 t5 1))))) else none)
 else
 (bif decide (t5 > 0) then
 (bif inb (isub .i64 t5 1) (List.length l2) then
 (bif (List.getD l2 (Int.toNat (isub .i64 t5 1)) (0,0,0)).2.1 == (List.getD l2 (Int.toNat t5) (0,0,0)).2.1 then
 (bif (List.getD l2 (Int.toNat t5) (0,0,0)).2.2 == 2 then
 K0
 else
 (bif inb (isub .i64 t5 1) (List.length l2) then
 (bif (List.getD l2 (Int.toNat (isub .i64 t5 1)) (0,0,0)).2.2 == 2 then
 K0
 else
 (Zau N l2 K0 K1 n (iadd .i64 t5 1))) else none))
 else
 (Zau N l2 K0 K1 n (iadd .i64 t5 1))) else none)
 else
 (Zau N l2 K0 K1 n (iadd .i64 t5 1)))))) else none)
 else
 (K1 t5 (decide (t5 < (ilen l2)))))
def Zce (N:Nat) (l1:List (Int × Int × Int)):Option (Unit × (Bool × Unit)) :=
    (Zau N l1
 (some ((),(false,())))
 (fun t14 t15 =>
   (some ((),(true,()))))
  N 0)
def Zb7 {R:Type} (N:Nat) (who4:Int) (t5:List (Int × Int × Int)) (K0:Int → Bool → (List Int) → Option R):Nat → Int → (List Int) → Option R
  | 0,_,_=>none
  | n + 1,t7,l8 =>
    (bif decide (t7 < (ilen t5)) then
 (bif inb t7 (List.length t5) then
 (bif (List.getD t5 (Int.toNat t7) (0,0,0)).1 == who4 then
 (bif room ((List.length l8) + (List.length ([(List.getD t5 (Int.toNat t7) ((0:Int),((0:Int),(0:Int)))).2.1]))) then
 (Zb7 N who4 t5 K0 n (iadd .i64 t7 1) (List.append l8 ([(List.getD t5 (Int.toNat t7) (0,0,0)).2.1]))) else none)
 else
 (Zb7 N who4 t5 K0 n (iadd .i64 t7 1) l8)) else none)
 else
 (K0 t7 (decide (t7 < (ilen t5))) l8))
def Zc4 (N:Nat) (l1:List (Int × Int × Int)) (who2:Int):Option (Unit × ((List Int) × Unit)) :=
    ((Zce N l1).bind fun o3 =>
 (bif !o3.2.1 then
 (some ((),(([]:List Int),())))
 else
 (Zb7 N who2 l1
 (fun t12 t13 l14 =>
   (some ((),(l14,()))))
  N 0 ([]:List Int))))
def Zgh (N:Nat) (w1:Y_World) (k2:Int):Option ((Y_World × Unit) × Unit) :=
    (bif inb k2 (List.length (P5 w1)) then
 (Wq (List.set (P5 w1) (Int.toNat k2) (8,(S15 ([]:List (Int × Int × Int)) (S10 false (S9 w1.1 (List.getD (P5 w1) (Int.toNat k2) d_Root).2))))) fun e9000 =>
 (bif w1.2.1 == (iadd .i64 k2 1) then
 (some (((S5 e9000 (S1 0 w1)),()),()))
 else
 (some (((S5 e9000 w1),()),())))) else none)
def Zes (N:Nat) (who1:Int):Option (Unit × (Bool × Unit)) :=
    ((Zm N who1 1 99).bind fun o2 =>
 (some ((),(o2.2.1,()))))
def Zcu {R:Type} (N:Nat) (t3:Int) (l6:List (Int × Int)) (K0:Int → Bool → (List Int) → Option R):Nat → Int → (List Int) → Option R
  | 0,_,_=>none
  | n + 1,t4,l5 =>
    (bif decide (t4 < t3) then
 (bif inb t4 (List.length l6) then
 (bif room ((List.length l5) + (List.length ([(List.getD l6 (Int.toNat t4) ((0:Int),(0:Int))).1]))) then
 (Zcu N t3 l6 K0 n (iadd .i64 t4 1) (List.append l5 ([(List.getD l6 (Int.toNat t4) (0,0)).1]))) else none) else none)
 else
 (K0 t4 (decide (t4 < t3)) l5))
def Zet (N:Nat) (l1:List (Int × Int)):Option (Unit × ((List Int) × Unit)) :=
    ((Zd1 N l1).bind fun o2 =>
 (Zcu N (ilen o2.2.1) o2.2.1
 (fun t10 t11 l12 =>
   (some ((),(l12,()))))
  N 0 ([]:List Int)))
def Zej (N:Nat) (who1:Int) (rv2:Int) (puts3:List (Int × Int)) (reads4:List (Int × Int)):Option (Unit × ((Int × Int × Int × Int × Int × List (Int × Int) × List Int) × (Bool × Unit))) :=
    ((Zes N who1).bind fun o5 =>
 (bif !o5.2.1 then
 (some ((),((0,(0,(0,(0,(0,(([]:List (Int × Int)),([]:List Int))))))),(false,()))))
 else
 ((Zm N rv2 0 1000000).bind fun o6 =>
 (bif !o6.2.1 then
 (some ((),((0,(0,(0,(0,(0,(([]:List (Int × Int)),([]:List Int))))))),(false,()))))
 else
 ((Zbz N puts3).bind fun o7 =>
 (bif !o7.2.1 then
 (some ((),((0,(0,(0,(0,(0,(([]:List (Int × Int)),([]:List Int))))))),(false,()))))
 else
 ((Zbz N reads4).bind fun o8 =>
 (bif !o8.2.1 then
 (some ((),((0,(0,(0,(0,(0,(([]:List (Int × Int)),([]:List Int))))))),(false,()))))
 else
 ((Zd1 N puts3).bind fun o9 =>
 ((Zet N reads4).bind fun o10 =>
 (bif (ilen o9.2.1) == 0 then
 (some ((),((who1,(rv2,(2,(0,(0,(o9.2.1,o10.2.1)))))),(true,()))))
 else
 (some ((),((who1,(rv2,(1,(0,(0,(o9.2.1,o10.2.1)))))),(true,())))))))))))))))
def Zgt (N:Nat) (w1:Y_World) (k2:Int) (out3:Int):Option ((Y_World × Unit) × Unit) :=
    (bif inb k2 (List.length (P5 w1)) then
 (Wq (List.getD (P5 w1) (Int.toNat k2) d_Root) fun e9000 =>
 (Wq (((Zgh N (S5 (List.set (P5 w1) (Int.toNat k2) (S8 (P4 e9000) (S7 out3 e9000))) w1) k2).bind fun bq1 =>
 (some ((bq1.1.1,()),()))):Option ((Y_World × Unit) × Unit)) fun e9003 =>
 (bif out3 == 2 then
 (Wq (((Zej N (iadd .i64 k2 1) (P4 e9000) ([]:List (Int × Int)) (P13 e9000)).bind fun bq1 =>
 (some (((S5 (List.set (P5 w1) (Int.toNat k2) (S20 bq1.2.1 (S7 out3 (S0 5 e9000)))) w1),()),()))):Option ((Y_World × Unit) × Unit)) fun e9002 =>
 (bif 0 == 0 then
 ((Zc4 N (P4 w1) (iadd .i64 k2 1)).bind fun bq2 =>
 (bif (ilen bq2.2.1) == 0 then
 e9003
 else
 e9002))
 else
 e9002))
 else
 (Wq (((Zej N (iadd .i64 k2 1) (P4 e9000) (P14 e9000) (P13 e9000)).bind fun bq1 =>
 (some (((S5 (List.set (P5 w1) (Int.toNat k2) (S20 bq1.2.1 (S7 out3 (S0 5 e9000)))) w1),()),()))):Option ((Y_World × Unit) × Unit)) fun e9001 =>
 (bif (ilen (P14 e9000)) == 0 then
 ((Zc4 N (P4 w1) (iadd .i64 k2 1)).bind fun bq2 =>
 (bif (ilen bq2.2.1) == 0 then
 e9003
 else
 e9001))
 else
 e9001))))) else none)
def Zc5 (N:Nat) (r1:Y_Root):Option ((Y_Root × Unit) × Unit) :=
    (bif (ilen (P15 r1)) == 0 then
 ((Zbd N r1).bind fun bq1 =>
 (some ((bq1.1.1,()),())))
 else
 (bif r1.2.2.1 == 2 then
 ((Zbd N r1).bind fun bq1 =>
 (some ((bq1.1.1,()),())))
 else
 (some (((S19 (0,0,0,0) (S18 false (S2 (iadd .i64 r1.2.2.1 1) (S0 3 r1)))),()),()))))
def Ziy (N:Nat) (w1:Y_World) (ix2:Nat) (o3:Int × Int × Int × Int):Option ((Y_World × Unit) × Unit) :=
    (Wq (List.getD (P5 w1) ix2 d_Root) fun e9000 =>
 ((Zff N (P14 e9000) o3.2.2.1).bind fun bq4 =>
 (bif bq4.2.2.1 then
 (bif inb o3.2.1 (List.length (P12 e9000)) then
 (some (((S5 (List.set (P5 w1) ix2 (S12 (List.set (P12 e9000) (Int.toNat o3.2.1) bq4.2.1) (S3 (iadd .i64 e9000.2.2.2.1 1) e9000))) w1),()),())) else none)
 else
 (bif !(P18 e9000) then
 ((Zfi N o3.2.2.1).bind fun bq3 =>
 ((Zeg N w1.2.2.1 (P4 e9000) bq3.2.1).bind fun bq2 =>
 (bif bq2.2.1.2.1 == 4 then
 ((Zc5 N (S19 bq2.2.1 (S18 true e9000))).bind fun bq1 =>
 (some (((S5 (List.set (P5 w1) ix2 bq1.1.1) w1),()),())))
 else
 (bif bq2.2.1.2.1 == 3 then
 (bif inb o3.2.1 (List.length (P12 e9000)) then
 (bif room ((List.length (P13 e9000)) + (List.length ([(o3.2.2.1,bq2.2.1.2.2.2)]))) then
 (some (((S5 (List.set (P5 w1) ix2 (S19 (0,0,0,0) (S18 false (S13 (List.append (P13 e9000) ([(o3.2.2.1,bq2.2.1.2.2.2)])) (S12 (List.set (P12 e9000) (Int.toNat o3.2.1) bq2.2.1.2.2.2) (S3 (iadd .i64 e9000.2.2.2.1 1) e9000)))))) w1),()),())) else none) else none)
 else
 (some (((S5 (List.set (P5 w1) ix2 (S19 bq2.2.1 (S18 true e9000))) w1),()),()))))))
 else
 ((Zeg N w1.2.2.1 (P4 e9000) (P19 e9000)).bind fun bq2 =>
 (bif bq2.2.1.2.1 == 4 then
 ((Zc5 N (S19 bq2.2.1 e9000)).bind fun bq1 =>
 (some (((S5 (List.set (P5 w1) ix2 bq1.1.1) w1),()),())))
 else
 (bif bq2.2.1.2.1 == 3 then
 (bif inb o3.2.1 (List.length (P12 e9000)) then
 (bif room ((List.length (P13 e9000)) + (List.length ([(o3.2.2.1,bq2.2.1.2.2.2)]))) then
 (some (((S5 (List.set (P5 w1) ix2 (S19 (0,0,0,0) (S18 false (S13 (List.append (P13 e9000) ([(o3.2.2.1,bq2.2.1.2.2.2)])) (S12 (List.set (P12 e9000) (Int.toNat o3.2.1) bq2.2.1.2.2.2) (S3 (iadd .i64 e9000.2.2.2.1 1) e9000)))))) w1),()),())) else none) else none)
 else
 (some (((S5 (List.set (P5 w1) ix2 (S19 bq2.2.1 e9000)) w1),()),())))))))))
def Zhr (N:Nat) (r1:Y_Root):Option ((Y_Root × Unit) × ((Int × Int × Int × Int × List Int) × Unit)) :=
    (bif inb (isub .i64 (ilen r1.2.2.2.2.2.2.2.2.2.2.2.2.2.2.2.1) 1) (List.length r1.2.2.2.2.2.2.2.2.2.2.2.2.2.2.2.1) then
 (some ((r1,()),(List.getD r1.2.2.2.2.2.2.2.2.2.2.2.2.2.2.2.1 (Int.toNat (isub .i64 (ilen r1.2.2.2.2.2.2.2.2.2.2.2.2.2.2.2.1) 1)) (0,(0,(0,(0,([]:List Int))))),()))) else none)
def Zhs (N:Nat) (s1:List Int × Int):Option (Unit × ((List Int × Int) × Unit)) :=
    ((Zx N s1.1).bind fun o2 =>
 (some ((),((o2.2.1,s1.2),()))))
def Zjb (N:Nat) (s1:List Int × Int):Option (Unit × (Bool × Unit)) :=
    ((Zb2 N s1.1).bind fun o2 =>
 (bif o2.2.1 then
 ((Zaz N s1.2).bind fun o3 =>
 (some ((),(o3.2.1,()))))
 else
 (some ((),(false,())))))
def Zmw (N:Nat) (u1:Int × Int × Int):Option (Unit × (Bool × Unit)) :=
    (bif u1.1 == 0 then
 (bif u1.2.1 == 0 then
 (some ((),(u1.2.2 == 0,())))
 else
 (some ((),(false,()))))
 else
 (bif u1.1 == 1 then
 ((Za3 N u1.2.1).bind fun o2 =>
 (bif o2.2.1 then
 ((Zaz N u1.2.2).bind fun o3 =>
 (some ((),(o3.2.1,()))))
 else
 (some ((),(false,())))))
 else
 (bif u1.1 == 2 then
 ((Za3 N u1.2.1).bind fun o4 =>
 (bif o4.2.1 then
 (some ((),(u1.2.2 == 0,())))
 else
 (some ((),(false,())))))
 else
 (bif u1.1 == 3 then
 (bif u1.2.1 == 0 then
 ((Zaz N u1.2.2).bind fun o5 =>
 (some ((),(o5.2.1,()))))
 else
 (some ((),(false,()))))
 else
 (some ((),(false,())))))))
def Zii (N:Nat) (l1:List Int) (key2:Int):Option (Unit × ((List Int) × (Int × (Bool × Unit)))) :=
    ((Zx N l1).bind fun o3 =>
 ((Zb2 N l1).bind fun o4 =>
 (bif !o4.2.1 then
 (some ((),(o3.2.1,(0,(false,())))))
 else
 ((Za3 N key2).bind fun o5 =>
 (bif !o5.2.1 then
 (some ((),(o3.2.1,(0,(false,())))))
 else
 ((Zds N l1 key2).bind fun o6 =>
 (bif decide (o6.2.1 < 0) then
 (some ((),(o3.2.1,(0,(true,())))))
 else
 ((Zhk N l1 key2).bind fun o7 =>
 (bif inb o6.2.1 (List.length o3.2.1) then
 (some ((),(List.set o3.2.1 (Int.toNat o6.2.1) 0,(iadd .i64 o7.2.1 1,(true,()))))) else none)))))))))
def Zl1 (N:Nat) (s1:List Int × Int) (u2:Int × Int × Int):Option (Unit × ((List Int × Int) × (Bool × Unit))) :=
    ((Zhs N s1).bind fun o3 =>
 ((Zjb N o3.2.1).bind fun o4 =>
 (bif !o4.2.1 then
 (some ((),(o3.2.1,(false,()))))
 else
 ((Zmw N u2).bind fun o5 =>
 (bif !o5.2.1 then
 (some ((),(o3.2.1,(false,()))))
 else
 (bif u2.1 == 1 then
 ((Zcd N o3.2.1.1 u2.2.1 u2.2.2).bind fun o6 =>
 (some ((),((o6.2.1,o3.2.1.2),(true,())))))
 else
 (bif u2.1 == 2 then
 ((Zii N o3.2.1.1 u2.2.1).bind fun o7 =>
 (some ((),((o7.2.1,o3.2.1.2),(true,())))))
 else
 (bif u2.1 == 3 then
 (bif inz 65536 then
 (some ((),((o3.2.1.1,irem (iadd .i64 (isub .i64 o3.2.1.2 u2.2.2) 65536) 65536),(true,())))) else none)
 else
 (some ((),(o3.2.1,(true,()))))))))))))
def Zci (N:Nat) (w1:Y_World) (ix2:Nat):Option ((Y_World × Unit) × Unit) :=
    (Wq (isub .i64 (ilen (List.getD (P5 w1) ix2 d_Root).2.2.2.2.2.2.2.2.2.2.2.2.2.2.2.2.1) 1) fun e9000 =>
 (bif inb e9000 (List.length (List.getD (P5 w1) ix2 d_Root).2.2.2.2.2.2.2.2.2.2.2.2.2.2.2.2.1) then
 ((Zl1 N w1.2.2.2.1 (List.getD (List.getD (P5 w1) ix2 d_Root).2.2.2.2.2.2.2.2.2.2.2.2.2.2.2.2.1 (Int.toNat e9000) (0,0,0))).bind fun bq1 =>
 (bif (decide ((0:Int) ≤ e9000)) && (decide (e9000 ≤ ((List.length (List.getD (P5 w1) ix2 d_Root).2.2.2.2.2.2.2.2.2.2.2.2.2.2.2.2.1):Int))) then
 (some (((S5 (List.set (P5 w1) ix2 (S16 (List.take (Int.toNat e9000) (List.getD (P5 w1) ix2 d_Root).2.2.2.2.2.2.2.2.2.2.2.2.2.2.2.2.1) (List.getD (P5 w1) ix2 d_Root))) (S3 bq1.2.1 w1)),()),())) else none)) else none))
def Zij (N:Nat) (w1:Y_World) (k2:Int) (code3:List (Int × Int × Int × Int)):Option ((Y_World × Unit) × Unit) :=
    (bif inb k2 (List.length (P5 w1)) then
 (Wq (List.getD (P5 w1) (Int.toNat k2) d_Root) fun e9001 =>
 (bif (ilen (P15 e9001)) == 0 then
 ((Zgt N (S5 (List.set (P5 w1) (Int.toNat k2) e9001) w1) k2 2).bind fun bq1 =>
 (some ((bq1.1.1,()),())))
 else
 ((Zhr N e9001).bind fun bq4 =>
 (bif decide ((ilen (P16 bq4.1.1)) > bq4.2.1.2.2.2.1) then
 ((Zci N (S5 (List.set (P5 w1) (Int.toNat k2) bq4.1.1) w1) (Int.toNat k2)).bind fun bq1 =>
 (some ((bq1.1.1,()),())))
 else
 (Wq (isub .i64 (ilen (P15 bq4.1.1)) 1) fun e9000 =>
 (bif (decide ((0:Int) ≤ e9000)) && (decide (e9000 ≤ ((List.length (P15 bq4.1.1)):Int))) then
 ((Zx N bq4.2.1.2.2.2.2).bind fun bq3 =>
 (bif inb bq4.2.1.1 (List.length code3) then
 (bif inb (List.getD code3 (Int.toNat bq4.2.1.1) (0,0,0,0)).2.1 (List.length bq3.2.1) then
 (bif (decide ((0:Int) ≤ bq4.2.1.2.2.1)) && (decide (bq4.2.1.2.2.1 ≤ ((List.length (P14 bq4.1.1)):Int))) then
 ((Zbi N (List.take (Int.toNat bq4.2.1.2.2.1) (P14 bq4.1.1))).bind fun bq2 =>
 ((Zfj N code3 bq4.2.1.1).bind fun bq1 =>
 (some (((S5 (List.set (P5 w1) (Int.toNat k2) (S15 (List.take (Int.toNat e9000) (P15 bq4.1.1)) (S14 bq2.2.1 (S12 (List.set bq3.2.1 (Int.toNat (List.getD code3 (Int.toNat bq4.2.1.1) (0,0,0,0)).2.1) 0) (S3 (iadd .i64 bq1.2.1 1) bq4.1.1))))) w1),()),())))) else none) else none) else none)) else none)))))) else none)
def Zjo (N:Nat) (o1:Int × Int × Int × Int):Option (Unit × (Int × (Int × Unit))) :=
    ((Zr N o1).bind fun o2 =>
 (bif !o2.2.1 then
 (some ((),((-1:Int),(0,()))))
 else
 (bif o1.1 == 12 then
 (bif o1.1 == 12 then
 (some ((),(o1.2.1,(2,()))))
 else
 (bif o1.1 == 13 then
 (some ((),(o1.2.2.1,(1,()))))
 else
 (bif o1.1 == 15 then
 (some ((),(8,(1,()))))
 else
 (bif o1.1 == 16 then
 (some ((),(8,(2,()))))
 else
 (some ((),((-1:Int),(0,()))))))))
 else
 (bif o1.1 == 14 then
 (some ((),(o1.2.1,(2,()))))
 else
 (bif o1.1 == 13 then
 (some ((),(o1.2.2.1,(1,()))))
 else
 (bif o1.1 == 15 then
 (some ((),(8,(1,()))))
 else
 (bif o1.1 == 16 then
 (some ((),(8,(2,()))))
 else
 (some ((),((-1:Int),(0,())))))))))))
def Zek (N:Nat) (l1:List (Int × Int × Int)):Option (Unit × ((List (Int × Int × Int)) × Unit)) :=
    (bif room (List.length l1) then
 (some ((),(l1,()))) else none)
def Za9 {R:Type} (N:Nat) (who7:Int) (what8:Int) (mode9:Int) (t10:List (Int × Int × Int)) (K0:Int → Bool → (List Int) → Option R):Nat → Int → (List Int) → Option R
  | 0,_,_=>none
  | n + 1,t12,l13 =>
    (bif decide (t12 < (ilen t10)) then
 (bif inb t12 (List.length t10) then
 (bif (List.getD t10 (Int.toNat t12) (0,0,0)).2.1 == what8 then
 (bif (List.getD t10 (Int.toNat t12) (0,0,0)).1 != who7 then
 (bif mode9 == 2 then
 (bif room ((List.length l13) + (List.length ([(List.getD t10 (Int.toNat t12) ((0:Int),((0:Int),(0:Int)))).1]))) then
 (Za9 N who7 what8 mode9 t10 K0 n (iadd .i64 t12 1) (List.append l13 ([(List.getD t10 (Int.toNat t12) (0,0,0)).1]))) else none)
 else
 (bif (List.getD t10 (Int.toNat t12) (0,0,0)).2.2 == 2 then
 (bif room ((List.length l13) + (List.length ([(List.getD t10 (Int.toNat t12) ((0:Int),((0:Int),(0:Int)))).1]))) then
 (Za9 N who7 what8 mode9 t10 K0 n (iadd .i64 t12 1) (List.append l13 ([(List.getD t10 (Int.toNat t12) (0,0,0)).1]))) else none)
 else
 (Za9 N who7 what8 mode9 t10 K0 n (iadd .i64 t12 1) l13)))
 else
 (Za9 N who7 what8 mode9 t10 K0 n (iadd .i64 t12 1) l13))
 else
 (Za9 N who7 what8 mode9 t10 K0 n (iadd .i64 t12 1) l13)) else none)
 else
 (K0 t12 (decide (t12 < (ilen t10))) l13))
def Zf8 (N:Nat) (l1:List (Int × Int × Int)) (who2:Int) (what3:Int) (mode4:Int):Option (Unit × ((List Int) × Unit)) :=
    ((Zce N l1).bind fun o5 =>
 (bif !o5.2.1 then
 (some ((),(([]:List Int),())))
 else
 ((Zm N mode4 1 2).bind fun o6 =>
 (bif !o6.2.1 then
 (some ((),(([]:List Int),())))
 else
 (Za9 N who2 what3 mode4 l1
 (fun t17 t18 l19 =>
   (some ((),(l19,()))))
  N 0 ([]:List Int))))))
def Zy (N:Nat) (x1:List (Int × Int × Int)):Option (((List (Int × Int × Int)) × Unit) × Unit):=Zm4 rngH cfH N x1
def Zb8 {R:Type} (N:Nat) (who9:Int) (what10:Int) (mode11:Int) (t12:Int) (l14:List (Int × Int × Int)) (K0:(List (Int × Int × Int)) → Option R) (K1:Int → Bool → Option R):Nat → Int → Option R
  | 0,_=>none
  | n + 1,t13 =>
    (bif decide (t13 < t12) then
 (bif inb t13 (List.length l14) then
 (bif (List.getD l14 (Int.toNat t13) (0,0,0)).1 == who9 then
 (bif (List.getD l14 (Int.toNat t13) (0,0,0)).2.1 == what10 then
 (bif inb t13 (List.length l14) then
 (K0 (List.set l14 (Int.toNat t13) ((List.getD l14 (Int.toNat t13) (0,0,0)).1,((List.getD l14 (Int.toNat t13) (0,0,0)).2.1,maxI (List.getD l14 (Int.toNat t13) (0,0,0)).2.2 mode11)))) else none)
 else
 (Zb8 N who9 what10 mode11 t12 l14 K0 K1 n (iadd .i64 t13 1)))
 else
 (Zb8 N who9 what10 mode11 t12 l14 K0 K1 n (iadd .i64 t13 1))) else none)
 else
 (K1 t13 (decide (t13 < t12))))
def Zeu (N:Nat) (l1:List (Int × Int × Int)) (who2:Int) (what3:Int) (mode4:Int):Option (Unit × ((List (Int × Int × Int)) × (Bool × Unit))) :=
    ((Zek N l1).bind fun o5 =>
 ((Zce N l1).bind fun o6 =>
 (bif !o6.2.1 then
 (some ((),(o5.2.1,(false,()))))
 else
 ((Zic N who2 what3 mode4).bind fun o7 =>
 (bif !o7.2.1 then
 (some ((),(o5.2.1,(false,()))))
 else
 ((Zf8 N l1 who2 what3 mode4).bind fun o8 =>
 (bif decide ((ilen o8.2.1) > 0) then
 (some ((),(o5.2.1,(false,()))))
 else
 (Zb8 N who2 what3 mode4 (ilen o5.2.1) o5.2.1
 (fun l18 =>
   (some ((),(l18,(true,())))))
 (fun t19 t20 =>
   (bif room ((List.length o5.2.1) + (List.length ([(who2,(what3,mode4))]))) then
 ((Zy N (List.append o5.2.1 ([(who2,(what3,mode4))]))).bind fun o21 =>
 (some ((),(o21.1.1,(true,()))))) else none))
  N 0))))))))
def Zki (N:Nat) (key1:Int) (entry2:Int):Option (Unit × ((Int × Int × Int) × Unit)) :=
    (bif entry2 == 0 then
 (some ((),((2,(key1,0)),())))
 else
 (some ((),((1,(key1,isub .i64 entry2 1)),()))))
def Zl2 (N:Nat) (s1:List Int × Int) (o2:Int × Int × Int × Int) (regs3:List Int):Option (Unit × ((List Int × Int) × ((List Int) × ((Int × Int × Int) × (Bool × Unit))))) :=
    ((Zhs N s1).bind fun o4 =>
 ((Zx N regs3).bind fun o5 =>
 ((Zjb N o4.2.1).bind fun o6 =>
 (bif !o6.2.1 then
 (some ((),(o4.2.1,(o5.2.1,((0,0,0),(false,()))))))
 else
 ((Zac N o5.2.1 4).bind fun o7 =>
 (bif !o7.2.1 then
 (some ((),(o4.2.1,(o5.2.1,((0,0,0),(false,()))))))
 else
 ((Zhi N o2).bind fun o8 =>
 (bif o8.2.1 != 2 then
 (some ((),(o4.2.1,(o5.2.1,((0,0,0),(false,()))))))
 else
 (bif o2.1 == 12 then
 (bif inb o2.2.2.1 (List.length o5.2.1) then
 ((Zcd N o4.2.1.1 o2.2.1 (List.getD o5.2.1 (Int.toNat o2.2.2.1) 0)).bind fun o9 =>
 (bif inz 65536 then
 (bif inb o2.2.2.2 (List.length o5.2.1) then
 ((Zki N o2.2.1 o9.2.2.1).bind fun o10 =>
 (some ((),((o9.2.1,o4.2.1.2),(List.set o5.2.1 (Int.toNat o2.2.2.2) (irem o9.2.2.1 65536),(o10.2.1,(true,()))))))) else none) else none)) else none)
 else
 (bif o2.1 == 13 then
 ((Zhk N o4.2.1.1 o2.2.2.1).bind fun o11 =>
 (bif inb o2.2.1 (List.length o5.2.1) then
 (bif o11.2.2.1 then
 (bif inz 65536 then
 (bif inb o2.2.1 (List.length (List.set o5.2.1 (Int.toNat o2.2.1) 0)) then
 (Wq (List.set o5.2.1 (Int.toNat o2.2.1) 0) fun s12 =>
 (some ((),(o4.2.1,(List.set s12 (Int.toNat o2.2.1) (irem (iadd .i64 o11.2.1 1) 65536),((0,0,0),(true,()))))))) else none) else none)
 else
 (some ((),(o4.2.1,(List.set o5.2.1 (Int.toNat o2.2.1) 0,((0,0,0),(true,()))))))) else none))
 else
 (bif o2.1 == 14 then
 ((Zii N o4.2.1.1 o2.2.1).bind fun o13 =>
 (bif inz 65536 then
 (bif inb o2.2.2.1 (List.length o5.2.1) then
 ((Zki N o2.2.1 o13.2.2.1).bind fun o14 =>
 (some ((),((o13.2.1,o4.2.1.2),(List.set o5.2.1 (Int.toNat o2.2.2.1) (irem o13.2.2.1 65536),(o14.2.1,(true,()))))))) else none) else none))
 else
 (bif o2.1 == 15 then
 (bif inb o2.2.1 (List.length o5.2.1) then
 (bif inz 65536 then
 (bif inb o2.2.1 (List.length o5.2.1) then
 (some ((),((o4.2.1.1,irem (iadd .i64 o4.2.1.2 (List.getD o5.2.1 (Int.toNat o2.2.1) 0)) 65536),(o5.2.1,((3,(0,List.getD o5.2.1 (Int.toNat o2.2.1) 0)),(true,())))))) else none) else none) else none)
 else
 (bif inb o2.2.1 (List.length o5.2.1) then
 (some ((),(o4.2.1,(List.set o5.2.1 (Int.toNat o2.2.1) o4.2.1.2,((0,0,0),(true,())))))) else none)))))))))))))
def Zgu (N:Nat) (w1:Y_World) (k2:Int) (o3:Int × Int × Int × Int):Option ((Y_World × Unit) × Unit) :=
    (bif inb k2 (List.length (P5 w1)) then
 ((Zjo N o3).bind fun bq3 =>
 ((Zeu N (P4 w1) (iadd .i64 k2 1) bq3.2.1 bq3.2.2.1).bind fun bq2 =>
 (Wq (List.getD (P5 w1) (Int.toNat k2) d_Root) fun e9001 =>
 (bif !bq2.2.2.1 then
 ((Zc5 N e9001).bind fun bq1 =>
 (some (((S5 (List.set (P5 w1) (Int.toNat k2) bq1.1.1) w1),()),())))
 else
 (Wq (((Zl2 N w1.2.2.2.1 o3 (P12 e9001)).bind fun bq1 =>
 (bif bq1.2.2.2.1.1 != 0 then
 (bif room ((List.length (P16 e9001)) + (List.length ([bq1.2.2.2.1]))) then
 (some (((S5 (List.set (P5 w1) (Int.toNat k2) (S16 (List.append (P16 e9001) ([bq1.2.2.2.1])) (S12 bq1.2.2.1 (S3 (iadd .i64 e9001.2.2.2.1 1) e9001)))) (S4 bq2.2.1 (S3 bq1.2.1 w1))),()),())) else none)
 else
 (some (((S5 (List.set (P5 w1) (Int.toNat k2) (S12 bq1.2.2.1 (S3 (iadd .i64 e9001.2.2.2.1 1) e9001))) (S4 bq2.2.1 (S3 bq1.2.1 w1))),()),())))):Option ((Y_World × Unit) × Unit)) fun e9000 =>
 (both
 e9000
 (both
 e9000
 (both
 e9000
 (both
 e9000
 (both
 e9000
 e9000)))))))))) else none)
def Zdr (N:Nat) (r1:Y_Root):Option (Unit × ((Int × Int × Int × Int) × Unit)) :=
    (Wq (List.getD (P15 r1) (Int.toNat (isub .i64 (ilen (P15 r1)) 1)) (0,(0,(0,(0,([]:List Int)))))) fun e9000 =>
 (bif inb (isub .i64 (ilen (P15 r1)) 1) (List.length (P15 r1)) then
 (some ((),((e9000.1,(e9000.2.1,(e9000.2.2.1,e9000.2.2.2.1))),()))) else none))
def Zht (N:Nat) (w1:Y_World) (k2:Int) (p3:List (Int × Int × Int × Int) × List (List (Int × Int × Int × Int))):Option ((Y_World × Unit) × Unit) :=
    (bif inb k2 (List.length (P5 w1)) then
 (Wq (List.getD (P5 w1) (Int.toNat k2) d_Root) fun e9002 =>
 (Wq (List.set (P5 w1) (Int.toNat k2) e9002) fun e9005 =>
 (bif decide (e9002.2.2.2.1 ≥ (ilen p3.1)) then
 ((Zgt N (S5 e9005 w1) k2 1).bind fun bq1 =>
 (some ((bq1.1.1,()),())))
 else
 (bif inb e9002.2.2.2.1 (List.length p3.1) then
 (Wq (List.getD p3.1 (Int.toNat e9002.2.2.2.1) (0,0,0,0)) fun e9001 =>
 (bif e9001.1 == 5 then
 ((Ziy N (S5 e9005 w1) (Int.toNat k2) e9001).bind fun bq1 =>
 (some ((bq1.1.1,()),())))
 else
 (bif e9001.1 == 10 then
 ((Zij N (S5 e9005 w1) k2 p3.1).bind fun bq1 =>
 (some ((bq1.1.1,()),())))
 else
 (bif e9001.1 == 11 then
 ((Zdh N (P4 e9002) (P12 e9002) (P14 e9002) (ilen p3.2)).bind fun bq1 =>
 (some (((S5 (List.set (P5 w1) (Int.toNat k2) (U21 bq1.2.1 (S0 2 e9002))) w1),()),())))
 else
 (Wq ((Wq (iadd .i64 e9002.2.2.2.1 1) fun e9006 =>
 (bif e9001.1 == 6 then
 (bif inb e9001.2.2.1 (List.length (P12 e9002)) then
 (bif room ((List.length (P14 e9002)) + (List.length ([(e9001.2.1,List.getD (P12 e9002) (Int.toNat e9001.2.2.1) (0:Int))]))) then
 (some (((S5 (List.set (P5 w1) (Int.toNat k2) (S14 (List.append (P14 e9002) ([(e9001.2.1,List.getD (P12 e9002) (Int.toNat e9001.2.2.1) 0)])) (S3 e9006 e9002))) w1),()),())) else none) else none)
 else
 (bif e9001.1 == 7 then
 (bif inb e9001.2.1 (List.length (P12 e9002)) then
 (bif (List.getD (P12 e9002) (Int.toNat e9001.2.1) 0) == 0 then
 (some (((S5 (List.set (P5 w1) (Int.toNat k2) (S3 (iadd .i64 (iadd .i64 e9002.2.2.2.1 e9001.2.2.1) 1) e9002)) w1),()),()))
 else
 (some (((S5 (List.set (P5 w1) (Int.toNat k2) (S3 e9006 e9002)) w1),()),()))) else none)
 else
 (bif e9001.1 == 8 then
 ((Zx N (P12 e9002)).bind fun bq1 =>
 (Wq (ilen (P13 e9002),(ilen (P14 e9002),(ilen (P16 e9002),bq1.2.1))) fun e9004 =>
 (bif room ((List.length (P15 e9002)) + (List.length ([(e9002.2.2.2.1,e9004)]))) then
 (some (((S5 (List.set (P5 w1) (Int.toNat k2) (S15 (List.append (P15 e9002) ([(e9002.2.2.2.1,e9004)])) (S3 e9006 e9002))) w1),()),())) else none)))
 else
 (bif e9001.1 == 9 then
 ((Zdr N e9002).bind fun bq1 =>
 (Wq (isub .i64 (ilen (P15 e9002)) 1) fun e9007 =>
 (bif (decide ((0:Int) ≤ e9007)) && (decide (e9007 ≤ ((List.length (P15 e9002)):Int))) then
 (bif inb bq1.2.1.1 (List.length p3.1) then
 (bif inb (List.getD p3.1 (Int.toNat bq1.2.1.1) (0,0,0,0)).2.1 (List.length (P12 e9002)) then
 (some (((S5 (List.set (P5 w1) (Int.toNat k2) (S15 (List.take (Int.toNat e9007) (P15 e9002)) (S12 (List.set (P12 e9002) (Int.toNat (List.getD p3.1 (Int.toNat bq1.2.1.1) (0,0,0,0)).2.1) 1) (S3 e9006 e9002)))) w1),()),())) else none) else none) else none)))
 else
 ((Zmq N e9001 (P12 e9002)).bind fun bq1 =>
 (some (((S5 (List.set (P5 w1) (Int.toNat k2) (S12 bq1.2.1 (S3 e9006 e9002))) w1),()),())))))))):Option ((Y_World × Unit) × Unit)) fun e9000 =>
 (Wq (((Zgu N (S5 e9005 w1) k2 e9001).bind fun bq1 =>
 (some ((bq1.1.1,()),()))):Option ((Y_World × Unit) × Unit)) fun e9003 =>
 (bif e9001.1 == 12 then
 (bif e9001.1 == 12 then
 e9003
 else
 e9000)
 else
 (bif e9001.1 == 13 then
 (bif e9001.1 == 13 then
 e9003
 else
 e9000)
 else
 (bif e9001.1 == 14 then
 (bif e9001.1 == 14 then
 e9003
 else
 e9000)
 else
 (bif e9001.1 == 15 then
 (bif e9001.1 == 15 then
 e9003
 else
 e9000)
 else
 (bif e9001.1 == 16 then
 e9003
 else
 e9000))))))))))) else none)))) else none)
def Zm6 (N:Nat) (x1:Y_KidRun):Option (Unit × (Bool × Unit)) :=
    (some ((),(x1.1 != 3,())))
def Zi {R:Type} (N:Nat) (s2:List Y_KidRun) (K0:Int → Option R) (K1:Int → Bool → Option R):Nat → Int → Option R
  | 0,_=>none
  | n + 1,t4 =>
    (bif decide (t4 < (ilen s2)) then
 (bif inb t4 (List.length s2) then
 ((Zm6 N (List.getD s2 (Int.toNat t4) d_KidRun)).bind fun o10 =>
 (bif o10.2.1 then
 (K0 t4)
 else
 (Zi N s2 K0 K1 n (iadd .i64 t4 1)))) else none)
 else
 (K1 t4 (decide (t4 < (ilen s2)))))
def Zn (N:Nat) (s1:List Y_KidRun):Option (Unit × (Int × Unit)) :=
    (Zi N s1
 (fun t11 =>
   (some ((),(t11,()))))
 (fun t12 t13 =>
   (some ((),((-1:Int),()))))
  N 0)
def Zal (N:Nat) (s1:List Y_KidRun):Option (Unit × (Bool × Unit)) :=
    ((Zn N s1).bind fun o2 =>
 (some ((),(decide (o2.2.1 ≥ 0),()))))
def Zl3 (N:Nat) (f1:Y_Family):Option (Unit × (Bool × Unit)) :=
    ((Zal N f1.2.2.2.2.2.2.2.2.2).bind fun o2 =>
 (some ((),(!o2.2.1,()))))
def Zbl {R:Type} (N:Nat) (t4:List Y_KidRun) (t5:Int) (K0:Int → Bool → (List Int) → Option R):Nat → Int → (List Int) → Option R
  | 0,_,_=>none
  | n + 1,t6,l7 =>
    (bif decide (t6 < t5) then
 (bif inb t6 (List.length t4) then
 (bif inb t6 (List.length l7) then
 (Wq (List.getD t4 (Int.toNat t6) d_KidRun) fun e9000 =>
 (Wq (List.set l7 (Int.toNat t6) 0) fun e9001 =>
 (bif (P5 e9000) == 1 then
 ((Zac N (P6 e9000) 4).bind fun bq1 =>
 (bif bq1.2.1 then
 (bif inb 0 (List.length (P6 e9000)) then
 (bif inb t6 (List.length e9001) then
 (Wq e9001 fun s14 =>
 (Zbl N t4 t5 K0 n (iadd .i64 t6 1) (List.set s14 (Int.toNat t6) (List.getD (P6 e9000) (Int.toNat 0) 0)))) else none) else none)
 else
 (Zbl N t4 t5 K0 n (iadd .i64 t6 1) e9001)))
 else
 (Zbl N t4 t5 K0 n (iadd .i64 t6 1) e9001)))) else none) else none)
 else
 (K0 t6 (decide (t6 < t5)) l7))
def Zev (N:Nat) (f1:Y_Family):Option (Unit × ((List Int) × Unit)) :=
    ((Zac N f1.2.2.2.2.1 4).bind fun o2 =>
 (bif !o2.2.1 then
 (some ((),(([]:List Int),())))
 else
 (bif decide ((ilen f1.2.2.2.2.2.2.2.2.2) > 3) then
 (some ((),(([]:List Int),())))
 else
 ((Zx N f1.2.2.2.2.1).bind fun o3 =>
 (Zbl N f1.2.2.2.2.2.2.2.2.2 (ilen f1.2.2.2.2.2.2.2.2.2)
 (fun t15 t16 l17 =>
   (some ((),(l17,()))))
  N 0 o3.2.1)))))
def Zcv {R:Type} (N:Nat) (t2:List (Int × Int × Int)) (t3:Int) (K0:Int → Bool → (List (Int × Int)) → Option R):Nat → Int → (List (Int × Int)) → Option R
  | 0,_,_=>none
  | n + 1,t4,l5 =>
    (bif decide (t4 < t3) then
 (bif inb t4 (List.length t2) then
 (bif room ((List.length l5) + (List.length ([((List.getD t2 (Int.toNat t4) ((0:Int),((0:Int),(0:Int)))).1,(List.getD t2 (Int.toNat t4) ((0:Int),((0:Int),(0:Int)))).2.1)]))) then
 (Zcv N t2 t3 K0 n (iadd .i64 t4 1) (List.append l5 ([((List.getD t2 (Int.toNat t4) (0,0,0)).1,(List.getD t2 (Int.toNat t4) (0,0,0)).2.1)]))) else none) else none)
 else
 (K0 t4 (decide (t4 < t3)) l5))
def Zew (N:Nat) (f1:Y_Family):Option (Unit × ((List (Int × Int)) × Unit)) :=
    (Zcv N f1.2.2.2.2.2.2.1 (ilen f1.2.2.2.2.2.2.1)
 (fun t9 t10 l11 =>
   (some ((),(l11,()))))
  N 0 ([]:List (Int × Int)))
def Zhu (N:Nat) (r1:Y_Root):Option ((Y_Root × Unit) × Unit) :=
    (bif (P24 r1) then
 ((Zbd N r1).bind fun bq1 =>
 (some ((bq1.1.1,()),())))
 else
 ((Zl3 N (Q21 r1)).bind fun bq4 =>
 (bif !bq4.2.1 then
 (some ((r1,()),()))
 else
 ((Zev N (Q21 r1)).bind fun bq3 =>
 ((Zew N (Q21 r1)).bind fun bq2 =>
 (bif room ((List.length (P13 r1)) + (List.length (P29 r1))) then
 ((Zx N (P28 r1)).bind fun bq1 =>
 (some (((U21 d_Family (S17 bq1.2.1 (S14 bq2.2.1 (S13 (List.append (P13 r1) (P29 r1)) (S12 bq3.2.1 (S3 (iadd .i64 r1.2.2.2.1 1) (S0 1 r1))))))),()),()))) else none))))))
def Zge (N:Nat) (w1:Y_World) (ix2:Nat):Option ((Y_World × Unit) × Unit) :=
    ((Zhr N (List.getD (P5 w1) ix2 d_Root)).bind fun bq4 =>
 (bif decide ((P6 bq4.1.1) < bq4.2.1.2.1) then
 (bif inb (P6 bq4.1.1) (List.length (P13 bq4.1.1)) then
 (Wq (List.getD (P13 bq4.1.1) (Int.toNat (P6 bq4.1.1)) (0,0)) fun e9000 =>
 (bif inb e9000.1 (List.length w1.2.2.1.2) then
 (bif (List.getD w1.2.2.1.2 (Int.toNat e9000.1) (0,0,0)).2.2 != 0 then
 ((Zbd N bq4.1.1).bind fun bq1 =>
 (some (((S5 (List.set (P5 w1) ix2 bq1.1.1) w1),()),())))
 else
 (bif decide ((List.getD w1.2.2.1.2 (Int.toNat e9000.1) (0,0,0)).2.1 > (P4 bq4.1.1)) then
 ((Zbd N bq4.1.1).bind fun bq1 =>
 (some (((S5 (List.set (P5 w1) ix2 bq1.1.1) w1),()),())))
 else
 (some (((S5 (List.set (P5 w1) ix2 (S6 (iadd .i64 (P6 bq4.1.1) 1) bq4.1.1)) w1),()),())))) else none)) else none)
 else
 (bif (decide ((0:Int) ≤ bq4.2.1.2.1)) && (decide (bq4.2.1.2.1 ≤ ((List.length (P13 bq4.1.1)):Int))) then
 ((Zbi N (List.take (Int.toNat bq4.2.1.2.1) (P13 bq4.1.1))).bind fun bq3 =>
 (bif (decide ((0:Int) ≤ bq4.2.1.2.2.1)) && (decide (bq4.2.1.2.2.1 ≤ ((List.length (P14 bq4.1.1)):Int))) then
 ((Zbi N (List.take (Int.toNat bq4.2.1.2.2.1) (P14 bq4.1.1))).bind fun bq2 =>
 ((Zx N bq4.2.1.2.2.2.2).bind fun bq1 =>
 (some (((S5 (List.set (P5 w1) ix2 (1,(S13 bq2.2.1 (S12 bq3.2.1 (S11 bq1.2.1 (S5 0 (S4 0 (S3 (P5 bq4.1.1) (S2 (iadd .i64 bq4.2.1.1 1) bq4.1.1.2))))))))) w1),()),())))) else none)) else none)))
def Zha (N:Nat) (c1:Int × Int × Int × Int × Int × List (Int × Int) × List Int):Option (Unit × ((Int × Int × Int × Int × Int × List (Int × Int) × List Int) × Unit)) :=
    ((Zbi N c1.2.2.2.2.2.1).bind fun o2 =>
 ((Zx N c1.2.2.2.2.2.2).bind fun o3 =>
 (some ((),((c1.1,(c1.2.1,(c1.2.2.1,(c1.2.2.2.1,(c1.2.2.2.2.1,(o2.2.1,o3.2.1)))))),())))))
def Zc6 (N:Nat) (c1:Int × Int × Int × Int × Int × List (Int × Int) × List Int):Option (Unit × (Int × Unit)) :=
    (bif c1.2.2.1 == 1 then
 (bif c1.2.2.1 == 1 then
 (some ((),(ilen c1.2.2.2.2.2.1,())))
 else
 (bif c1.2.2.1 == 3 then
 (some ((),(ilen c1.2.2.2.2.2.2,())))
 else
 (some ((),(1,())))))
 else
 (bif c1.2.2.1 == 4 then
 (bif c1.2.2.1 == 4 then
 (some ((),(ilen c1.2.2.2.2.2.1,())))
 else
 (bif c1.2.2.1 == 3 then
 (some ((),(ilen c1.2.2.2.2.2.2,())))
 else
 (some ((),(1,())))))
 else
 (bif c1.2.2.1 == 5 then
 (bif c1.2.2.1 == 5 then
 (some ((),(ilen c1.2.2.2.2.2.1,())))
 else
 (bif c1.2.2.1 == 3 then
 (some ((),(ilen c1.2.2.2.2.2.2,())))
 else
 (some ((),(1,())))))
 else
 (bif c1.2.2.1 == 7 then
 (some ((),(ilen c1.2.2.2.2.2.1,())))
 else
 (bif c1.2.2.1 == 3 then
 (some ((),(ilen c1.2.2.2.2.2.2,())))
 else
 (some ((),(1,()))))))))
def Zbu {R:Type} (N:Nat) (b8:Int × Int × Int × Int × Int × List (Int × Int) × List Int) (K0:Option R) (K1:Int → Bool → Option R):Nat → Int → Option R
  | 0,_=>none
  | n + 1,i7 =>
    (bif decide (i7 < (ilen b8.2.2.2.2.2.1)) then
 (bif inb (isub .i64 i7 1) (List.length b8.2.2.2.2.2.1) then
 (bif inb i7 (List.length b8.2.2.2.2.2.1) then
 (bif decide ((List.getD b8.2.2.2.2.2.1 (Int.toNat (isub .i64 i7 1)) (0,0)).1 ≥ (List.getD b8.2.2.2.2.2.1 (Int.toNat i7) (0,0)).1) then
 K0
 else
 (Zbu N b8 K0 K1 n (iadd .i64 i7 1))) else none) else none)
 else
 (K1 i7 (decide (i7 < (ilen b8.2.2.2.2.2.1)))))
def Zbf {R:Type} (N:Nat) (t13:List Int) (b16:Int × Int × Int × Int × Int × List (Int × Int) × List Int) (K0:Option R) (K1:Int → Bool → Option R):Nat → Int → Option R
  | 0,_=>none
  | n + 1,t15 =>
    (bif decide (t15 < (ilen b16.2.2.2.2.2.2)) then
 (bif inb t15 (List.length t13) then
 ((Zba N (List.getD t13 (Int.toNat t15) 0)).bind fun o21 =>
 (bif !o21.2.1 then
 K0
 else
 (bif decide (t15 > 0) then
 (bif inb (isub .i64 t15 1) (List.length b16.2.2.2.2.2.2) then
 (bif decide ((List.getD b16.2.2.2.2.2.2 (Int.toNat (isub .i64 t15 1)) 0) ≥ (List.getD t13 (Int.toNat t15) 0)) then
 K0
 else
 (Zbf N t13 b16 K0 K1 n (iadd .i64 t15 1))) else none)
 else
 (Zbf N t13 b16 K0 K1 n (iadd .i64 t15 1))))) else none)
 else
 (K1 t15 (decide (t15 < (ilen b16.2.2.2.2.2.2)))))
def Zcn (N:Nat) (c1:Int × Int × Int × Int × Int × List (Int × Int) × List Int):Option (Unit × (Bool × Unit)) :=
    ((Zes N c1.1).bind fun o2 =>
 (bif !o2.2.1 then
 (some ((),(false,())))
 else
 ((Zm N c1.2.1 0 1000000).bind fun o3 =>
 (bif !o3.2.1 then
 (some ((),(false,())))
 else
 ((Zm N c1.2.2.2.2.1 0 1000000).bind fun o4 =>
 (bif !o4.2.1 then
 (some ((),(false,())))
 else
 ((Zm N c1.2.2.1 1 8).bind fun o5 =>
 (bif !o5.2.1 then
 (some ((),(false,())))
 else
 ((Zbz N c1.2.2.2.2.2.1).bind fun o6 =>
 (bif !o6.2.1 then
 (some ((),(false,())))
 else
 (Zbu N c1
 (some ((),(false,())))
 (fun i11 t12 =>
   (Zbf N c1.2.2.2.2.2.2 c1
 (some ((),(false,())))
 (fun t22 t23 =>
   ((Zc6 N c1).bind fun o24 =>
 ((Zm N c1.2.2.2.1 0 (isub .i64 o24.2.1 1)).bind fun o25 =>
 (some ((),(o25.2.1,()))))))
  N 0))
  N 1)))))))))))
def Z6 (N:Nat) (c1:Int × Int × Int × Int × Int × List (Int × Int) × List Int) (n2:Int):Option (((Int × Int × Int × Int × Int × List (Int × Int) × List Int) × Unit) × Unit) :=
    (bif n2 == 0 then
 (some (((c1.1,(c1.2.1,(8,(0,c1.2.2.2.2)))),()),()))
 else
 (some (((c1.1,(c1.2.1,(7,(isub .i64 n2 1,c1.2.2.2.2)))),()),())))
def Zik (N:Nat) (c1:Int × Int × Int × Int × Int × List (Int × Int) × List Int):Option (Unit × ((Int × Int × Int × Int × Int × List (Int × Int) × List Int) × (Bool × Unit))) :=
    ((Zha N c1).bind fun o2 =>
 ((Zcn N o2.2.1).bind fun o3 =>
 (bif !o3.2.1 then
 (some ((),(o2.2.1,(false,()))))
 else
 (bif o2.2.1.2.2.1 == 1 then
 ((Z6 N o2.2.1 o2.2.1.2.2.2.1).bind fun o4 =>
 (some ((),(o4.1.1,(true,())))))
 else
 (bif o2.2.1.2.2.1 == 2 then
 (bif o2.2.1.2.2.1 == 2 then
 ((Z6 N o2.2.1 (ilen o2.2.1.2.2.2.2.2.1)).bind fun o5 =>
 (some ((),(o5.1.1,(true,())))))
 else
 (some ((),(o2.2.1,(false,())))))
 else
 (bif o2.2.1.2.2.1 == 3 then
 ((Z6 N o2.2.1 (ilen o2.2.1.2.2.2.2.2.1)).bind fun o6 =>
 (some ((),(o6.1.1,(true,())))))
 else
 (some ((),(o2.2.1,(false,()))))))))))
def Zmr (N:Nat) (m1:Int × List (Int × Int × Int)) (i2:Int) (who3:Int):Option (Unit × ((Int × List (Int × Int × Int)) × (Bool × Unit))) :=
    ((Zcb N m1).bind fun o4 =>
 ((Zb1 N m1).bind fun o5 =>
 (bif !o5.2.1 then
 (some ((),(o4.2.1,(false,()))))
 else
 ((Zba N i2).bind fun o6 =>
 (bif !o6.2.1 then
 (some ((),(o4.2.1,(false,()))))
 else
 ((Zes N who3).bind fun o7 =>
 (bif !o7.2.1 then
 (some ((),(o4.2.1,(false,()))))
 else
 (bif inb i2 (List.length m1.2) then
 (bif (List.getD m1.2 (Int.toNat i2) (0,0,0)).2.2 != 0 then
 (some ((),(o4.2.1,(false,()))))
 else
 (bif inb i2 (List.length o4.2.1.2) then
 (some ((),((o4.2.1.1,List.set o4.2.1.2 (Int.toNat i2) ((List.getD o4.2.1.2 (Int.toNat i2) (0,0,0)).1,((List.getD o4.2.1.2 (Int.toNat i2) (0,0,0)).2.1,who3))),(true,())))) else none)) else none))))))))
def Zex (N:Nat) (c1:Int × Int × Int × Int × Int × List (Int × Int) × List Int) (phase2:Int):Option (((Int × Int × Int × Int × Int × List (Int × Int) × List Int) × Unit) × Unit) :=
    (bif phase2 == 3 then
 (bif (ilen c1.2.2.2.2.2.2) == 0 then
 (bif 4 == 4 then
 (bif (ilen c1.2.2.2.2.2.1) == 0 then
 (some (((c1.1,(c1.2.1,(6,(0,c1.2.2.2.2)))),()),()))
 else
 (some (((c1.1,(c1.2.1,(4,(0,c1.2.2.2.2)))),()),())))
 else
 (some (((c1.1,(c1.2.1,(4,(0,c1.2.2.2.2)))),()),())))
 else
 (bif phase2 == 4 then
 (bif (ilen c1.2.2.2.2.2.1) == 0 then
 (some (((c1.1,(c1.2.1,(6,(0,c1.2.2.2.2)))),()),()))
 else
 (some (((c1.1,(c1.2.1,(phase2,(0,c1.2.2.2.2)))),()),())))
 else
 (some (((c1.1,(c1.2.1,(phase2,(0,c1.2.2.2.2)))),()),()))))
 else
 (bif phase2 == 4 then
 (bif (ilen c1.2.2.2.2.2.1) == 0 then
 (some (((c1.1,(c1.2.1,(6,(0,c1.2.2.2.2)))),()),()))
 else
 (some (((c1.1,(c1.2.1,(phase2,(0,c1.2.2.2.2)))),()),())))
 else
 (some (((c1.1,(c1.2.1,(phase2,(0,c1.2.2.2.2)))),()),()))))
def Zbm (N:Nat) (c1:Int × Int × Int × Int × Int × List (Int × Int) × List Int) (phase2:Int):Option (((Int × Int × Int × Int × Int × List (Int × Int) × List Int) × Unit) × Unit) :=
    ((Zc6 N (c1.1,(c1.2.1,(c1.2.2.1,(iadd .i64 c1.2.2.2.1 1,c1.2.2.2.2))))).bind fun o3 =>
 (bif (iadd .i64 c1.2.2.2.1 1) == o3.2.1 then
 ((Zex N (c1.1,(c1.2.1,(c1.2.2.1,(iadd .i64 c1.2.2.2.1 1,c1.2.2.2.2)))) phase2).bind fun o4 =>
 (some ((o4.1.1,()),())))
 else
 (some (((c1.1,(c1.2.1,(c1.2.2.1,(iadd .i64 c1.2.2.2.1 1,c1.2.2.2.2)))),()),()))))
def Znu (N:Nat) (m1:Int × List (Int × Int × Int)) (i2:Int) (who3:Int) (v4:Int):Option (Unit × ((Int × List (Int × Int × Int)) × (Bool × Unit))) :=
    ((Zcb N m1).bind fun o5 =>
 ((Zb1 N m1).bind fun o6 =>
 (bif !o6.2.1 then
 (some ((),(o5.2.1,(false,()))))
 else
 ((Zba N i2).bind fun o7 =>
 (bif !o7.2.1 then
 (some ((),(o5.2.1,(false,()))))
 else
 ((Zes N who3).bind fun o8 =>
 (bif !o8.2.1 then
 (some ((),(o5.2.1,(false,()))))
 else
 (bif inb i2 (List.length m1.2) then
 (bif (List.getD m1.2 (Int.toNat i2) (0,0,0)).2.2 != who3 then
 (some ((),(o5.2.1,(false,()))))
 else
 ((Zaz N v4).bind fun o9 =>
 (bif !o9.2.1 then
 (some ((),(o5.2.1,(false,()))))
 else
 (bif inb i2 (List.length o5.2.1.2) then
 (some ((),((o5.2.1.1,List.set o5.2.1.2 (Int.toNat i2) (v4,(List.getD o5.2.1.2 (Int.toNat i2) (0,0,0)).2)),(true,())))) else none)))) else none))))))))
def Zkj (N:Nat) (m1:Int × List (Int × Int × Int)) (i2:Int) (who3:Int) (ver4:Int):Option (Unit × ((Int × List (Int × Int × Int)) × (Bool × Unit))) :=
    ((Zcb N m1).bind fun o5 =>
 ((Zb1 N m1).bind fun o6 =>
 (bif !o6.2.1 then
 (some ((),(o5.2.1,(false,()))))
 else
 ((Zba N i2).bind fun o7 =>
 (bif !o7.2.1 then
 (some ((),(o5.2.1,(false,()))))
 else
 ((Zes N who3).bind fun o8 =>
 (bif !o8.2.1 then
 (some ((),(o5.2.1,(false,()))))
 else
 (bif inb i2 (List.length m1.2) then
 (bif (List.getD m1.2 (Int.toNat i2) (0,0,0)).2.2 != who3 then
 (some ((),(o5.2.1,(false,()))))
 else
 (bif inb i2 (List.length m1.2) then
 ((Zm N ver4 (List.getD m1.2 (Int.toNat i2) (0,0,0)).2.1 m1.1).bind fun o9 =>
 (bif !o9.2.1 then
 (some ((),(o5.2.1,(false,()))))
 else
 (bif inb i2 (List.length o5.2.1.2) then
 (bif inb i2 (List.length (List.set o5.2.1.2 (Int.toNat i2) ((List.getD o5.2.1.2 (Int.toNat i2) (0,0,0)).1,((List.getD o5.2.1.2 (Int.toNat i2) (0,0,0)).2.1,0)))) then
 (Wq (List.set o5.2.1.2 (Int.toNat i2) ((List.getD o5.2.1.2 (Int.toNat i2) (0,0,0)).1,((List.getD o5.2.1.2 (Int.toNat i2) (0,0,0)).2.1,0))) fun s10 =>
 (some ((),((o5.2.1.1,List.set s10 (Int.toNat i2) ((List.getD s10 (Int.toNat i2) (0,0,0)).1,(ver4,(List.getD s10 (Int.toNat i2) (0,0,0)).2.2))),(true,()))))) else none) else none))) else none)) else none))))))))
def Ziz (N:Nat) (m1:Int × List (Int × Int × Int)) (c2:Int × Int × Int × Int × Int × List (Int × Int) × List Int):Option (Unit × ((Int × List (Int × Int × Int)) × ((Int × Int × Int × Int × Int × List (Int × Int) × List Int) × Unit))) :=
    ((Zcb N m1).bind fun o3 =>
 ((Zha N c2).bind fun o4 =>
 ((Zb1 N o3.2.1).bind fun o5 =>
 (bif !o5.2.1 then
 (some ((),(o3.2.1,(o4.2.1,()))))
 else
 ((Zcn N o4.2.1).bind fun o6 =>
 (bif !o6.2.1 then
 (some ((),(o3.2.1,(o4.2.1,()))))
 else
 (bif o4.2.1.2.2.1 == 1 then
 (both
 (bif inb o4.2.1.2.2.2.1 (List.length o4.2.1.2.2.2.2.2.1) then
 ((Zmr N o3.2.1 (List.getD o4.2.1.2.2.2.2.2.1 (Int.toNat o4.2.1.2.2.2.1) (0,0)).1 o4.2.1.1).bind fun o7 =>
 (bif o7.2.2.1 then
 ((Zbm N o4.2.1 2).bind fun o8 =>
 (some ((),(o7.2.1,(o8.1.1,())))))
 else
 ((Z6 N o4.2.1 o4.2.1.2.2.2.1).bind fun o9 =>
 (some ((),(o7.2.1,(o9.1.1,()))))))) else none)
 (bif inb o4.2.1.2.2.2.1 (List.length o4.2.1.2.2.2.2.2.1) then
 ((Zmr N o3.2.1 (List.getD o4.2.1.2.2.2.2.2.1 (Int.toNat o4.2.1.2.2.2.1) (0,0)).1 o4.2.1.1).bind fun o10 =>
 (bif o10.2.2.1 then
 ((Zbm N o4.2.1 2).bind fun o11 =>
 (some ((),(o10.2.1,(o11.1.1,())))))
 else
 ((Z6 N o4.2.1 o4.2.1.2.2.2.1).bind fun o12 =>
 (some ((),(o10.2.1,(o12.1.1,()))))))) else none))
 else
 (bif o4.2.1.2.2.1 == 2 then
 ((Zow N o3.2.1).bind fun o13 =>
 (bif o13.2.2.1 == 0 then
 ((Z6 N o4.2.1 (ilen o4.2.1.2.2.2.2.2.1)).bind fun o14 =>
 (some ((),(o13.2.1,(o14.1.1,())))))
 else
 ((Zex N (o4.2.1.1,(o4.2.1.2.1,(o4.2.1.2.2.1,(o4.2.1.2.2.2.1,(o13.2.2.1,o4.2.1.2.2.2.2.2))))) 3).bind fun o15 =>
 (some ((),(o13.2.1,(o15.1.1,())))))))
 else
 (bif o4.2.1.2.2.1 == 3 then
 (bif inb o4.2.1.2.2.2.1 (List.length o4.2.1.2.2.2.2.2.2) then
 (bif inb (List.getD o4.2.1.2.2.2.2.2.2 (Int.toNat o4.2.1.2.2.2.1) 0) (List.length o3.2.1.2) then
 (bif (List.getD o3.2.1.2 (Int.toNat (List.getD o4.2.1.2.2.2.2.2.2 (Int.toNat o4.2.1.2.2.2.1) 0)) (0,0,0)).2.2 != 0 then
 (bif (List.getD o3.2.1.2 (Int.toNat (List.getD o4.2.1.2.2.2.2.2.2 (Int.toNat o4.2.1.2.2.2.1) 0)) (0,0,0)).2.2 != o4.2.1.1 then
 ((Z6 N o4.2.1 (ilen o4.2.1.2.2.2.2.2.1)).bind fun o16 =>
 (some ((),(o3.2.1,(o16.1.1,())))))
 else
 (bif decide ((List.getD o3.2.1.2 (Int.toNat (List.getD o4.2.1.2.2.2.2.2.2 (Int.toNat o4.2.1.2.2.2.1) 0)) (0,0,0)).2.1 > o4.2.1.2.1) then
 ((Z6 N o4.2.1 (ilen o4.2.1.2.2.2.2.2.1)).bind fun o17 =>
 (some ((),(o3.2.1,(o17.1.1,())))))
 else
 ((Zbm N o4.2.1 4).bind fun o18 =>
 (some ((),(o3.2.1,(o18.1.1,())))))))
 else
 (bif decide ((List.getD o3.2.1.2 (Int.toNat (List.getD o4.2.1.2.2.2.2.2.2 (Int.toNat o4.2.1.2.2.2.1) 0)) (0,0,0)).2.1 > o4.2.1.2.1) then
 ((Z6 N o4.2.1 (ilen o4.2.1.2.2.2.2.2.1)).bind fun o19 =>
 (some ((),(o3.2.1,(o19.1.1,())))))
 else
 ((Zbm N o4.2.1 4).bind fun o20 =>
 (some ((),(o3.2.1,(o20.1.1,()))))))) else none) else none)
 else
 (bif o4.2.1.2.2.1 == 4 then
 (bif inb o4.2.1.2.2.2.1 (List.length o4.2.1.2.2.2.2.2.1) then
 (bif inb o4.2.1.2.2.2.1 (List.length o4.2.1.2.2.2.2.2.1) then
 ((Znu N o3.2.1 (List.getD o4.2.1.2.2.2.2.2.1 (Int.toNat o4.2.1.2.2.2.1) (0,0)).1 o4.2.1.1 (List.getD o4.2.1.2.2.2.2.2.1 (Int.toNat o4.2.1.2.2.2.1) (0,0)).2).bind fun o21 =>
 ((Zbm N o4.2.1 5).bind fun o22 =>
 (some ((),(o21.2.1,(o22.1.1,())))))) else none) else none)
 else
 (bif o4.2.1.2.2.1 == 5 then
 (bif inb o4.2.1.2.2.2.1 (List.length o4.2.1.2.2.2.2.2.1) then
 ((Zkj N o3.2.1 (List.getD o4.2.1.2.2.2.2.2.1 (Int.toNat o4.2.1.2.2.2.1) (0,0)).1 o4.2.1.1 o4.2.1.2.2.2.2.1).bind fun o23 =>
 ((Zbm N o4.2.1 6).bind fun o24 =>
 (some ((),(o23.2.1,(o24.1.1,())))))) else none)
 else
 (bif o4.2.1.2.2.1 == 7 then
 (bif inb o4.2.1.2.2.2.1 (List.length o4.2.1.2.2.2.2.2.1) then
 (bif inb (List.getD o4.2.1.2.2.2.2.2.1 (Int.toNat o4.2.1.2.2.2.1) (0,0)).1 (List.length o3.2.1.2) then
 ((Zkj N o3.2.1 (List.getD o4.2.1.2.2.2.2.2.1 (Int.toNat o4.2.1.2.2.2.1) (0,0)).1 o4.2.1.1 (List.getD o3.2.1.2 (Int.toNat (List.getD o4.2.1.2.2.2.2.2.1 (Int.toNat o4.2.1.2.2.2.1) (0,0)).1) (0,0,0)).2.1).bind fun o25 =>
 ((Z6 N o4.2.1 o4.2.1.2.2.2.1).bind fun o26 =>
 (some ((),(o25.2.1,(o26.1.1,())))))) else none) else none)
 else
 (some ((),(o3.2.1,(o4.2.1,()))))))))))))))))
def Zgf (N:Nat) (w1:Y_World) (k2:Int):Option ((Y_World × Unit) × Unit) :=
    (bif inb k2 (List.length (P5 w1)) then
 (Wq (List.getD (P5 w1) (Int.toNat k2) d_Root) fun e9002 =>
 (bif (P11 e9002) then
 ((Zik N (P20 e9002)).bind fun bq2 =>
 (bif bq2.2.1.2.2.1 == 8 then
 ((Zbd N (S20 bq2.2.1 (S11 false e9002))).bind fun bq1 =>
 (some (((S5 (List.set (P5 w1) (Int.toNat k2) bq1.1.1) w1),()),())))
 else
 (some (((S5 (List.set (P5 w1) (Int.toNat k2) (S20 bq2.2.1 (S11 false e9002))) w1),()),()))))
 else
 (Wq (((Ziz N w1.2.2.1 (P20 e9002)).bind fun bq3 =>
 (Wq ((bif bq3.2.2.1.2.2.1 == 8 then
 ((Zbd N (S20 bq3.2.2.1 e9002)).bind fun bq1 =>
 (some (((S5 (List.set (P5 w1) (Int.toNat k2) bq1.1.1) (S2 bq3.2.1 w1)),()),())))
 else
 (bif bq3.2.2.1.2.2.1 == 6 then
 (bif (P7 e9002) == 2 then
 (some (((S5 (List.set (P5 w1) (Int.toNat k2) (S20 (0,(0,(0,(0,(0,(([]:List (Int × Int)),([]:List Int))))))) (S8 (P4 bq3.2.2.1) (S0 6 e9002)))) (S2 bq3.2.1 w1)),()),()))
 else
 (some (((S5 (List.set (P5 w1) (Int.toNat k2) (S20 (0,(0,(0,(0,(0,(([]:List (Int × Int)),([]:List Int))))))) (S8 (P4 bq3.2.2.1) (S0 7 e9002)))) (S2 bq3.2.1 w1)),()),())))
 else
 (some (((S5 (List.set (P5 w1) (Int.toNat k2) (S20 bq3.2.2.1 e9002)) (S2 bq3.2.1 w1)),()),())))):Option ((Y_World × Unit) × Unit)) fun e9001 =>
 (bif decide ((P20 e9002).2.2.1 ≤ 3) then
 (bif bq3.2.2.1.2.2.1 == 4 then
 ((Zbi N (P5 bq3.2.2.1)).bind fun bq2 =>
 (bif room ((List.length (Q6 w1)) + (List.length ([((P4 bq3.2.2.1),(iadd .i64 k2 (1:Int),bq2.2.1))]))) then
 (Wq (List.append (Q6 w1) ([((P4 bq3.2.2.1),(iadd .i64 k2 1,bq2.2.1))])) fun e9003 =>
 (bif bq3.2.2.1.2.2.1 == 8 then
 ((Zbd N (S20 bq3.2.2.1 e9002)).bind fun bq1 =>
 (some (((U6 e9003 (S5 (List.set (P5 w1) (Int.toNat k2) bq1.1.1) (S2 bq3.2.1 w1))),()),())))
 else
 (bif bq3.2.2.1.2.2.1 == 6 then
 (bif (P7 e9002) == 2 then
 (some (((U6 e9003 (S5 (List.set (P5 w1) (Int.toNat k2) (S20 (0,(0,(0,(0,(0,(([]:List (Int × Int)),([]:List Int))))))) (S8 (P4 bq3.2.2.1) (S0 6 e9002)))) (S2 bq3.2.1 w1))),()),()))
 else
 (some (((U6 e9003 (S5 (List.set (P5 w1) (Int.toNat k2) (S20 (0,(0,(0,(0,(0,(([]:List (Int × Int)),([]:List Int))))))) (S8 (P4 bq3.2.2.1) (S0 7 e9002)))) (S2 bq3.2.1 w1))),()),())))
 else
 (some (((U6 e9003 (S5 (List.set (P5 w1) (Int.toNat k2) (S20 bq3.2.2.1 e9002)) (S2 bq3.2.1 w1))),()),()))))) else none))
 else
 e9001)
 else
 e9001))):Option ((Y_World × Unit) × Unit)) fun e9000 =>
 (both
 e9000
 (both
 e9000
 (both
 e9000
 (both
 e9000
 (both
 e9000
 e9000)))))))) else none)
def Zfy (N:Nat) (h1:Int × Int × Int) (a2:Int):Option ((Int × Unit) × (Bool × Unit)) :=
    (some ((a2,()),(h1.1 == a2,())))
def Zl {R:Type} (N:Nat) (s3:List (Int × Int × Int)) (K0:Int → Int → Option R) (K1:Int → Bool → Int → Option R):Nat → Int → Int → Option R
  | 0,_,_=>none
  | n + 1,t5,b6 =>
    (bif decide (t5 < (ilen s3)) then
 (bif inb t5 (List.length s3) then
 ((Zfy N (List.getD s3 (Int.toNat t5) (0,0,0)) b6).bind fun o14 =>
 (bif o14.2.1 then
 (K0 t5 o14.1.1)
 else
 (Zl N s3 K0 K1 n (iadd .i64 t5 1) o14.1.1))) else none)
 else
 (K1 t5 (decide (t5 < (ilen s3))) b6))
def Zp (N:Nat) (s1:List (Int × Int × Int)) (cap2:Int):Option ((Int × Unit) × (Int × Unit)) :=
    (Zl N s1
 (fun t15 b16 =>
   (some ((b16,()),(t15,()))))
 (fun t17 t18 b19 =>
   (some ((b19,()),((-1:Int),()))))
  N 0 cap2)
def Zd {R:Type} (N:Nat) (K0:Int → Int → Bool → (List (Int × Int × Int)) → Int → Option R):Nat → Int → Int → (List (Int × Int × Int)) → Int → Option R
  | 0,_,_,_,_=>none
  | n + 1,i4,j5,l6,b7 =>
    (bif decide (j5 < (ilen l6)) then
 (bif inb j5 (List.length l6) then
 ((Zfy N (List.getD l6 (Int.toNat j5) (0,0,0)) b7).bind fun o14 =>
 (bif !o14.2.1 then
 (bif inb i4 (List.length l6) then
 (Zd N K0 n (iadd .i64 i4 1) (iadd .i64 j5 1) (List.set l6 (Int.toNat i4) (List.getD l6 (Int.toNat j5) (0,0,0))) o14.1.1) else none)
 else
 (Zd N K0 n i4 (iadd .i64 j5 1) l6 o14.1.1))) else none)
 else
 (K0 i4 j5 (decide (j5 < (ilen l6))) l6 b7))
def Zh (N:Nat) (s1:List (Int × Int × Int)) (cap2:Int):Option ((Int × Unit) × ((List (Int × Int × Int)) × Unit)) :=
    ((Zp N s1 cap2).bind fun o3 =>
 (bif o3.2.1 == (-1:Int) then
 (some ((o3.1.1,()),(s1,())))
 else
 (Zd N
 (fun i15 j16 t17 l18 b19 =>
   (bif (decide ((0:Int) ≤ i15)) && (decide (i15 ≤ ((List.length l18):Int))) then
 (bif (decide ((0:Int) ≤ i15)) && (decide (i15 ≤ ((List.length ((List.take (Int.toNat i15) l18) ++ List.replicate ((List.length l18) - (Int.toNat i15)) (0,0,0) ++ (List.drop (List.length l18) l18))):Int))) then
 (some ((b19,()),(List.take (Int.toNat i15) ((List.take (Int.toNat i15) l18) ++ List.replicate ((List.length l18) - (Int.toNat i15)) (0,0,0) ++ (List.drop (List.length l18) l18)),()))) else none) else none))
  N o3.2.1 (iadd .i64 o3.2.1 1) s1 o3.1.1)))
def Zky (N:Nat) (l1:List (Int × Int × Int)) (who2:Int):Option (Unit × ((List (Int × Int × Int)) × Unit)) :=
    ((Zek N l1).bind fun o3 =>
 ((Zce N l1).bind fun o4 =>
 (bif !o4.2.1 then
 (some ((),(o3.2.1,())))
 else
 ((Zh N o3.2.1 who2).bind fun o5 =>
 (some ((),(o5.2.1,())))))))
def Zhb (N:Nat) (w1:Y_World) (k2:Int) (p3:List (Int × Int × Int × Int) × List (List (Int × Int × Int × Int))):Option ((Y_World × Unit) × Unit) :=
    (Wq (List.getD (P5 w1) (Int.toNat k2) d_Root) fun e9001 =>
 (bif inb k2 (List.length (P5 w1)) then
 (Wq ((Wq (List.set (P5 w1) (Int.toNat k2) e9001) fun e9002 =>
 (bif e9001.1 == 0 then
 ((Zch N (S5 e9002 w1) k2).bind fun bq1 =>
 (some ((bq1.1.1,()),())))
 else
 (bif e9001.1 == 1 then
 ((Zht N (S5 e9002 w1) k2 p3).bind fun bq1 =>
 (some ((bq1.1.1,()),())))
 else
 (bif e9001.1 == 2 then
 ((Zhu N e9001).bind fun bq1 =>
 (some (((S5 (List.set (P5 w1) (Int.toNat k2) bq1.1.1) w1),()),())))
 else
 (bif e9001.1 == 3 then
 ((Zdr N e9001).bind fun bq2 =>
 (bif decide ((ilen (P16 e9001)) > bq2.2.1.2.2.2) then
 ((Zci N (S5 e9002 w1) (Int.toNat k2)).bind fun bq1 =>
 (some ((bq1.1.1,()),())))
 else
 (some (((S5 (List.set (P5 w1) (Int.toNat k2) (S6 0 (S5 w1.2.2.1.1 (S0 4 e9001)))) w1),()),()))))
 else
 (bif e9001.1 == 4 then
 ((Zge N (S5 e9002 w1) (Int.toNat k2)).bind fun bq1 =>
 (some ((bq1.1.1,()),())))
 else
 (bif e9001.1 == 5 then
 ((Zgf N (S5 e9002 w1) k2).bind fun bq1 =>
 (some ((bq1.1.1,()),())))
 else
 (bif e9001.1 == 6 then
 (bif decide ((ilen (P16 e9001)) > 0) then
 ((Zci N (S5 e9002 w1) (Int.toNat k2)).bind fun bq1 =>
 (some ((bq1.1.1,()),())))
 else
 (some (((S5 (List.set (P5 w1) (Int.toNat k2) (7,e9001.2)) w1),()),())))
 else
 (bif e9001.1 == 7 then
 ((Zky N (P4 w1) (iadd .i64 k2 1)).bind fun bq2 =>
 (bif (P7 e9001) == 0 then
 (some (((S5 (List.set (P5 w1) (Int.toNat k2) (0,(iadd .i64 e9001.2.1 1,(0,(0,(0,(0,(0,(0,(0,(0,(0,(false,(([]:List Int),(([]:List (Int × Int)),(([]:List (Int × Int)),(([]:List (Int × Int × Int × Int × List Int)),(([]:List (Int × Int × Int)),(([]:List Int),(false,((0,0,0,0),((0,(0,(0,(0,(0,(([]:List (Int × Int)),([]:List Int))))))),d_Family)))))))))))))))))))))) (S4 bq2.2.1 w1)),()),()))
 else
 ((Zgh N (S5 e9002 (S4 bq2.2.1 w1)) k2).bind fun bq1 =>
 (some ((bq1.1.1,()),())))))
 else
 (some (((S5 e9002 w1),()),()))))))))))):Option ((Y_World × Unit) × Unit)) fun e9000 =>
 (bif (P11 e9001) then
 ((Zm N e9001.1 1 4).bind fun bq3 =>
 (bif bq3.2.1 then
 ((Zbd N e9001).bind fun bq1 =>
 (some (((S5 (List.set (P5 w1) (Int.toNat k2) bq1.1.1) w1),()),())))
 else
 e9000))
 else
 e9000)) else none))
def Zcw (N:Nat) (w1:Y_World) (s2:(List Int × List Int × Int) × List (List (Int × Int × Int × Int) × List (List (Int × Int × Int × Int))) × List (Int × Int × Int)) (a3:Int × Int × Int):Option ((Y_World × Unit) × Unit) :=
    ((Zm N a3.2.1 0 (isub .i64 (ilen (P5 w1)) 1)).bind fun bq3 =>
 (bif !bq3.2.1 then
 (some (((iadd .i64 w1.1 1,w1.2),()),()))
 else
 (bif inb a3.2.1 (List.length (P5 w1)) then
 (Wq (List.getD (P5 w1) (Int.toNat a3.2.1) d_Root) fun e9001 =>
 (bif inb a3.2.1 (List.length s2.2.1) then
 (Wq (iadd .i64 w1.1 1,(S4 (List.set (P5 w1) (Int.toNat a3.2.1) e9001) w1.2)) fun e9000 =>
 (Wq (List.getD s2.2.1 (Int.toNat a3.2.1) (([]:List (Int × Int × Int × Int)),([]:List (List (Int × Int × Int × Int))))) fun e9002 =>
 (bif a3.1 == 1 then
 ((Zhb N e9000 a3.2.1 e9002).bind fun bq1 =>
 (some ((bq1.1.1,()),())))
 else
 (bif a3.1 == 2 then
 (bif e9001.1 == 2 then
 ((Zm N a3.2.2 0 (isub .i64 (ilen e9002.2) 1)).bind fun bq2 =>
 (bif bq2.2.1 then
 (bif inb a3.2.2 (List.length e9002.2) then
 ((Zif N (Q21 e9001) a3.2.2 (List.getD e9002.2 (Int.toNat a3.2.2) ([]:List (Int × Int × Int × Int))) w1.2.2.1).bind fun bq1 =>
 (some (((iadd .i64 w1.1 1,(S4 (List.set (P5 w1) (Int.toNat a3.2.1) (U21 bq1.1.1 e9001)) w1.2)),()),()))) else none)
 else
 (some ((e9000,()),()))))
 else
 (some ((e9000,()),())))
 else
 (bif a3.1 == 3 then
 ((Zm N e9001.1 1 4).bind fun bq1 =>
 (Wq (iadd .i64 w1.1 1,(S4 (List.set (P5 w1) (Int.toNat a3.2.1) (S11 true e9001)) w1.2)) fun e9003 =>
 (bif bq1.2.1 then
 (some ((e9003,()),()))
 else
 (bif e9001.1 == 5 then
 (bif decide ((P20 e9001).2.2.1 ≤ 3) then
 (some ((e9003,()),()))
 else
 (some ((e9000,()),())))
 else
 (some ((e9000,()),()))))))
 else
 (some ((e9000,()),()))))))) else none)) else none)))
def Zav {R:Type} (N:Nat) (t5:List (Int × Int × Int)) (b8:(List Int × List Int × Int) × List (List (Int × Int × Int × Int) × List (List (Int × Int × Int × Int))) × List (Int × Int × Int)) (K0:Int → Bool → Int → Int → Int → Int → (List (Int × Int × Int)) → (List Int) → (List (Int × Int × Int)) → (List Y_Root) → (List (Int × Int × List (Int × Int))) → Option R):Nat → Int → Int → Int → Int → Int → (List (Int × Int × Int)) → (List Int) → (List (Int × Int × Int)) → (List Y_Root) → (List (Int × Int × List (Int × Int))) → Option R
  | 0,_,_,_,_,_,_,_,_,_,_=>none
  | n + 1,t7,b13,b14,b15,b16,l17,l18,l19,l20,l21 =>
    (bif decide (t7 < (ilen b8.2.2)) then
 (bif inb t7 (List.length t5) then
 ((Zcw N (b13,(b14,((b15,l17),((l18,b16),(l19,(l20,l21)))))) b8 (List.getD t5 (Int.toNat t7) (0,0,0))).bind fun bq1 =>
 (Zav N t5 b8 K0 n (iadd .i64 t7 1) bq1.1.1.1 bq1.1.1.2.1 bq1.1.1.2.2.1.1 bq1.1.1.2.2.2.1.2 bq1.1.1.2.2.1.2 bq1.1.1.2.2.2.1.1 (P4 bq1.1.1) (P5 bq1.1.1) (Q6 bq1.1.1))) else none)
 else
 (K0 t7 (decide (t7 < (ilen b8.2.2))) b13 b14 b15 b16 l17 l18 l19 l20 l21))
def Zey (N:Nat) (s1:(List Int × List Int × Int) × List (List (Int × Int × Int × Int) × List (List (Int × Int × Int × Int))) × List (Int × Int × Int)):Option (Unit × (Y_World × Unit)) :=
    ((Zg2 N s1).bind fun o2 =>
 (bif !o2.2.1 then
 (some ((),(d_World,())))
 else
 (both
 ((Z2 N s1.1.2.1).bind fun o3 =>
 (bif ((decide ((0:Int) ≤ (ilen s1.2.1))) && (decide ((ilen s1.2.1) ≤ (ilen s1.2.1)))) && (room (Int.toNat (ilen s1.2.1))) then
 ((Zak N s1.1.1).bind fun o4 =>
 (Zav N s1.2.2 s1
 (fun t36 t37 b38 b39 b40 b41 l42 l43 l44 l45 l46 =>
   (some ((),((b38,(b39,((b40,l42),((l43,b41),(l44,(l45,l46)))))),()))))
  N 0 0 0 o4.2.1.1 s1.1.2.2 o4.2.1.2 o3.2.1 ([]:List (Int × Int × Int)) (List.replicate (Int.toNat (ilen s1.2.1)) d_Root) ([]:List (Int × Int × List (Int × Int))))) else none))
 (both
 ((Z2 N s1.1.2.1).bind fun o3 =>
 (bif ((decide ((0:Int) ≤ (ilen s1.2.1))) && (decide ((ilen s1.2.1) ≤ (ilen s1.2.1)))) && (room (Int.toNat (ilen s1.2.1))) then
 ((Zak N s1.1.1).bind fun o4 =>
 (Zav N s1.2.2 s1
 (fun t36 t37 b38 b39 b40 b41 l42 l43 l44 l45 l46 =>
   (some ((),((b38,(b39,((b40,l42),((l43,b41),(l44,(l45,l46)))))),()))))
  N 0 0 0 o4.2.1.1 s1.1.2.2 o4.2.1.2 o3.2.1 ([]:List (Int × Int × Int)) (List.replicate (Int.toNat (ilen s1.2.1)) d_Root) ([]:List (Int × Int × List (Int × Int))))) else none))
 (both
 (bif ((decide ((0:Int) ≤ (ilen s1.2.1))) && (decide ((ilen s1.2.1) ≤ (ilen s1.2.1)))) && (room (Int.toNat (ilen s1.2.1))) then
 ((Z2 N s1.1.2.1).bind fun o60 =>
 ((Zak N s1.1.1).bind fun o61 =>
 (Zav N s1.2.2 s1
 (fun t62 t63 b64 b65 b66 b67 l68 l69 l70 l71 l72 =>
   (some ((),((b64,(b65,((b66,l68),((l69,b67),(l70,(l71,l72)))))),()))))
  N 0 0 0 o61.2.1.1 s1.1.2.2 o61.2.1.2 o60.2.1 ([]:List (Int × Int × Int)) (List.replicate (Int.toNat (ilen s1.2.1)) d_Root) ([]:List (Int × Int × List (Int × Int)))))) else none)
 (both
 (bif ((decide ((0:Int) ≤ (ilen s1.2.1))) && (decide ((ilen s1.2.1) ≤ (ilen s1.2.1)))) && (room (Int.toNat (ilen s1.2.1))) then
 ((Z2 N s1.1.2.1).bind fun o60 =>
 ((Zak N s1.1.1).bind fun o61 =>
 (Zav N s1.2.2 s1
 (fun t62 t63 b64 b65 b66 b67 l68 l69 l70 l71 l72 =>
   (some ((),((b64,(b65,((b66,l68),((l69,b67),(l70,(l71,l72)))))),()))))
  N 0 0 0 o61.2.1.1 s1.1.2.2 o61.2.1.2 o60.2.1 ([]:List (Int × Int × Int)) (List.replicate (Int.toNat (ilen s1.2.1)) d_Root) ([]:List (Int × Int × List (Int × Int)))))) else none)
 (both
 ((Z2 N s1.1.2.1).bind fun o3 =>
 (bif ((decide ((0:Int) ≤ (ilen s1.2.1))) && (decide ((ilen s1.2.1) ≤ (ilen s1.2.1)))) && (room (Int.toNat (ilen s1.2.1))) then
 ((Zak N s1.1.1).bind fun o4 =>
 (Zav N s1.2.2 s1
 (fun t36 t37 b38 b39 b40 b41 l42 l43 l44 l45 l46 =>
   (some ((),((b38,(b39,((b40,l42),((l43,b41),(l44,(l45,l46)))))),()))))
  N 0 0 0 o4.2.1.1 s1.1.2.2 o4.2.1.2 o3.2.1 ([]:List (Int × Int × Int)) (List.replicate (Int.toNat (ilen s1.2.1)) d_Root) ([]:List (Int × Int × List (Int × Int))))) else none))
 (bif ((decide ((0:Int) ≤ (ilen s1.2.1))) && (decide ((ilen s1.2.1) ≤ (ilen s1.2.1)))) && (room (Int.toNat (ilen s1.2.1))) then
 ((Z2 N s1.1.2.1).bind fun o60 =>
 ((Zak N s1.1.1).bind fun o61 =>
 (Zav N s1.2.2 s1
 (fun t62 t63 b64 b65 b66 b67 l68 l69 l70 l71 l72 =>
   (some ((),((b64,(b65,((b66,l68),((l69,b67),(l70,(l71,l72)))))),()))))
  N 0 0 0 o61.2.1.1 s1.1.2.2 o61.2.1.2 o60.2.1 ([]:List (Int × Int × Int)) (List.replicate (Int.toNat (ilen s1.2.1)) d_Root) ([]:List (Int × Int × List (Int × Int)))))) else none))))))))
def Zbb {R:Type} (N:Nat) (t5:List (Int × Int × Int)) (b8:(List Int × List Int × Int) × List (List (Int × Int × Int × Int) × List (List (Int × Int × Int × Int))) × List (Int × Int × Int)) (K0:Int → Bool → Int → Int → Int → Int → (List (Int × Int × Int)) → (List Int) → (List (Int × Int × Int)) → (List Y_Root) → (List (Int × Int × List (Int × Int))) → Option R):Nat → Int → Int → Int → Int → Int → (List (Int × Int × Int)) → (List Int) → (List (Int × Int × Int)) → (List Y_Root) → (List (Int × Int × List (Int × Int))) → Option R
  | 0,_,_,_,_,_,_,_,_,_,_=>none
  | n + 1,t7,b13,b14,b15,b16,l17,l18,l19,l20,l21 =>
    (bif decide (t7 < (ilen b8.2.2)) then
 (bif inb t7 (List.length t5) then
 ((Zcw N (b13,(b14,((b15,l17),((l18,b16),(l19,(l20,l21)))))) b8 (List.getD t5 (Int.toNat t7) (0,0,0))).bind fun bq1 =>
 (Zbb N t5 b8 K0 n (iadd .i64 t7 1) bq1.1.1.1 bq1.1.1.2.1 bq1.1.1.2.2.1.1 bq1.1.1.2.2.2.1.2 bq1.1.1.2.2.1.2 bq1.1.1.2.2.2.1.1 (P4 bq1.1.1) (P5 bq1.1.1) (Q6 bq1.1.1))) else none)
 else
 (K0 t7 (decide (t7 < (ilen b8.2.2))) b13 b14 b15 b16 l17 l18 l19 l20 l21))
def Zhh (N:Nat) (s1:(List Int × List Int × Int) × List (List (Int × Int × Int × Int) × List (List (Int × Int × Int × Int))) × List (Int × Int × Int)):Option (Unit × (Y_World × Unit)) :=
    ((Zg2 N s1).bind fun o2 =>
 (bif !o2.2.1 then
 (some ((),(d_World,())))
 else
 (both
 ((Z2 N s1.1.2.1).bind fun o3 =>
 (bif ((decide ((0:Int) ≤ (ilen s1.2.1))) && (decide ((ilen s1.2.1) ≤ (ilen s1.2.1)))) && (room (Int.toNat (ilen s1.2.1))) then
 ((Zak N s1.1.1).bind fun o4 =>
 (Zbb N s1.2.2 s1
 (fun t36 t37 b38 b39 b40 b41 l42 l43 l44 l45 l46 =>
   (some ((),((b38,(b39,((b40,l42),((l43,b41),(l44,(l45,l46)))))),()))))
  N 0 0 0 o4.2.1.1 s1.1.2.2 o4.2.1.2 o3.2.1 ([]:List (Int × Int × Int)) (List.replicate (Int.toNat (ilen s1.2.1)) d_Root) ([]:List (Int × Int × List (Int × Int))))) else none))
 (both
 ((Z2 N s1.1.2.1).bind fun o3 =>
 (bif ((decide ((0:Int) ≤ (ilen s1.2.1))) && (decide ((ilen s1.2.1) ≤ (ilen s1.2.1)))) && (room (Int.toNat (ilen s1.2.1))) then
 ((Zak N s1.1.1).bind fun o4 =>
 (Zbb N s1.2.2 s1
 (fun t36 t37 b38 b39 b40 b41 l42 l43 l44 l45 l46 =>
   (some ((),((b38,(b39,((b40,l42),((l43,b41),(l44,(l45,l46)))))),()))))
  N 0 0 0 o4.2.1.1 s1.1.2.2 o4.2.1.2 o3.2.1 ([]:List (Int × Int × Int)) (List.replicate (Int.toNat (ilen s1.2.1)) d_Root) ([]:List (Int × Int × List (Int × Int))))) else none))
 (both
 (bif ((decide ((0:Int) ≤ (ilen s1.2.1))) && (decide ((ilen s1.2.1) ≤ (ilen s1.2.1)))) && (room (Int.toNat (ilen s1.2.1))) then
 ((Z2 N s1.1.2.1).bind fun o60 =>
 ((Zak N s1.1.1).bind fun o61 =>
 (Zbb N s1.2.2 s1
 (fun t62 t63 b64 b65 b66 b67 l68 l69 l70 l71 l72 =>
   (some ((),((b64,(b65,((b66,l68),((l69,b67),(l70,(l71,l72)))))),()))))
  N 0 0 0 o61.2.1.1 s1.1.2.2 o61.2.1.2 o60.2.1 ([]:List (Int × Int × Int)) (List.replicate (Int.toNat (ilen s1.2.1)) d_Root) ([]:List (Int × Int × List (Int × Int)))))) else none)
 (both
 (bif ((decide ((0:Int) ≤ (ilen s1.2.1))) && (decide ((ilen s1.2.1) ≤ (ilen s1.2.1)))) && (room (Int.toNat (ilen s1.2.1))) then
 ((Z2 N s1.1.2.1).bind fun o60 =>
 ((Zak N s1.1.1).bind fun o61 =>
 (Zbb N s1.2.2 s1
 (fun t62 t63 b64 b65 b66 b67 l68 l69 l70 l71 l72 =>
   (some ((),((b64,(b65,((b66,l68),((l69,b67),(l70,(l71,l72)))))),()))))
  N 0 0 0 o61.2.1.1 s1.1.2.2 o61.2.1.2 o60.2.1 ([]:List (Int × Int × Int)) (List.replicate (Int.toNat (ilen s1.2.1)) d_Root) ([]:List (Int × Int × List (Int × Int)))))) else none)
 (both
 ((Z2 N s1.1.2.1).bind fun o3 =>
 (bif ((decide ((0:Int) ≤ (ilen s1.2.1))) && (decide ((ilen s1.2.1) ≤ (ilen s1.2.1)))) && (room (Int.toNat (ilen s1.2.1))) then
 ((Zak N s1.1.1).bind fun o4 =>
 (Zbb N s1.2.2 s1
 (fun t36 t37 b38 b39 b40 b41 l42 l43 l44 l45 l46 =>
   (some ((),((b38,(b39,((b40,l42),((l43,b41),(l44,(l45,l46)))))),()))))
  N 0 0 0 o4.2.1.1 s1.1.2.2 o4.2.1.2 o3.2.1 ([]:List (Int × Int × Int)) (List.replicate (Int.toNat (ilen s1.2.1)) d_Root) ([]:List (Int × Int × List (Int × Int))))) else none))
 (bif ((decide ((0:Int) ≤ (ilen s1.2.1))) && (decide ((ilen s1.2.1) ≤ (ilen s1.2.1)))) && (room (Int.toNat (ilen s1.2.1))) then
 ((Z2 N s1.1.2.1).bind fun o60 =>
 ((Zak N s1.1.1).bind fun o61 =>
 (Zbb N s1.2.2 s1
 (fun t62 t63 b64 b65 b66 b67 l68 l69 l70 l71 l72 =>
   (some ((),((b64,(b65,((b66,l68),((l69,b67),(l70,(l71,l72)))))),()))))
  N 0 0 0 o61.2.1.1 s1.1.2.2 o61.2.1.2 o60.2.1 ([]:List (Int × Int × Int)) (List.replicate (Int.toNat (ilen s1.2.1)) d_Root) ([]:List (Int × Int × List (Int × Int)))))) else none))))))))
def Zil (N:Nat) (code1:List Int):Option (Unit × (((List Int × List Int × Int) × List (List (Int × Int × Int × Int) × List (List (Int × Int × Int × Int))) × List (Int × Int × Int)) × Unit)) :=
    ((Zgs N code1).bind fun o2 =>
 ((Zf6 N o2.2.1 150).bind fun o3 =>
 (some ((),(o3.2.1,())))))
def Zan {R:Type} (N:Nat) (t4:List (Int × Int × Int)) (t5:Int) (b7:List Int) (b8:List Int) (b9:Int) (b10:List (List (Int × Int × Int × Int) × List (List (Int × Int × Int × Int)))) (K0:Int → Bool → (List (Int × Int × Int × Int)) → Int → Int → Int → Int → (List (Int × Int × Int)) → (List Int) → (List (Int × Int × Int)) → (List Y_Root) → (List (Int × Int × List (Int × Int))) → Option R):Nat → Int → (List (Int × Int × Int × Int)) → Int → Int → Int → Int → (List (Int × Int × Int)) → (List Int) → (List (Int × Int × Int)) → (List Y_Root) → (List (Int × Int × List (Int × Int))) → Option R
  | 0,_,_,_,_,_,_,_,_,_,_,_=>none
  | n + 1,t6,l11,b12,b13,b14,b15,l16,l17,l18,l19,l20 =>
    (bif decide (t6 < t5) then
 (bif inb t6 (List.length t4) then
 (Wq (List.getD t4 (Int.toNat t6) (0,0,0)) fun e9000 =>
 ((Zm N e9000.2.1 0 (isub .i64 (ilen l19) 1)).bind fun bq2 =>
 (Wq (iadd .i64 t6 1) fun e9002 =>
 (bif bq2.2.1 then
 (bif inb e9000.2.1 (List.length l19) then
 ((Zcw N (b12,(b13,((b14,l16),((l17,b15),(l18,(l19,l20)))))) ((b7,(b8,b9)),(b10,([]:List (Int × Int × Int)))) e9000).bind fun bq1 =>
 (Wq (List.getD l19 (Int.toNat e9000.2.1) d_Root) fun e9001 =>
 (bif decide (e9001.1 ≥ 0) then
 (bif inb e9000.2.1 (List.length (P5 bq1.1.1)) then
 (bif (List.getD (P5 bq1.1.1) (Int.toNat e9000.2.1) d_Root).1 != e9001.1 then
 (bif inb e9000.2.1 (List.length (P5 bq1.1.1)) then
 (bif room ((List.length l11) + (List.length ([(t6,(e9000.2.1,(e9001.1,(List.getD (P5 bq1.1.1) (Int.toNat e9000.2.1) d_Root).1)))]))) then
 (Zan N t4 t5 b7 b8 b9 b10 K0 n e9002 (List.append l11 ([(t6,(e9000.2.1,(e9001.1,(List.getD (P5 bq1.1.1) (Int.toNat e9000.2.1) d_Root).1)))])) bq1.1.1.1 bq1.1.1.2.1 bq1.1.1.2.2.1.1 bq1.1.1.2.2.2.1.2 bq1.1.1.2.2.1.2 bq1.1.1.2.2.2.1.1 (P4 bq1.1.1) (P5 bq1.1.1) (Q6 bq1.1.1)) else none) else none)
 else
 (Zan N t4 t5 b7 b8 b9 b10 K0 n e9002 l11 bq1.1.1.1 bq1.1.1.2.1 bq1.1.1.2.2.1.1 bq1.1.1.2.2.2.1.2 bq1.1.1.2.2.1.2 bq1.1.1.2.2.2.1.1 (P4 bq1.1.1) (P5 bq1.1.1) (Q6 bq1.1.1))) else none)
 else
 (Zan N t4 t5 b7 b8 b9 b10 K0 n e9002 l11 bq1.1.1.1 bq1.1.1.2.1 bq1.1.1.2.2.1.1 bq1.1.1.2.2.2.1.2 bq1.1.1.2.2.1.2 bq1.1.1.2.2.2.1.1 (P4 bq1.1.1) (P5 bq1.1.1) (Q6 bq1.1.1))))) else none)
 else
 ((Zcw N (b12,(b13,((b14,l16),((l17,b15),(l18,(l19,l20)))))) ((b7,(b8,b9)),(b10,([]:List (Int × Int × Int)))) e9000).bind fun bq1 =>
 (bif decide ((-1:Int) ≥ 0) then
 (bif inb e9000.2.1 (List.length (P5 bq1.1.1)) then
 (bif (List.getD (P5 bq1.1.1) (Int.toNat e9000.2.1) d_Root).1 != (-1:Int) then
 (bif inb e9000.2.1 (List.length (P5 bq1.1.1)) then
 (bif room ((List.length l11) + (List.length ([(t6,(e9000.2.1,((-1:Int),(List.getD (P5 bq1.1.1) (Int.toNat e9000.2.1) d_Root).1)))]))) then
 (Zan N t4 t5 b7 b8 b9 b10 K0 n e9002 (List.append l11 ([(t6,(e9000.2.1,((-1:Int),(List.getD (P5 bq1.1.1) (Int.toNat e9000.2.1) d_Root).1)))])) bq1.1.1.1 bq1.1.1.2.1 bq1.1.1.2.2.1.1 bq1.1.1.2.2.2.1.2 bq1.1.1.2.2.1.2 bq1.1.1.2.2.2.1.1 (P4 bq1.1.1) (P5 bq1.1.1) (Q6 bq1.1.1)) else none) else none)
 else
 (Zan N t4 t5 b7 b8 b9 b10 K0 n e9002 l11 bq1.1.1.1 bq1.1.1.2.1 bq1.1.1.2.2.1.1 bq1.1.1.2.2.2.1.2 bq1.1.1.2.2.1.2 bq1.1.1.2.2.2.1.1 (P4 bq1.1.1) (P5 bq1.1.1) (Q6 bq1.1.1))) else none)
 else
 (Zan N t4 t5 b7 b8 b9 b10 K0 n e9002 l11 bq1.1.1.1 bq1.1.1.2.1 bq1.1.1.2.2.1.1 bq1.1.1.2.2.2.1.2 bq1.1.1.2.2.1.2 bq1.1.1.2.2.2.1.1 (P4 bq1.1.1) (P5 bq1.1.1) (Q6 bq1.1.1)))))))) else none)
 else
 (K0 t6 (decide (t6 < t5)) l11 b12 b13 b14 b15 l16 l17 l18 l19 l20))
end
end Go.Sx
