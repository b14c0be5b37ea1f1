/- Steps of code, with what a step leaves; facts that a step may use. -/
import Derived.Test.YtdlfdoicheakoaaEval
namespace Go.Proofs.Ytdlfdoicheakoaa.X
open Go Go.Proofs
/-- Facts, as one. -/
structure Fx (p : Prop) : Prop where
  h : p
theorem fz0 : Fx True := ⟨trivial⟩
theorem fz1 {a : Prop} (x : a) : Fx a := ⟨x⟩
theorem fz2 {a0 a1 : Prop} (x0 : a0) (x1 : a1) : Fx (a0 ∧ a1) := ⟨x0, x1⟩
theorem fz3 {a0 a1 a2 : Prop} (x0 : a0) (x1 : a1) (x2 : a2) : Fx (a0 ∧ a1 ∧ a2) := ⟨x0, x1, x2⟩
theorem fz4 {a0 a1 a2 a3 : Prop} (x0 : a0) (x1 : a1) (x2 : a2) (x3 : a3) : Fx (a0 ∧ a1 ∧ a2 ∧ a3) := ⟨x0, x1, x2, x3⟩
theorem fz5 {a0 a1 a2 a3 a4 : Prop} (x0 : a0) (x1 : a1) (x2 : a2) (x3 : a3) (x4 : a4) : Fx (a0 ∧ a1 ∧ a2 ∧ a3 ∧ a4) := ⟨x0, x1, x2, x3, x4⟩
theorem fz6 {a0 a1 a2 a3 a4 a5 : Prop} (x0 : a0) (x1 : a1) (x2 : a2) (x3 : a3) (x4 : a4) (x5 : a5) : Fx (a0 ∧ a1 ∧ a2 ∧ a3 ∧ a4 ∧ a5) := ⟨x0, x1, x2, x3, x4, x5⟩
theorem fz7 {a0 a1 a2 a3 a4 a5 a6 : Prop} (x0 : a0) (x1 : a1) (x2 : a2) (x3 : a3) (x4 : a4) (x5 : a5) (x6 : a6) : Fx (a0 ∧ a1 ∧ a2 ∧ a3 ∧ a4 ∧ a5 ∧ a6) := ⟨x0, x1, x2, x3, x4, x5, x6⟩
theorem fz8 {a0 a1 a2 a3 a4 a5 a6 a7 : Prop} (x0 : a0) (x1 : a1) (x2 : a2) (x3 : a3) (x4 : a4) (x5 : a5) (x6 : a6) (x7 : a7) : Fx (a0 ∧ a1 ∧ a2 ∧ a3 ∧ a4 ∧ a5 ∧ a6 ∧ a7) := ⟨x0, x1, x2, x3, x4, x5, x6, x7⟩
theorem fz9 {a0 a1 a2 a3 a4 a5 a6 a7 a8 : Prop} (x0 : a0) (x1 : a1) (x2 : a2) (x3 : a3) (x4 : a4) (x5 : a5) (x6 : a6) (x7 : a7) (x8 : a8) : Fx (a0 ∧ a1 ∧ a2 ∧ a3 ∧ a4 ∧ a5 ∧ a6 ∧ a7 ∧ a8) := ⟨x0, x1, x2, x3, x4, x5, x6, x7, x8⟩
theorem fz10 {a0 a1 a2 a3 a4 a5 a6 a7 a8 a9 : Prop} (x0 : a0) (x1 : a1) (x2 : a2) (x3 : a3) (x4 : a4) (x5 : a5) (x6 : a6) (x7 : a7) (x8 : a8) (x9 : a9) : Fx (a0 ∧ a1 ∧ a2 ∧ a3 ∧ a4 ∧ a5 ∧ a6 ∧ a7 ∧ a8 ∧ a9) := ⟨x0, x1, x2, x3, x4, x5, x6, x7, x8, x9⟩
theorem fz11 {a0 a1 a2 a3 a4 a5 a6 a7 a8 a9 a10 : Prop} (x0 : a0) (x1 : a1) (x2 : a2) (x3 : a3) (x4 : a4) (x5 : a5) (x6 : a6) (x7 : a7) (x8 : a8) (x9 : a9) (x10 : a10) : Fx (a0 ∧ a1 ∧ a2 ∧ a3 ∧ a4 ∧ a5 ∧ a6 ∧ a7 ∧ a8 ∧ a9 ∧ a10) := ⟨x0, x1, x2, x3, x4, x5, x6, x7, x8, x9, x10⟩
theorem fz12 {a0 a1 a2 a3 a4 a5 a6 a7 a8 a9 a10 a11 : Prop} (x0 : a0) (x1 : a1) (x2 : a2) (x3 : a3) (x4 : a4) (x5 : a5) (x6 : a6) (x7 : a7) (x8 : a8) (x9 : a9) (x10 : a10) (x11 : a11) : Fx (a0 ∧ a1 ∧ a2 ∧ a3 ∧ a4 ∧ a5 ∧ a6 ∧ a7 ∧ a8 ∧ a9 ∧ a10 ∧ a11) := ⟨x0, x1, x2, x3, x4, x5, x6, x7, x8, x9, x10, x11⟩
theorem fz13 {a0 a1 a2 a3 a4 a5 a6 a7 a8 a9 a10 a11 a12 : Prop} (x0 : a0) (x1 : a1) (x2 : a2) (x3 : a3) (x4 : a4) (x5 : a5) (x6 : a6) (x7 : a7) (x8 : a8) (x9 : a9) (x10 : a10) (x11 : a11) (x12 : a12) : Fx (a0 ∧ a1 ∧ a2 ∧ a3 ∧ a4 ∧ a5 ∧ a6 ∧ a7 ∧ a8 ∧ a9 ∧ a10 ∧ a11 ∧ a12) := ⟨x0, x1, x2, x3, x4, x5, x6, x7, x8, x9, x10, x11, x12⟩
theorem fz14 {a0 a1 a2 a3 a4 a5 a6 a7 a8 a9 a10 a11 a12 a13 : Prop} (x0 : a0) (x1 : a1) (x2 : a2) (x3 : a3) (x4 : a4) (x5 : a5) (x6 : a6) (x7 : a7) (x8 : a8) (x9 : a9) (x10 : a10) (x11 : a11) (x12 : a12) (x13 : a13) : Fx (a0 ∧ a1 ∧ a2 ∧ a3 ∧ a4 ∧ a5 ∧ a6 ∧ a7 ∧ a8 ∧ a9 ∧ a10 ∧ a11 ∧ a12 ∧ a13) := ⟨x0, x1, x2, x3, x4, x5, x6, x7, x8, x9, x10, x11, x12, x13⟩
theorem fz15 {a0 a1 a2 a3 a4 a5 a6 a7 a8 a9 a10 a11 a12 a13 a14 : Prop} (x0 : a0) (x1 : a1) (x2 : a2) (x3 : a3) (x4 : a4) (x5 : a5) (x6 : a6) (x7 : a7) (x8 : a8) (x9 : a9) (x10 : a10) (x11 : a11) (x12 : a12) (x13 : a13) (x14 : a14) : Fx (a0 ∧ a1 ∧ a2 ∧ a3 ∧ a4 ∧ a5 ∧ a6 ∧ a7 ∧ a8 ∧ a9 ∧ a10 ∧ a11 ∧ a12 ∧ a13 ∧ a14) := ⟨x0, x1, x2, x3, x4, x5, x6, x7, x8, x9, x10, x11, x12, x13, x14⟩
theorem fz16 {a0 a1 a2 a3 a4 a5 a6 a7 a8 a9 a10 a11 a12 a13 a14 a15 : Prop} (x0 : a0) (x1 : a1) (x2 : a2) (x3 : a3) (x4 : a4) (x5 : a5) (x6 : a6) (x7 : a7) (x8 : a8) (x9 : a9) (x10 : a10) (x11 : a11) (x12 : a12) (x13 : a13) (x14 : a14) (x15 : a15) : Fx (a0 ∧ a1 ∧ a2 ∧ a3 ∧ a4 ∧ a5 ∧ a6 ∧ a7 ∧ a8 ∧ a9 ∧ a10 ∧ a11 ∧ a12 ∧ a13 ∧ a14 ∧ a15) := ⟨x0, x1, x2, x3, x4, x5, x6, x7, x8, x9, x10, x11, x12, x13, x14, x15⟩
theorem fz17 {a0 a1 a2 a3 a4 a5 a6 a7 a8 a9 a10 a11 a12 a13 a14 a15 a16 : Prop} (x0 : a0) (x1 : a1) (x2 : a2) (x3 : a3) (x4 : a4) (x5 : a5) (x6 : a6) (x7 : a7) (x8 : a8) (x9 : a9) (x10 : a10) (x11 : a11) (x12 : a12) (x13 : a13) (x14 : a14) (x15 : a15) (x16 : a16) : Fx (a0 ∧ a1 ∧ a2 ∧ a3 ∧ a4 ∧ a5 ∧ a6 ∧ a7 ∧ a8 ∧ a9 ∧ a10 ∧ a11 ∧ a12 ∧ a13 ∧ a14 ∧ a15 ∧ a16) := ⟨x0, x1, x2, x3, x4, x5, x6, x7, x8, x9, x10, x11, x12, x13, x14, x15, x16⟩
theorem fz18 {a0 a1 a2 a3 a4 a5 a6 a7 a8 a9 a10 a11 a12 a13 a14 a15 a16 a17 : Prop} (x0 : a0) (x1 : a1) (x2 : a2) (x3 : a3) (x4 : a4) (x5 : a5) (x6 : a6) (x7 : a7) (x8 : a8) (x9 : a9) (x10 : a10) (x11 : a11) (x12 : a12) (x13 : a13) (x14 : a14) (x15 : a15) (x16 : a16) (x17 : a17) : Fx (a0 ∧ a1 ∧ a2 ∧ a3 ∧ a4 ∧ a5 ∧ a6 ∧ a7 ∧ a8 ∧ a9 ∧ a10 ∧ a11 ∧ a12 ∧ a13 ∧ a14 ∧ a15 ∧ a16 ∧ a17) := ⟨x0, x1, x2, x3, x4, x5, x6, x7, x8, x9, x10, x11, x12, x13, x14, x15, x16, x17⟩
theorem fz19 {a0 a1 a2 a3 a4 a5 a6 a7 a8 a9 a10 a11 a12 a13 a14 a15 a16 a17 a18 : Prop} (x0 : a0) (x1 : a1) (x2 : a2) (x3 : a3) (x4 : a4) (x5 : a5) (x6 : a6) (x7 : a7) (x8 : a8) (x9 : a9) (x10 : a10) (x11 : a11) (x12 : a12) (x13 : a13) (x14 : a14) (x15 : a15) (x16 : a16) (x17 : a17) (x18 : a18) : Fx (a0 ∧ a1 ∧ a2 ∧ a3 ∧ a4 ∧ a5 ∧ a6 ∧ a7 ∧ a8 ∧ a9 ∧ a10 ∧ a11 ∧ a12 ∧ a13 ∧ a14 ∧ a15 ∧ a16 ∧ a17 ∧ a18) := ⟨x0, x1, x2, x3, x4, x5, x6, x7, x8, x9, x10, x11, x12, x13, x14, x15, x16, x17, x18⟩
theorem fz20 {a0 a1 a2 a3 a4 a5 a6 a7 a8 a9 a10 a11 a12 a13 a14 a15 a16 a17 a18 a19 : Prop} (x0 : a0) (x1 : a1) (x2 : a2) (x3 : a3) (x4 : a4) (x5 : a5) (x6 : a6) (x7 : a7) (x8 : a8) (x9 : a9) (x10 : a10) (x11 : a11) (x12 : a12) (x13 : a13) (x14 : a14) (x15 : a15) (x16 : a16) (x17 : a17) (x18 : a18) (x19 : a19) : Fx (a0 ∧ a1 ∧ a2 ∧ a3 ∧ a4 ∧ a5 ∧ a6 ∧ a7 ∧ a8 ∧ a9 ∧ a10 ∧ a11 ∧ a12 ∧ a13 ∧ a14 ∧ a15 ∧ a16 ∧ a17 ∧ a18 ∧ a19) := ⟨x0, x1, x2, x3, x4, x5, x6, x7, x8, x9, x10, x11, x12, x13, x14, x15, x16, x17, x18, x19⟩
theorem fz21 {a0 a1 a2 a3 a4 a5 a6 a7 a8 a9 a10 a11 a12 a13 a14 a15 a16 a17 a18 a19 a20 : Prop} (x0 : a0) (x1 : a1) (x2 : a2) (x3 : a3) (x4 : a4) (x5 : a5) (x6 : a6) (x7 : a7) (x8 : a8) (x9 : a9) (x10 : a10) (x11 : a11) (x12 : a12) (x13 : a13) (x14 : a14) (x15 : a15) (x16 : a16) (x17 : a17) (x18 : a18) (x19 : a19) (x20 : a20) : Fx (a0 ∧ a1 ∧ a2 ∧ a3 ∧ a4 ∧ a5 ∧ a6 ∧ a7 ∧ a8 ∧ a9 ∧ a10 ∧ a11 ∧ a12 ∧ a13 ∧ a14 ∧ a15 ∧ a16 ∧ a17 ∧ a18 ∧ a19 ∧ a20) := ⟨x0, x1, x2, x3, x4, x5, x6, x7, x8, x9, x10, x11, x12, x13, x14, x15, x16, x17, x18, x19, x20⟩
theorem fz22 {a0 a1 a2 a3 a4 a5 a6 a7 a8 a9 a10 a11 a12 a13 a14 a15 a16 a17 a18 a19 a20 a21 : Prop} (x0 : a0) (x1 : a1) (x2 : a2) (x3 : a3) (x4 : a4) (x5 : a5) (x6 : a6) (x7 : a7) (x8 : a8) (x9 : a9) (x10 : a10) (x11 : a11) (x12 : a12) (x13 : a13) (x14 : a14) (x15 : a15) (x16 : a16) (x17 : a17) (x18 : a18) (x19 : a19) (x20 : a20) (x21 : a21) : Fx (a0 ∧ a1 ∧ a2 ∧ a3 ∧ a4 ∧ a5 ∧ a6 ∧ a7 ∧ a8 ∧ a9 ∧ a10 ∧ a11 ∧ a12 ∧ a13 ∧ a14 ∧ a15 ∧ a16 ∧ a17 ∧ a18 ∧ a19 ∧ a20 ∧ a21) := ⟨x0, x1, x2, x3, x4, x5, x6, x7, x8, x9, x10, x11, x12, x13, x14, x15, x16, x17, x18, x19, x20, x21⟩
theorem fz23 {a0 a1 a2 a3 a4 a5 a6 a7 a8 a9 a10 a11 a12 a13 a14 a15 a16 a17 a18 a19 a20 a21 a22 : Prop} (x0 : a0) (x1 : a1) (x2 : a2) (x3 : a3) (x4 : a4) (x5 : a5) (x6 : a6) (x7 : a7) (x8 : a8) (x9 : a9) (x10 : a10) (x11 : a11) (x12 : a12) (x13 : a13) (x14 : a14) (x15 : a15) (x16 : a16) (x17 : a17) (x18 : a18) (x19 : a19) (x20 : a20) (x21 : a21) (x22 : a22) : Fx (a0 ∧ a1 ∧ a2 ∧ a3 ∧ a4 ∧ a5 ∧ a6 ∧ a7 ∧ a8 ∧ a9 ∧ a10 ∧ a11 ∧ a12 ∧ a13 ∧ a14 ∧ a15 ∧ a16 ∧ a17 ∧ a18 ∧ a19 ∧ a20 ∧ a21 ∧ a22) := ⟨x0, x1, x2, x3, x4, x5, x6, x7, x8, x9, x10, x11, x12, x13, x14, x15, x16, x17, x18, x19, x20, x21, x22⟩
theorem fz24 {a0 a1 a2 a3 a4 a5 a6 a7 a8 a9 a10 a11 a12 a13 a14 a15 a16 a17 a18 a19 a20 a21 a22 a23 : Prop} (x0 : a0) (x1 : a1) (x2 : a2) (x3 : a3) (x4 : a4) (x5 : a5) (x6 : a6) (x7 : a7) (x8 : a8) (x9 : a9) (x10 : a10) (x11 : a11) (x12 : a12) (x13 : a13) (x14 : a14) (x15 : a15) (x16 : a16) (x17 : a17) (x18 : a18) (x19 : a19) (x20 : a20) (x21 : a21) (x22 : a22) (x23 : a23) : Fx (a0 ∧ a1 ∧ a2 ∧ a3 ∧ a4 ∧ a5 ∧ a6 ∧ a7 ∧ a8 ∧ a9 ∧ a10 ∧ a11 ∧ a12 ∧ a13 ∧ a14 ∧ a15 ∧ a16 ∧ a17 ∧ a18 ∧ a19 ∧ a20 ∧ a21 ∧ a22 ∧ a23) := ⟨x0, x1, x2, x3, x4, x5, x6, x7, x8, x9, x10, x11, x12, x13, x14, x15, x16, x17, x18, x19, x20, x21, x22, x23⟩
theorem fz25 {a0 a1 a2 a3 a4 a5 a6 a7 a8 a9 a10 a11 a12 a13 a14 a15 a16 a17 a18 a19 a20 a21 a22 a23 a24 : Prop} (x0 : a0) (x1 : a1) (x2 : a2) (x3 : a3) (x4 : a4) (x5 : a5) (x6 : a6) (x7 : a7) (x8 : a8) (x9 : a9) (x10 : a10) (x11 : a11) (x12 : a12) (x13 : a13) (x14 : a14) (x15 : a15) (x16 : a16) (x17 : a17) (x18 : a18) (x19 : a19) (x20 : a20) (x21 : a21) (x22 : a22) (x23 : a23) (x24 : a24) : Fx (a0 ∧ a1 ∧ a2 ∧ a3 ∧ a4 ∧ a5 ∧ a6 ∧ a7 ∧ a8 ∧ a9 ∧ a10 ∧ a11 ∧ a12 ∧ a13 ∧ a14 ∧ a15 ∧ a16 ∧ a17 ∧ a18 ∧ a19 ∧ a20 ∧ a21 ∧ a22 ∧ a23 ∧ a24) := ⟨x0, x1, x2, x3, x4, x5, x6, x7, x8, x9, x10, x11, x12, x13, x14, x15, x16, x17, x18, x19, x20, x21, x22, x23, x24⟩
theorem fz26 {a0 a1 a2 a3 a4 a5 a6 a7 a8 a9 a10 a11 a12 a13 a14 a15 a16 a17 a18 a19 a20 a21 a22 a23 a24 a25 : Prop} (x0 : a0) (x1 : a1) (x2 : a2) (x3 : a3) (x4 : a4) (x5 : a5) (x6 : a6) (x7 : a7) (x8 : a8) (x9 : a9) (x10 : a10) (x11 : a11) (x12 : a12) (x13 : a13) (x14 : a14) (x15 : a15) (x16 : a16) (x17 : a17) (x18 : a18) (x19 : a19) (x20 : a20) (x21 : a21) (x22 : a22) (x23 : a23) (x24 : a24) (x25 : a25) : Fx (a0 ∧ a1 ∧ a2 ∧ a3 ∧ a4 ∧ a5 ∧ a6 ∧ a7 ∧ a8 ∧ a9 ∧ a10 ∧ a11 ∧ a12 ∧ a13 ∧ a14 ∧ a15 ∧ a16 ∧ a17 ∧ a18 ∧ a19 ∧ a20 ∧ a21 ∧ a22 ∧ a23 ∧ a24 ∧ a25) := ⟨x0, x1, x2, x3, x4, x5, x6, x7, x8, x9, x10, x11, x12, x13, x14, x15, x16, x17, x18, x19, x20, x21, x22, x23, x24, x25⟩
theorem fz27 {a0 a1 a2 a3 a4 a5 a6 a7 a8 a9 a10 a11 a12 a13 a14 a15 a16 a17 a18 a19 a20 a21 a22 a23 a24 a25 a26 : Prop} (x0 : a0) (x1 : a1) (x2 : a2) (x3 : a3) (x4 : a4) (x5 : a5) (x6 : a6) (x7 : a7) (x8 : a8) (x9 : a9) (x10 : a10) (x11 : a11) (x12 : a12) (x13 : a13) (x14 : a14) (x15 : a15) (x16 : a16) (x17 : a17) (x18 : a18) (x19 : a19) (x20 : a20) (x21 : a21) (x22 : a22) (x23 : a23) (x24 : a24) (x25 : a25) (x26 : a26) : Fx (a0 ∧ a1 ∧ a2 ∧ a3 ∧ a4 ∧ a5 ∧ a6 ∧ a7 ∧ a8 ∧ a9 ∧ a10 ∧ a11 ∧ a12 ∧ a13 ∧ a14 ∧ a15 ∧ a16 ∧ a17 ∧ a18 ∧ a19 ∧ a20 ∧ a21 ∧ a22 ∧ a23 ∧ a24 ∧ a25 ∧ a26) := ⟨x0, x1, x2, x3, x4, x5, x6, x7, x8, x9, x10, x11, x12, x13, x14, x15, x16, x17, x18, x19, x20, x21, x22, x23, x24, x25, x26⟩
theorem fz28 {a0 a1 a2 a3 a4 a5 a6 a7 a8 a9 a10 a11 a12 a13 a14 a15 a16 a17 a18 a19 a20 a21 a22 a23 a24 a25 a26 a27 : Prop} (x0 : a0) (x1 : a1) (x2 : a2) (x3 : a3) (x4 : a4) (x5 : a5) (x6 : a6) (x7 : a7) (x8 : a8) (x9 : a9) (x10 : a10) (x11 : a11) (x12 : a12) (x13 : a13) (x14 : a14) (x15 : a15) (x16 : a16) (x17 : a17) (x18 : a18) (x19 : a19) (x20 : a20) (x21 : a21) (x22 : a22) (x23 : a23) (x24 : a24) (x25 : a25) (x26 : a26) (x27 : a27) : Fx (a0 ∧ a1 ∧ a2 ∧ a3 ∧ a4 ∧ a5 ∧ a6 ∧ a7 ∧ a8 ∧ a9 ∧ a10 ∧ a11 ∧ a12 ∧ a13 ∧ a14 ∧ a15 ∧ a16 ∧ a17 ∧ a18 ∧ a19 ∧ a20 ∧ a21 ∧ a22 ∧ a23 ∧ a24 ∧ a25 ∧ a26 ∧ a27) := ⟨x0, x1, x2, x3, x4, x5, x6, x7, x8, x9, x10, x11, x12, x13, x14, x15, x16, x17, x18, x19, x20, x21, x22, x23, x24, x25, x26, x27⟩
theorem fz29 {a0 a1 a2 a3 a4 a5 a6 a7 a8 a9 a10 a11 a12 a13 a14 a15 a16 a17 a18 a19 a20 a21 a22 a23 a24 a25 a26 a27 a28 : Prop} (x0 : a0) (x1 : a1) (x2 : a2) (x3 : a3) (x4 : a4) (x5 : a5) (x6 : a6) (x7 : a7) (x8 : a8) (x9 : a9) (x10 : a10) (x11 : a11) (x12 : a12) (x13 : a13) (x14 : a14) (x15 : a15) (x16 : a16) (x17 : a17) (x18 : a18) (x19 : a19) (x20 : a20) (x21 : a21) (x22 : a22) (x23 : a23) (x24 : a24) (x25 : a25) (x26 : a26) (x27 : a27) (x28 : a28) : Fx (a0 ∧ a1 ∧ a2 ∧ a3 ∧ a4 ∧ a5 ∧ a6 ∧ a7 ∧ a8 ∧ a9 ∧ a10 ∧ a11 ∧ a12 ∧ a13 ∧ a14 ∧ a15 ∧ a16 ∧ a17 ∧ a18 ∧ a19 ∧ a20 ∧ a21 ∧ a22 ∧ a23 ∧ a24 ∧ a25 ∧ a26 ∧ a27 ∧ a28) := ⟨x0, x1, x2, x3, x4, x5, x6, x7, x8, x9, x10, x11, x12, x13, x14, x15, x16, x17, x18, x19, x20, x21, x22, x23, x24, x25, x26, x27, x28⟩
theorem fz30 {a0 a1 a2 a3 a4 a5 a6 a7 a8 a9 a10 a11 a12 a13 a14 a15 a16 a17 a18 a19 a20 a21 a22 a23 a24 a25 a26 a27 a28 a29 : Prop} (x0 : a0) (x1 : a1) (x2 : a2) (x3 : a3) (x4 : a4) (x5 : a5) (x6 : a6) (x7 : a7) (x8 : a8) (x9 : a9) (x10 : a10) (x11 : a11) (x12 : a12) (x13 : a13) (x14 : a14) (x15 : a15) (x16 : a16) (x17 : a17) (x18 : a18) (x19 : a19) (x20 : a20) (x21 : a21) (x22 : a22) (x23 : a23) (x24 : a24) (x25 : a25) (x26 : a26) (x27 : a27) (x28 : a28) (x29 : a29) : Fx (a0 ∧ a1 ∧ a2 ∧ a3 ∧ a4 ∧ a5 ∧ a6 ∧ a7 ∧ a8 ∧ a9 ∧ a10 ∧ a11 ∧ a12 ∧ a13 ∧ a14 ∧ a15 ∧ a16 ∧ a17 ∧ a18 ∧ a19 ∧ a20 ∧ a21 ∧ a22 ∧ a23 ∧ a24 ∧ a25 ∧ a26 ∧ a27 ∧ a28 ∧ a29) := ⟨x0, x1, x2, x3, x4, x5, x6, x7, x8, x9, x10, x11, x12, x13, x14, x15, x16, x17, x18, x19, x20, x21, x22, x23, x24, x25, x26, x27, x28, x29⟩
theorem fz31 {a0 a1 a2 a3 a4 a5 a6 a7 a8 a9 a10 a11 a12 a13 a14 a15 a16 a17 a18 a19 a20 a21 a22 a23 a24 a25 a26 a27 a28 a29 a30 : Prop} (x0 : a0) (x1 : a1) (x2 : a2) (x3 : a3) (x4 : a4) (x5 : a5) (x6 : a6) (x7 : a7) (x8 : a8) (x9 : a9) (x10 : a10) (x11 : a11) (x12 : a12) (x13 : a13) (x14 : a14) (x15 : a15) (x16 : a16) (x17 : a17) (x18 : a18) (x19 : a19) (x20 : a20) (x21 : a21) (x22 : a22) (x23 : a23) (x24 : a24) (x25 : a25) (x26 : a26) (x27 : a27) (x28 : a28) (x29 : a29) (x30 : a30) : Fx (a0 ∧ a1 ∧ a2 ∧ a3 ∧ a4 ∧ a5 ∧ a6 ∧ a7 ∧ a8 ∧ a9 ∧ a10 ∧ a11 ∧ a12 ∧ a13 ∧ a14 ∧ a15 ∧ a16 ∧ a17 ∧ a18 ∧ a19 ∧ a20 ∧ a21 ∧ a22 ∧ a23 ∧ a24 ∧ a25 ∧ a26 ∧ a27 ∧ a28 ∧ a29 ∧ a30) := ⟨x0, x1, x2, x3, x4, x5, x6, x7, x8, x9, x10, x11, x12, x13, x14, x15, x16, x17, x18, x19, x20, x21, x22, x23, x24, x25, x26, x27, x28, x29, x30⟩
theorem fz32 {a0 a1 a2 a3 a4 a5 a6 a7 a8 a9 a10 a11 a12 a13 a14 a15 a16 a17 a18 a19 a20 a21 a22 a23 a24 a25 a26 a27 a28 a29 a30 a31 : Prop} (x0 : a0) (x1 : a1) (x2 : a2) (x3 : a3) (x4 : a4) (x5 : a5) (x6 : a6) (x7 : a7) (x8 : a8) (x9 : a9) (x10 : a10) (x11 : a11) (x12 : a12) (x13 : a13) (x14 : a14) (x15 : a15) (x16 : a16) (x17 : a17) (x18 : a18) (x19 : a19) (x20 : a20) (x21 : a21) (x22 : a22) (x23 : a23) (x24 : a24) (x25 : a25) (x26 : a26) (x27 : a27) (x28 : a28) (x29 : a29) (x30 : a30) (x31 : a31) : Fx (a0 ∧ a1 ∧ a2 ∧ a3 ∧ a4 ∧ a5 ∧ a6 ∧ a7 ∧ a8 ∧ a9 ∧ a10 ∧ a11 ∧ a12 ∧ a13 ∧ a14 ∧ a15 ∧ a16 ∧ a17 ∧ a18 ∧ a19 ∧ a20 ∧ a21 ∧ a22 ∧ a23 ∧ a24 ∧ a25 ∧ a26 ∧ a27 ∧ a28 ∧ a29 ∧ a30 ∧ a31) := ⟨x0, x1, x2, x3, x4, x5, x6, x7, x8, x9, x10, x11, x12, x13, x14, x15, x16, x17, x18, x19, x20, x21, x22, x23, x24, x25, x26, x27, x28, x29, x30, x31⟩
theorem ite_two {c : Prop} [Decidable c] {p q : Prop} (h1 : c → p) (h2 : ¬ c → q) : if c then p else q := by
  split
  · exact h1 ‹_›
  · exact h2 ‹_›
theorem at_region {x : Option (St × List Rec)} {p : St → List Rec → Prop} (h : ∃ a b, x = some (a, b) ∧ p a b) : ∃ a b, x = some (a, b) ∧ p a b := h
theorem at_out {x : Option ((PV × List Arr × List Arr) × List Nat)} {p : PV × List Arr × List Arr → List Nat → Prop} (h : ∃ a b, x = some (a, b) ∧ p a b) : ∃ a b, x = some (a, b) ∧ p a b := h
theorem at_cond {x : Option Bool} {p : Bool → Prop} (h : ∃ t, x = some t ∧ p t) : ∃ t, x = some t ∧ p t := h
theorem ord_split {ops : Array Oper} {rs : List Rec} {p : Prop} (h1 : orderOk ops rs = true) (h2 : p) : orderOk ops rs = true ∧ p := ⟨h1, h2⟩
inductive NA (P : Program) (cf : Cfg) (me : FuncId) : Code → St → (Ex → St → Prop) → Prop
  | seq {a b : Code} {st : St} {Q : Ex → St → Prop} (h : XW P cf me a st (sq P cf me b Q)) : NA P cf me (.seq a b) st Q
  | block {id : Nat} {b : Code} {st : St} {Q : Ex → St → Prop} (h : XW P cf me b st (bl id Q)) : NA P cf me (.block id b) st Q
theorem na {P : Program} {cf : Cfg} {me : FuncId} {c : Code} {st : St} {Q : Ex → St → Prop} (h : NA P cf me c st Q) : XW P cf me c st Q := by
  cases h with
  | seq h => exact xw_seq h
  | block h => exact xw_block h
inductive NB (P : Program) (cf : Cfg) (me : FuncId) : Code → St → (Ex → St → Prop) → Prop
  | reg {ops : Array Oper} {id : Nat} {st : St} {Q : Ex → St → Prop} (h : ∃ st' rs, runOps P cf (KK P cf) me ops ops.toList st = some (st', rs) ∧ Q .normal st') : NB P cf me (.region id ops false) st Q
  | regd {ops : Array Oper} {id : Nat} {st : St} {Q : Ex → St → Prop} (h : ∃ st' rs, runOps P cf (KK P cf) me ops ops.toList st = some (st', rs) ∧ orderOk ops rs = true ∧ Q .normal st') : NB P cf me (.region id ops true) st Q
  | cond {x : Operand} {a b : Code} {st : St} {Q : Ex → St → Prop} (h : ∃ t, asBoolP (opnd st.ρ x) = some t ∧ if t = true then XW P cf me a st Q else XW P cf me b st Q) : NB P cf me (.cond x a b) st Q
  | skip {st : St} {Q : Ex → St → Prop} (h : Q .normal st) : NB P cf me .skip st Q
  | exit {i : Nat} {st : St} {Q : Ex → St → Prop} (h : Q (.exit i) st) : NB P cf me (.exit i) st Q
  | label {i : Nat} {st : St} {Q : Ex → St → Prop} (h : Q .normal st) : NB P cf me (.label i) st Q
  | ret {st : St} {Q : Ex → St → Prop} (h : Q .ret st) : NB P cf me .ret st Q
theorem nb {P : Program} {cf : Cfg} {me : FuncId} {c : Code} {st : St} {Q : Ex → St → Prop} (h : NB P cf me c st Q) : XW P cf me c st Q := by
  cases h with
  | reg h => exact xw_reg h
  | regd h => exact xw_regd h
  | cond h => exact xw_if h
  | skip h => exact xw_skip h
  | exit h => exact xw_exit h
  | label h => exact xw_label h
  | ret h => exact xw_ret h
def Ex.fin : Ex → Bool
  | .exit _ => false
  | _ => true
theorem pn {P : Program} {fn : Func} {np : Nat} {res : PV × List Arr × List Arr} {e : Ex} {s : St} (he : e.fin = true) (h : ∃ r rd, (outP P fn np s).run s.m = some (r, rd) ∧ r = res) : Post P fn np res e s := by
  cases e with
  | normal => exact post_normal h
  | ret => exact post_ret h
  | exit i => cases he
theorem pe {P : Program} {fn : Func} {np : Nat} {Φ : PV × List Arr × List Arr → Prop} {e : Ex} {s : St} (he : e.fin = true) (h : ∃ r rd, (outP P fn np s).run s.m = some (r, rd) ∧ Φ r) : PostE P fn np Φ e s := by
  cases e with
  | normal => exact postE_normal h
  | ret => exact postE_ret h
  | exit i => cases he
theorem at2 {α β : Type} {x : Option (α × β)} {p : α → β → Prop} (h : ∃ a b, x = some (a, b) ∧ p a b) : ∃ a b, x = some (a, b) ∧ p a b := h
theorem by_eq {G G1 Q : Prop} (f : G1 → G) (e : G1 = Q) : Q → G := fun h => f (e ▸ h)
/-- A step of code. -/
theorem go1 {G Q : Prop} (hq : Q) (h : Q → G := by
  first
  | (apply by_eq xw_seq; rfl)
  | (apply by_eq xw_block; rfl)
  | (apply by_eq (ord_split (by kernel_rfl)); rfl)
  | ((first
      | apply by_eq xw_reg
      | apply by_eq xw_regd
      | apply by_eq xw_if
      | apply by_eq xw_skip
      | apply by_eq xw_exit
      | apply by_eq xw_label
      | apply by_eq xw_ret
      | apply by_eq (pn rfl)
      | apply by_eq (pe rfl))
     try simp (config := { maxSteps := 3000000 }) (disch := first | assumption | omega | exact VG.okg (by assumption) | (simp only [List.length_set, List.length_append, List.length_cons, List.length_nil, List.length_replicate]; omega)) only [go_sem, simprocAttr, Fz.1]
     first | done | rfl)) : G := h hq
/-- A step of code, up to the results. -/
theorem goP {G Q : Prop} (hq : Q) (h : Q → G := by
  first
  | (apply by_eq xw_seq; rfl)
  | (apply by_eq xw_block; rfl)
  | (apply by_eq (ord_split (by kernel_rfl)); rfl)
  | ((first
      | apply by_eq xw_reg
      | apply by_eq xw_regd
      | apply by_eq xw_if
      | apply by_eq xw_skip
      | apply by_eq xw_exit
      | apply by_eq xw_label
      | apply by_eq xw_ret)
     try simp (config := { maxSteps := 3000000 }) (disch := first | assumption | omega | exact VG.okg (by assumption) | (simp only [List.length_set, List.length_append, List.length_cons, List.length_nil, List.length_replicate]; omega)) only [go_sem, simprocAttr, Fz.1]
     first | done | rfl)) : G := h hq
/-- Two ways. -/
theorem go2 {G A B : Prop} (ha : A) (hb : B) (h : A → B → G := by exact ite_two) : G := h ha hb
/-- The state, turned. -/
theorem go3 {G Q : Prop} (hq : Q) (h : G = Q := by
  simp (config := { maxSteps := 3000000 }) (disch := first | assumption | omega | exact VG.okg (by assumption) | (simp only [List.length_set, List.length_append, List.length_cons, List.length_nil, List.length_replicate]; omega)) only [go_sem, simprocAttr, Fz.1]
  rfl) : G := h ▸ hq
theorem go4 {G Q : Prop} (hq : Q) (h : Q → G := by first | exact at2 | exact at_cond) : G := h hq
theorem ord_and {ops : Array Oper} {rs : List Rec} {p q : Prop} (h1 : orderOk ops rs = true) (h2 : q = p) : q = (orderOk ops rs = true ∧ p) := by
  subst h2
  exact propext ⟨fun h => ⟨h1, h⟩, fun h => h.2⟩
/-- A step without branches. -/
theorem goG {G Q : Prop} (hq : Q) (h : Q → G := by
  first
  | (apply by_eq xw_seq; rfl)
  | (apply by_eq xw_block; rfl)
  | (apply by_eq xw_reg; simp only [go_sem, ↓reduceIte, Int.reduceLE, Int.reduceLT, Int.reduceToNat, Int.reduceNeg, Int.reduceAdd, Int.reduceSub, Int.reduceMul, Int.reduceEq, Int.reduceNe, Nat.reduceEqDiff, Nat.reduceAdd, Nat.reduceSub, Nat.reduceMul, Nat.reduceLT, Nat.reduceLeDiff, Nat.reduceBEq, Nat.reduceBNe, UInt8.reduceToNat, Fz.1]; rfl)
  | (apply by_eq (fun h => xw_regd h); simp only [go_sem, ↓reduceIte, Int.reduceLE, Int.reduceLT, Int.reduceToNat, Int.reduceNeg, Int.reduceAdd, Int.reduceSub, Int.reduceMul, Int.reduceEq, Int.reduceNe, Nat.reduceEqDiff, Nat.reduceAdd, Nat.reduceSub, Nat.reduceMul, Nat.reduceLT, Nat.reduceLeDiff, Nat.reduceBEq, Nat.reduceBNe, UInt8.reduceToNat, Fz.1]; exact Eq.symm (ord_and (by kernel_rfl) rfl))
  | (apply by_eq xw_if; simp only [go_sem, ↓reduceIte, Int.reduceLE, Int.reduceLT, Int.reduceToNat, Int.reduceNeg, Int.reduceAdd, Int.reduceSub, Int.reduceMul, Int.reduceEq, Int.reduceNe, Nat.reduceEqDiff, Nat.reduceAdd, Nat.reduceSub, Nat.reduceMul, Nat.reduceLT, Nat.reduceLeDiff, Nat.reduceBEq, Nat.reduceBNe, UInt8.reduceToNat, Fz.1]; rfl)
  | (apply by_eq xw_skip; simp only [sq, bl]; rfl)
  | (apply by_eq xw_exit; simp only [sq, bl, if_true, if_false, Nat.reduceEqDiff]; rfl)
  | (apply by_eq xw_label; simp only [sq, bl]; rfl)) : G := h hq
/-- A step without branches, its tests decided. -/
theorem goD {G Q : Prop} (hq : Q) (h : Q → G := by
  first
  | (apply by_eq xw_seq; rfl)
  | (apply by_eq xw_block; rfl)
  | (apply by_eq xw_reg; simp (disch := first | decide | omega) only [go_sem, ↓reduceIte, Int.reduceLE, Int.reduceLT, Int.reduceToNat, Int.reduceNeg, Int.reduceAdd, Int.reduceSub, Int.reduceMul, Int.reduceEq, Int.reduceNe, Nat.reduceEqDiff, Nat.reduceAdd, Nat.reduceSub, Nat.reduceMul, Nat.reduceLT, Nat.reduceLeDiff, Nat.reduceBEq, Nat.reduceBNe, UInt8.reduceToNat, wr, dle, dlt, Fz.1]; rfl)
  | (apply by_eq (fun h => xw_regd h); simp (disch := first | decide | omega) only [go_sem, ↓reduceIte, Int.reduceLE, Int.reduceLT, Int.reduceToNat, Int.reduceNeg, Int.reduceAdd, Int.reduceSub, Int.reduceMul, Int.reduceEq, Int.reduceNe, Nat.reduceEqDiff, Nat.reduceAdd, Nat.reduceSub, Nat.reduceMul, Nat.reduceLT, Nat.reduceLeDiff, Nat.reduceBEq, Nat.reduceBNe, UInt8.reduceToNat, wr, dle, dlt, Fz.1]; exact Eq.symm (ord_and (by kernel_rfl) rfl))
  | (apply by_eq xw_if; simp (disch := first | decide | omega) only [go_sem, ↓reduceIte, Int.reduceLE, Int.reduceLT, Int.reduceToNat, Int.reduceNeg, Int.reduceAdd, Int.reduceSub, Int.reduceMul, Int.reduceEq, Int.reduceNe, Nat.reduceEqDiff, Nat.reduceAdd, Nat.reduceSub, Nat.reduceMul, Nat.reduceLT, Nat.reduceLeDiff, Nat.reduceBEq, Nat.reduceBNe, UInt8.reduceToNat, wr, dle, dlt, Fz.1]; rfl)
  | (apply by_eq xw_skip; simp only [sq, bl]; rfl)
  | (apply by_eq xw_exit; simp only [sq, bl, if_true, if_false, Nat.reduceEqDiff]; rfl)
  | (apply by_eq xw_label; simp only [sq, bl]; rfl)) : G := h hq
section
variable {P : Program} {cf : Cfg} {f : FuncId} {fn : Func} {c : Code} {args : List PV} {ps : List Arr} {res : PV × List Arr × List Arr} {Φ : PV × List Arr × List Arr → Prop}
/-- A call of a function. -/
theorem gp (hp : primC cf f args ps = none) (hf : P.funcs[f]? = some fn) (h : XW P cf f c (initP args ps) (Post P fn ps.length res)) (hb : fn.body = some c := by rfl)
    (hok : args.length ≤ fn.ntmps ∧ (fn.name == "runtime.NumGoroutine") = false ∧ codeOk fn.ntmps c = true := by exact ⟨Nat.le_of_ble_eq_true rfl, rfl, rfl⟩) : KK P cf f args ps = some res := xw_call hp hf hb hok h
theorem gc (hf : P.funcs[f]? = some fn) (h : XW P cf f c (initP args ps) (Post P fn ps.length res)) (hp : primC cf f args ps = none := by rfl) (hb : fn.body = some c := by rfl)
    (hok : args.length ≤ fn.ntmps ∧ (fn.name == "runtime.NumGoroutine") = false ∧ codeOk fn.ntmps c = true := by exact ⟨Nat.le_of_ble_eq_true rfl, rfl, rfl⟩) : KK P cf f args ps = some res := xw_call hp hf hb hok h
theorem ge (hf : P.funcs[f]? = some fn) (h : XW P cf f c (initP args ps) (PostE P fn ps.length Φ)) (hp : primC cf f args ps = none := by rfl) (hb : fn.body = some c := by rfl)
    (hok : args.length ≤ fn.ntmps ∧ (fn.name == "runtime.NumGoroutine") = false ∧ codeOk fn.ntmps c = true := by exact ⟨Nat.le_of_ble_eq_true rfl, rfl, rfl⟩) : ∃ res, Φ res ∧ KK P cf f args ps = some res := xw_callE hp hf hb hok h
end
theorem lgm {α β : Type} {f : α → β} {l : List α} {i : Nat} : (l.map f)[i]? = l[i]?.map f := List.getElem?_map
theorem lmn {α β : Type} {f : α → β} : ([] : List α).map f = [] := rfl
theorem lmt {α β : Type} {f : α → β} {l : List α} {i : Nat} : (l.take i).map f = (l.map f).take i := List.map_take
theorem llt {α : Type} {l : List α} {i : Nat} : (l.take i).length = min i l.length := List.length_take
theorem llr {α : Type} {n : Nat} {a : α} : (List.replicate n a).length = n := List.length_replicate
theorem llm {α β : Type} {f : α → β} {l : List α} : (l.map f).length = l.length := by simp
/-- What is handed back. -/
theorem goR {G Q : Prop} (hq : Q) (h : Q → G := by
  first
  | refine @by_eq _ _ ?_ (fun h => xw_ret (post_ret h)) ?_
  | refine @by_eq _ _ ?_ (fun h => post_normal h) ?_
  | refine @by_eq _ _ ?_ (fun h => xw_ret (postE_ret h)) ?_
  | refine @by_eq _ _ ?_ (fun h => postE_normal h) ?_
  rotate_left
  simp only [go_sem, ↓reduceIte, Int.reduceLE, Int.reduceLT, Int.reduceToNat, Int.reduceNeg, Int.reduceAdd, Int.reduceSub, Int.reduceMul, Int.reduceEq, Int.reduceNe, Nat.reduceEqDiff, Nat.reduceAdd, Nat.reduceSub, Nat.reduceMul, Nat.reduceLT, Nat.reduceLeDiff, Nat.reduceBEq, Nat.reduceBNe, UInt8.reduceToNat, Fz.1]
  rfl) : G := h hq
end Go.Proofs.Ytdlfdoicheakoaa.X
