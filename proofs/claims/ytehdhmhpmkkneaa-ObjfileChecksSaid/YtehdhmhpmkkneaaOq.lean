/- An object that comes in, opened. -/
import Derived.Test.YtehdhmhpmkkneaaOp2
import Derived.Test.YtehdhmhpmkkneaaMr
namespace Go.Proofs.Ytehdhmhpmkkneaa
open Go.RowKit Go.Proofs.YtehdhmhpmkkneaaW.PrintWords Go.Proofs.Ytehdhmhpmkkneaa.PAll

/-- Its numbers and texts are what their types say. -/
structure OkObj (b : ByteArray) (z d e y : Int) (l2 : List S93) (l3 : List Int) (l4 : List S134) (l5 : List S131) : Prop where
  b : b.size ≤ maxLen
  z : (Lit.int .u32 z).wf = true
  l2 : l2.length ≤ maxLen ∧ ∀ x ∈ l2, Ok93 x
  l3 : l3.length ≤ maxLen ∧ ∀ x ∈ l3, (Lit.int .u32 x).wf = true
  l4 : l4.length ≤ maxLen ∧ ∀ x ∈ l4, Ok134 x
  l5 : l5.length ≤ maxLen ∧ ∀ x ∈ l5, Ok131 x
  d : (Lit.int .i64 d).wf = true
  e : (Lit.int .i64 e).wf = true
  y : (Lit.int .i64 y).wf = true

theorem opens60 {H : Type} {enc : TypeId × Value → H} {W : World} {base : Nat} {spare : Nat → Bool} {held : Bool} {v : Value} {dd : DataW H} {p : List MemPlace} {cs : Array Value} (hv : v = .agg cs)
    (h : DataW.Trod enc Try.prog W base spare held 60 v dd p) :
    ∃ b z d e y A2 A3 A4 A5 c2 c3 c4 c5 l2 l3 l4 l5, v = objV b z d e y A2 A3 A4 A5 c2 c3 c4 c5 l2 l3 l4 l5 ∧ ObjAt A2 A3 A4 A5 c2 c3 c4 c5 l2 l3 l4 l5 W ∧ OkObj b z d e y l2 l3 l4 l5 := by
  obtain ⟨fuel, hy⟩ := h
  obtain ⟨hl, n, hf⟩ := struct_cells Try.underlying60 (Deep.hone_of (by kernel_rfl)) (by kernel_rfl) hy
  obtain ⟨v0, z0, e0, t0⟩ := hf 0 _ rfl
  obtain ⟨a0, g0, w0⟩ := opens_string Try.underlying9 H enc W base spare held n _ _ t0
  injection g0 with g0 _; subst g0
  obtain ⟨v1, z1, e1, t1⟩ := hf 1 _ rfl
  obtain ⟨a1, g1, w1⟩ := opens_int Try.underlying39 H enc W base spare held n _ _ t1
  injection g1 with g1 _; subst g1
  obtain ⟨v2, z2, e2, t2⟩ := hf 2 _ rfl
  obtain ⟨a2, ⟨A2, c2, g2, l2, h2⟩, w2⟩ := (opens_slice Try.underlying55 (by kernel_rfl) opens93) H enc W base spare held n _ _ t2
  injection g2 with g2 _; subst g2
  obtain ⟨v3, z3, e3, t3⟩ := hf 3 _ rfl
  obtain ⟨a3, ⟨A3, c3, g3, l3, h3⟩, w3⟩ := (opens_slice Try.underlying56 (by kernel_rfl) (opens_int Try.underlying39)) H enc W base spare held n _ _ t3
  injection g3 with g3 _; subst g3
  obtain ⟨v4, z4, e4, t4⟩ := hf 4 _ rfl
  obtain ⟨a4, ⟨A4, c4, g4, l4, h4⟩, w4⟩ := (opens_slice Try.underlying57 (by kernel_rfl) opens134) H enc W base spare held n _ _ t4
  injection g4 with g4 _; subst g4
  obtain ⟨v5, z5, e5, t5⟩ := hf 5 _ rfl
  obtain ⟨a5, ⟨A5, c5, g5, l5, h5⟩, w5⟩ := (opens_slice Try.underlying58 (by kernel_rfl) opens131) H enc W base spare held n _ _ t5
  injection g5 with g5 _; subst g5
  obtain ⟨v6, z6, e6, t6⟩ := hf 6 _ rfl
  obtain ⟨a6, g6, w6⟩ := opens_int Try.underlying3 H enc W base spare held n _ _ t6
  injection g6 with g6 _; subst g6
  obtain ⟨v7, z7, e7, t7⟩ := hf 7 _ rfl
  obtain ⟨a7, g7, w7⟩ := opens_int Try.underlying3 H enc W base spare held n _ _ t7
  injection g7 with g7 _; subst g7
  obtain ⟨v8, z8, e8, t8⟩ := hf 8 _ rfl
  obtain ⟨a8, g8, w8⟩ := opens_int Try.underlying3 H enc W base spare held n _ _ t8
  injection g8 with g8 _; subst g8
  refine ⟨a0, a1, a6, a7, a8, A2, A3, A4, A5, c2, c3, c4, c5, a2, a3, a4, a5, ?_, ⟨h2, l2, h3, l3, h4, l4, h5, l5⟩, ⟨w0, w1, w2, w3, w4, w5, w6, w7, w8⟩⟩
  subst hv
  obtain ⟨cs⟩ := cs
  replace hl : cs.length = 9 := by simpa [Value.cells] using hl
  simp only [Value.cells] at e0 e1 e2 e3 e4 e5 e6 e7 e8
  match cs, hl with
  | [y0, y1, y2, y3, y4, y5, y6, y7, y8], _ =>
    injection e0 with e0; subst e0
    injection e1 with e1; subst e1
    injection e2 with e2; subst e2
    injection e3 with e3; subst e3
    injection e4 with e4; subst e4
    injection e5 with e5; subst e5
    injection e6 with e6; subst e6
    injection e7 with e7; subst e7
    injection e8 with e8; subst e8
    rfl
end Go.Proofs.Ytehdhmhpmkkneaa
