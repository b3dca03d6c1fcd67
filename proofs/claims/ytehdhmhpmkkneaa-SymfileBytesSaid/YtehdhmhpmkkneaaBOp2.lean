/- The openers of the structs that arguments are made of. The kind of type 28 is written by the kit's kinds.py. -/
import Derived.Test.YtehdhmhpmkkneaaBOp
import Derived.Deep.Fields
namespace Go.Proofs.Ytehdhmhpmkkneaa
open Go.RowKit Go.Proofs.YtehdhmhpmkkneaaW.PrintWords Go.Proofs.Ytehdhmhpmkkneaa.PAll
/-! #### struct type 28 -/
structure S28 where
  f0 : Int
  f1 : Int
  f2 : ByteArray
def z28 : S28 := ⟨(0 : Int), (0 : Int), (⟨#[]⟩ : ByteArray)⟩
instance : Inhabited S119 := ⟨z119⟩
instance : Inhabited S80 := ⟨z80⟩
instance : Inhabited S131 := ⟨z131⟩
instance : Inhabited S93 := ⟨z93⟩
instance : Inhabited S134 := ⟨z134⟩
instance : Inhabited S28 := ⟨z28⟩
def Ok119 (x : S119) : Prop := (Lit.int .i64 x.f0).wf = true
theorem opens119 : Opens 119 k119 Ok119 := by
  intro H enc W base spare held fuel cs y hy
  obtain ⟨hl, n, hf⟩ := struct_cells Try.underlying119 (Deep.hone_of (by kernel_rfl)) (by kernel_rfl) hy
  obtain ⟨v0, z0, e0, t0⟩ := hf 0 _ rfl
  obtain ⟨a0, g0, w0⟩ := opens_int Try.underlying3 H enc W base spare held n _ _ t0
  injection g0 with g0 _
  subst g0
  obtain ⟨v1, z1, e1, t1⟩ := hf 1 _ rfl
  obtain ⟨a1, g1, _⟩ := opens_bool Try.underlying4 H enc W base spare held n _ _ t1
  injection g1 with g1 _
  subst g1
  match cs, hl with
  | [c100, c101], _ =>
    injection e0 with e0; subst e0
    injection e1 with e1; subst e1
    exact ⟨⟨a0, a1⟩, k119_mk W _, w0⟩
def Ok80 (x : S80) : Prop := x.f0.size ≤ maxLen ∧ (Lit.int .i64 x.f1).wf = true ∧ (Lit.int .i64 x.f2).wf = true ∧ (Lit.int .i32 x.f3).wf = true ∧ (x.f4.length ≤ maxLen ∧ ∀ z ∈ x.f4, Ok119 z)
theorem opens80 : Opens 80 k80 Ok80 := by
  intro H enc W base spare held fuel cs y hy
  obtain ⟨hl, n, hf⟩ := struct_cells Try.underlying80 (Deep.hone_of (by kernel_rfl)) (by kernel_rfl) hy
  obtain ⟨v0, z0, e0, t0⟩ := hf 0 _ rfl
  obtain ⟨a0, g0, w0⟩ := opens_string Try.underlying9 H enc W base spare held n _ _ t0
  injection g0 with g0 _
  subst g0
  obtain ⟨v1, z1, e1, t1⟩ := hf 1 _ rfl
  obtain ⟨a1, g1, w1⟩ := opens_int Try.underlying3 H enc W base spare held n _ _ t1
  injection g1 with g1 _
  subst g1
  obtain ⟨v2, z2, e2, t2⟩ := hf 2 _ rfl
  obtain ⟨a2, g2, w2⟩ := opens_int Try.underlying3 H enc W base spare held n _ _ t2
  injection g2 with g2 _
  subst g2
  obtain ⟨v3, z3, e3, t3⟩ := hf 3 _ rfl
  obtain ⟨a3, g3, w3⟩ := opens_int Try.underlying21 H enc W base spare held n _ _ t3
  injection g3 with g3 _
  subst g3
  obtain ⟨v4, z4, e4, t4⟩ := hf 4 _ rfl
  obtain ⟨a4, ⟨A4, c4, g4, l4, h4⟩, w4⟩ := (opens_slice Try.underlying78 (by kernel_rfl) opens119) H enc W base spare held n _ _ t4
  injection g4 with g4 _
  subst g4
  match cs, hl with
  | [c100, c101, c102, c103, c104], _ =>
    injection e0 with e0; subst e0
    injection e1 with e1; subst e1
    injection e2 with e2; subst e2
    injection e3 with e3; subst e3
    injection e4 with e4; subst e4
    exact ⟨⟨a0, a1, a2, a3, a4⟩, k80_mk W _ l4 h4, ⟨w0, w1, w2, w3, w4⟩⟩
def Ok93 (x : S93) : Prop := x.f0.size ≤ maxLen ∧ (Lit.int .u32 x.f1).wf = true
theorem opens93 : Opens 93 k93 Ok93 := by
  intro H enc W base spare held fuel cs y hy
  obtain ⟨hl, n, hf⟩ := struct_cells Try.underlying93 (Deep.hone_of (by kernel_rfl)) (by kernel_rfl) hy
  obtain ⟨v0, z0, e0, t0⟩ := hf 0 _ rfl
  obtain ⟨a0, g0, w0⟩ := opens_string Try.underlying9 H enc W base spare held n _ _ t0
  injection g0 with g0 _
  subst g0
  obtain ⟨v1, z1, e1, t1⟩ := hf 1 _ rfl
  obtain ⟨a1, g1, w1⟩ := opens_int Try.underlying39 H enc W base spare held n _ _ t1
  injection g1 with g1 _
  subst g1
  match cs, hl with
  | [c100, c101], _ =>
    injection e0 with e0; subst e0
    injection e1 with e1; subst e1
    exact ⟨⟨a0, a1⟩, k93_mk W _, ⟨w0, w1⟩⟩
end Go.Proofs.Ytehdhmhpmkkneaa
