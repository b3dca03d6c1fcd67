/- Op2. -/
import Derived.Test.YtehdhmhpmkkneaaBPAllx0
import Derived.Deep.Slices
import Derived.ProofKit
import Derived.Deep.Fields
/- From an argument's reading to its cells: numbers, bools, strings, slices and structs of one-cell fields. -/
namespace Go.Proofs.Ytehdhmhpmkkneaa
open Go.RowKit Go.Proofs.YtehdhmhpmkkneaaW.PrintWords Go.Proofs.Ytehdhmhpmkkneaa.PAll
def Opens {α : Type} (t : TypeId) (d : Kd α) (ok : α → Prop) : Prop :=
  ∀ (H : Type) (enc : TypeId × Value → H) (W : World) (base : Nat) (spare : Nat → Bool) (held : Bool) (fuel : Nat) (cs : List Value) (y : DataW H × List MemPlace),
    DataW.trod enc Try.prog W base spare held fuel t cs = some y → ∃ x, d.K W x cs ∧ ok x
theorem opens_int {t : TypeId} {k : IntKind} (h : Try.prog.underlying t = some (.int k)) : Opens t (Kd.int k) (fun x => (Lit.int k x).wf = true) :=
  fun _ _ _ _ _ _ _ _ _ hy => by
    obtain ⟨n, rfl, _, hw⟩ := DataW.trod_int h hy
    exact ⟨n, rfl, hw⟩
theorem opens_string {t : TypeId} (h : Try.prog.underlying t = some .string) : Opens t Kd.string (fun s => s.size ≤ maxLen) :=
  fun _ _ _ _ _ _ _ _ _ hy => by
    obtain ⟨s, rfl, _, hl⟩ := DataW.trod_string h hy
    exact ⟨s, rfl, hl⟩
theorem opens_slice {α : Type} [Inhabited α] {t e : TypeId} {d : Kd α} {ok : α → Prop} (ht : Try.prog.underlying t = some (.slice e)) (hc : Try.prog.cellsOf e = d.sz) (hd : Opens e d ok) :
    Opens t (Kd.slice e d) (fun xs => xs.length ≤ maxLen ∧ ∀ x ∈ xs, ok x) := by
  intro H enc W base spare held fuel cs y hy
  rcases Deep.open_slice ht hy with ⟨rfl, _⟩ | ⟨a, len, cap, m, n, D, Pl, rfl, hb, hl, hm, hmm, _, hi⟩
  · exact ⟨[], ⟨none, 0, rfl, Nat.le_refl _, rfl, by simp, fun h => absurd h (Nat.lt_irrefl _)⟩, by simp, by simp⟩
  · have hlm : len ≤ m := by rw [hmm]; split <;> omega
    have key : ∀ i, i < len → ∃ x : α, ∃ cs', W.cells? base (a.add (i * Try.prog.cellsOf e)) (Try.prog.cellsOf e) = some cs' ∧ d.K W x cs' ∧ ok x := fun i him => by
      obtain ⟨cs', h1, h2⟩ := hi i (by omega)
      obtain ⟨x, hx, hk⟩ := hd H enc W base spare held n cs' _ h2
      exact ⟨x, cs', h1, hx, hk⟩
    obtain ⟨f, hf⟩ := Deep.choose_lt key
    have hlen : ((List.range len).map f).length = len := by simp
    refine ⟨(List.range len).map f, ⟨some a, cap, by rw [hlen], by rw [hlen]; exact hl, ?_⟩, by rw [hlen]; exact Nat.le_trans hl hm, ?_⟩
    · refine ⟨rfl, ?_, fun _ => ⟨a, rfl, fun j p hj => ?_⟩⟩
      · rw [hlen]; have := Nat.le_trans hl hm; simpa only [maxLen] using this
      · have hj' : j < len := by
          have := (List.getElem?_eq_some_iff.1 hj).1
          simpa using this
        have hp : f j = p := by
          have := (List.getElem?_eq_some_iff.1 hj).2
          simpa using this
        obtain ⟨cs', h1, h2, _⟩ := hf j hj'
        obtain ⟨_, hcl, hat⟩ := World.cells?_some h1
        rw [hc] at hcl hat
        refine ⟨cs', hcl, hp ▸ h2, fun i u hu => ?_⟩
        have hil : i < d.sz := by rw [← hcl]; exact (List.getElem?_eq_some_iff.1 hu).1
        rw [← Deep.add_add, hat i hil, hu]
    · intro x hx
      obtain ⟨i, hi', rfl⟩ := List.mem_map.1 hx
      obtain ⟨_, _, _, hk⟩ := hf i (List.mem_range.1 hi')
      exact hk
theorem struct_cells {H : Type} {enc : TypeId × Value → H} {W : World} {base : Nat} {spare : Nat → Bool} {held : Bool} {fuel : Nat} {t : TypeId} {fs : Array Field} {cs : List Value} {y : DataW H × List MemPlace}
    (ht : Try.prog.underlying t = some (.struct fs)) (hone : ∀ (j : Nat) (f : Field), fs[j]? = some f → f.offset = j ∧ Try.prog.cellsOf f.type = 1) (hC : Try.prog.cellsOf t = fs.size) (h : DataW.trod enc Try.prog W base spare held fuel t cs = some y) :
    cs.length = fs.size ∧ ∃ n, ∀ (j : Nat) (f : Field), fs[j]? = some f → ∃ (v : Value) (z : DataW H × List MemPlace), cs[j]? = some v ∧ DataW.trod enc Try.prog W base spare held n f.type [v] = some z := by
  obtain ⟨xs, n, _, _, hl, hx, hf⟩ := DataW.trod_struct ht h
  rw [hC] at hl
  refine ⟨hl, n, fun j f hj => ?_⟩
  obtain ⟨ho, hc⟩ := hone j f hj
  have hlt : j < fs.size := (Array.getElem?_eq_some_iff.1 hj).1
  have h1 := hf j f hj
  have h2 : (cs.drop j).take 1 = [cs[j]'(by omega)] := by
    rw [List.drop_eq_getElem_cons (by omega)]
    rfl
  rw [ho, hc, h2, List.getElem?_eq_getElem (show j < xs.length by omega)] at h1
  exact ⟨_, _, List.getElem?_eq_getElem (by omega), h1⟩
theorem bd64 {n : Int} (h : (Lit.int .i64 n).wf = true) : -9223372036854775808 ≤ n ∧ n ≤ 9223372036854775807 := by
  simp [Lit.wf, IntKind.min, IntKind.max, IntKind.signed, IntKind.bits] at h; omega
theorem bd32 {n : Int} (h : (Lit.int .i32 n).wf = true) : -2147483648 ≤ n ∧ n ≤ 2147483647 := by
  simp [Lit.wf, IntKind.min, IntKind.max, IntKind.signed, IntKind.bits] at h; omega
theorem bdu32 {n : Int} (h : (Lit.int .u32 n).wf = true) : 0 ≤ n ∧ n ≤ 4294967295 := by
  simp [Lit.wf, IntKind.min, IntKind.max, IntKind.signed, IntKind.bits] at h; omega
theorem plain_of {w : World} {ad : Addr} {v : Value} (h : w.cell? (ad.add 0) = some v) : ∃ b off, ad = ⟨b, off, none⟩ := by
  obtain ⟨b, off, spot⟩ := ad
  have hs : spot = none := by simpa [Addr.add] using World.cell?_spot h
  exact ⟨b, off, by rw [hs]⟩
end Go.Proofs.Ytehdhmhpmkkneaa

/- The openers of the structs that arguments are made of. The kind of type 28 is written by the kit's kinds.py. -/
namespace Go.Proofs.Ytehdhmhpmkkneaa
open Go.RowKit Go.Proofs.YtehdhmhpmkkneaaW.PrintWords Go.Proofs.Ytehdhmhpmkkneaa.PAll
/-! #### struct type 28 -/
structure S28 where
  f0 : Int
  f1 : Int
  f2 : ByteArray
def z28 : S28 := ⟨(0 : Int), (0 : Int), (⟨#[]⟩ : ByteArray)⟩
instance : Inhabited S119 := ⟨z119⟩
instance : Inhabited S80 := ⟨z80⟩
instance : Inhabited S131 := ⟨z131⟩
instance : Inhabited S93 := ⟨z93⟩
instance : Inhabited S134 := ⟨z134⟩
instance : Inhabited S28 := ⟨z28⟩
def Ok119 (x : S119) : Prop := (Lit.int .i64 x.f0).wf = true
def Ok80 (x : S80) : Prop := x.f0.size ≤ maxLen ∧ (Lit.int .i64 x.f1).wf = true ∧ (Lit.int .i64 x.f2).wf = true ∧ (Lit.int .i32 x.f3).wf = true ∧ (x.f4.length ≤ maxLen ∧ ∀ z ∈ x.f4, Ok119 z)
def Ok131 (x : S131) : Prop := (Lit.int .i64 x.f0).wf = true ∧ (Lit.int .i64 x.f1).wf = true
theorem opens131 : Opens 131 k131 Ok131 := by
  intro H enc W base spare held fuel cs y hy
  obtain ⟨hl, n, hf⟩ := struct_cells Try.underlying131 (Deep.hone_of (by kernel_rfl)) (by kernel_rfl) hy
  obtain ⟨v0, z0, e0, t0⟩ := hf 0 _ rfl
  obtain ⟨a0, g0, w0⟩ := opens_int Try.underlying3 H enc W base spare held n _ _ t0
  injection g0 with g0 _
  subst g0
  obtain ⟨v1, z1, e1, t1⟩ := hf 1 _ rfl
  obtain ⟨a1, g1, w1⟩ := opens_int Try.underlying3 H enc W base spare held n _ _ t1
  injection g1 with g1 _
  subst g1
  match cs, hl with
  | [c100, c101], _ =>
    injection e0 with e0; subst e0
    injection e1 with e1; subst e1
    exact ⟨⟨a0, a1⟩, k131_mk W _, ⟨w0, w1⟩⟩
def Ok93 (x : S93) : Prop := x.f0.size ≤ maxLen ∧ (Lit.int .u32 x.f1).wf = true
theorem opens93 : Opens 93 k93 Ok93 := by
  intro H enc W base spare held fuel cs y hy
  obtain ⟨hl, n, hf⟩ := struct_cells Try.underlying93 (Deep.hone_of (by kernel_rfl)) (by kernel_rfl) hy
  obtain ⟨v0, z0, e0, t0⟩ := hf 0 _ rfl
  obtain ⟨a0, g0, w0⟩ := opens_string Try.underlying9 H enc W base spare held n _ _ t0
  injection g0 with g0 _
  subst g0
  obtain ⟨v1, z1, e1, t1⟩ := hf 1 _ rfl
  obtain ⟨a1, g1, w1⟩ := opens_int Try.underlying39 H enc W base spare held n _ _ t1
  injection g1 with g1 _
  subst g1
  match cs, hl with
  | [c100, c101], _ =>
    injection e0 with e0; subst e0
    injection e1 with e1; subst e1
    exact ⟨⟨a0, a1⟩, k93_mk W _, ⟨w0, w1⟩⟩
def Ok134 (x : S134) : Prop := (Lit.int .i64 x.f0).wf = true ∧ (Lit.int .i64 x.f1).wf = true ∧ (Lit.int .i64 x.f2).wf = true ∧ (Lit.int .i64 x.f3).wf = true
theorem opens134 : Opens 134 k134 Ok134 := by
  intro H enc W base spare held fuel cs y hy
  obtain ⟨hl, n, hf⟩ := struct_cells Try.underlying134 (Deep.hone_of (by kernel_rfl)) (by kernel_rfl) hy
  obtain ⟨v0, z0, e0, t0⟩ := hf 0 _ rfl
  obtain ⟨a0, g0, w0⟩ := opens_int Try.underlying3 H enc W base spare held n _ _ t0
  injection g0 with g0 _
  subst g0
  obtain ⟨v1, z1, e1, t1⟩ := hf 1 _ rfl
  obtain ⟨a1, g1, w1⟩ := opens_int Try.underlying3 H enc W base spare held n _ _ t1
  injection g1 with g1 _
  subst g1
  obtain ⟨v2, z2, e2, t2⟩ := hf 2 _ rfl
  obtain ⟨a2, g2, w2⟩ := opens_int Try.underlying3 H enc W base spare held n _ _ t2
  injection g2 with g2 _
  subst g2
  obtain ⟨v3, z3, e3, t3⟩ := hf 3 _ rfl
  obtain ⟨a3, g3, w3⟩ := opens_int Try.underlying3 H enc W base spare held n _ _ t3
  injection g3 with g3 _
  subst g3
  match cs, hl with
  | [c100, c101, c102, c103], _ =>
    injection e0 with e0; subst e0
    injection e1 with e1; subst e1
    injection e2 with e2; subst e2
    injection e3 with e3; subst e3
    exact ⟨⟨a0, a1, a2, a3⟩, k134_mk W _, ⟨w0, w1, w2, w3⟩⟩
end Go.Proofs.Ytehdhmhpmkkneaa
