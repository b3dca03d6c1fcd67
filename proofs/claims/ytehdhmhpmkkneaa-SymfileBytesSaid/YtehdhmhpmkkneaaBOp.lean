/- From an argument's reading to its cells: numbers, bools, strings, slices and structs of one-cell fields. -/
import Derived.Test.YtehdhmhpmkkneaaBPAllx0
import Derived.Deep.Slices
import Derived.ProofKit
namespace Go.Proofs.Ytehdhmhpmkkneaa
open Go.RowKit Go.Proofs.YtehdhmhpmkkneaaW.PrintWords Go.Proofs.Ytehdhmhpmkkneaa.PAll
/-- Whatever reads as a datum of type t has the cells of a value of kind d. -/
def Opens {α : Type} (t : TypeId) (d : Kd α) (ok : α → Prop) : Prop :=
  ∀ (H : Type) (enc : TypeId × Value → H) (W : World) (base : Nat) (spare : Nat → Bool) (held : Bool) (fuel : Nat) (cs : List Value) (y : DataW H × List MemPlace),
    DataW.trod enc Try.prog W base spare held fuel t cs = some y → ∃ x, d.K W x cs ∧ ok x
theorem opens_int {t : TypeId} {k : IntKind} (h : Try.prog.underlying t = some (.int k)) : Opens t (Kd.int k) (fun x => (Lit.int k x).wf = true) :=
  fun _ _ _ _ _ _ _ _ _ hy => by
    obtain ⟨n, rfl, _, hw⟩ := DataW.trod_int h hy
    exact ⟨n, rfl, hw⟩
theorem opens_bool {t : TypeId} (h : Try.prog.underlying t = some .bool) : Opens t Kd.bool (fun _ => True) :=
  fun _ _ _ _ _ _ _ _ _ hy => by
    obtain ⟨b, rfl, _⟩ := DataW.trod_bool h hy
    exact ⟨b, rfl, trivial⟩
theorem opens_string {t : TypeId} (h : Try.prog.underlying t = some .string) : Opens t Kd.string (fun s => s.size ≤ maxLen) :=
  fun _ _ _ _ _ _ _ _ _ hy => by
    obtain ⟨s, rfl, _, hl⟩ := DataW.trod_string h hy
    exact ⟨s, rfl, hl⟩
theorem opens_slice {α : Type} [Inhabited α] {t e : TypeId} {d : Kd α} {ok : α → Prop} (ht : Try.prog.underlying t = some (.slice e)) (hc : Try.prog.cellsOf e = d.sz) (hd : Opens e d ok) :
    Opens t (Kd.slice e d) (fun xs => xs.length ≤ maxLen ∧ ∀ x ∈ xs, ok x) := by
  intro H enc W base spare held fuel cs y hy
  rcases Deep.open_slice ht hy with ⟨rfl, _⟩ | ⟨a, len, cap, m, n, D, Pl, rfl, hb, hl, hm, hmm, _, hi⟩
  · exact ⟨[], ⟨none, 0, rfl, Nat.le_refl _, rfl, by simp, fun h => absurd h (Nat.lt_irrefl _)⟩, by simp, by simp⟩
  · have hlm : len ≤ m := by rw [hmm]; split <;> omega
    have key : ∀ i, i < len → ∃ x : α, ∃ cs', W.cells? base (a.add (i * Try.prog.cellsOf e)) (Try.prog.cellsOf e) = some cs' ∧ d.K W x cs' ∧ ok x := fun i him => by
      obtain ⟨cs', h1, h2⟩ := hi i (by omega)
      obtain ⟨x, hx, hk⟩ := hd H enc W base spare held n cs' _ h2
      exact ⟨x, cs', h1, hx, hk⟩
    obtain ⟨f, hf⟩ := Deep.choose_lt key
    have hlen : ((List.range len).map f).length = len := by simp
    refine ⟨(List.range len).map f, ⟨some a, cap, by rw [hlen], by rw [hlen]; exact hl, ?_⟩, by rw [hlen]; exact Nat.le_trans hl hm, ?_⟩
    · refine ⟨rfl, ?_, fun _ => ⟨a, rfl, fun j p hj => ?_⟩⟩
      · rw [hlen]; have := Nat.le_trans hl hm; simpa only [maxLen] using this
      · have hj' : j < len := by
          have := (List.getElem?_eq_some_iff.1 hj).1
          simpa using this
        have hp : f j = p := by
          have := (List.getElem?_eq_some_iff.1 hj).2
          simpa using this
        obtain ⟨cs', h1, h2, _⟩ := hf j hj'
        obtain ⟨_, hcl, hat⟩ := World.cells?_some h1
        rw [hc] at hcl hat
        refine ⟨cs', hcl, hp ▸ h2, fun i u hu => ?_⟩
        have hil : i < d.sz := by rw [← hcl]; exact (List.getElem?_eq_some_iff.1 hu).1
        rw [← Deep.add_add, hat i hil, hu]
    · intro x hx
      obtain ⟨i, hi', rfl⟩ := List.mem_map.1 hx
      obtain ⟨_, _, _, hk⟩ := hf i (List.mem_range.1 hi')
      exact hk
/-- A struct of one-cell fields: each field's cell with its own reading. -/
theorem struct_cells {H : Type} {enc : TypeId × Value → H} {W : World} {base : Nat} {spare : Nat → Bool} {held : Bool} {fuel : Nat} {t : TypeId} {fs : Array Field} {cs : List Value} {y : DataW H × List MemPlace}
    (ht : Try.prog.underlying t = some (.struct fs)) (hone : ∀ (j : Nat) (f : Field), fs[j]? = some f → f.offset = j ∧ Try.prog.cellsOf f.type = 1) (hC : Try.prog.cellsOf t = fs.size) (h : DataW.trod enc Try.prog W base spare held fuel t cs = some y) :
    cs.length = fs.size ∧ ∃ n, ∀ (j : Nat) (f : Field), fs[j]? = some f → ∃ (v : Value) (z : DataW H × List MemPlace), cs[j]? = some v ∧ DataW.trod enc Try.prog W base spare held n f.type [v] = some z := by
  obtain ⟨xs, n, _, _, hl, hx, hf⟩ := DataW.trod_struct ht h
  rw [hC] at hl
  refine ⟨hl, n, fun j f hj => ?_⟩
  obtain ⟨ho, hc⟩ := hone j f hj
  have hlt : j < fs.size := (Array.getElem?_eq_some_iff.1 hj).1
  have h1 := hf j f hj
  have h2 : (cs.drop j).take 1 = [cs[j]'(by omega)] := by
    rw [List.drop_eq_getElem_cons (by omega)]
    rfl
  rw [ho, hc, h2, List.getElem?_eq_getElem (show j < xs.length by omega)] at h1
  exact ⟨_, _, List.getElem?_eq_getElem (by omega), h1⟩
theorem bd64 {n : Int} (h : (Lit.int .i64 n).wf = true) : -9223372036854775808 ≤ n ∧ n ≤ 9223372036854775807 := by
  simp [Lit.wf, IntKind.min, IntKind.max, IntKind.signed, IntKind.bits] at h; omega
theorem bd32 {n : Int} (h : (Lit.int .i32 n).wf = true) : -2147483648 ≤ n ∧ n ≤ 2147483647 := by
  simp [Lit.wf, IntKind.min, IntKind.max, IntKind.signed, IntKind.bits] at h; omega
theorem bdu32 {n : Int} (h : (Lit.int .u32 n).wf = true) : 0 ≤ n ∧ n ≤ 4294967295 := by
  simp [Lit.wf, IntKind.min, IntKind.max, IntKind.signed, IntKind.bits] at h; omega
/-- The address of what is read is plain. -/
theorem plain_of {w : World} {ad : Addr} {v : Value} (h : w.cell? (ad.add 0) = some v) : ∃ b off, ad = ⟨b, off, none⟩ := by
  obtain ⟨b, off, spot⟩ := ad
  have hs : spot = none := by simpa [Addr.add] using World.cell?_spot h
  exact ⟨b, off, by rw [hs]⟩
end Go.Proofs.Ytehdhmhpmkkneaa
