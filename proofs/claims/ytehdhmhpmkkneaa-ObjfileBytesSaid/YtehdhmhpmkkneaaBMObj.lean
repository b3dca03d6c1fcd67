/- MObj. -/
import Derived.Deep.RegionLaw
import Derived.Deep.RegionHeld3
import Derived.Test.YtehdhmhpmkkneaaBMSym2
import Derived.Test.YtehdhmhpmkkneaaBPAlly24
import Derived.Test.YtehdhmhpmkkneaaBPAlly29
import Derived.Test.YtehdhmhpmkkneaaBPAlly29b
import Derived.Test.YtehdhmhpmkkneaaBOp2
/- The texts Mq, Mr, Ms, Oq, one behind the other. -/
/- Plain laws of objects: what the two sides' checks compute is one. -/
namespace Go.Proofs.Ytehdhmhpmkkneaa
open Go.RowKit Go.Proofs.YtehdhmhpmkkneaaW.PrintWords Go.Proofs.YtehdhmhpmkkneaaW.PrintLast Go.Proofs.Ytehdhmhpmkkneaa.PAll
theorem rd131 (l : List S131) (i : Nat) (h : i < l.length) : rd_T131 l (i : Int) = l[i] := by simp [rd_T131, List.getD, h]
theorem rd134 (l : List S134) (i : Nat) (h : i < l.length) : rd_T134 l (i : Int) = l[i] := by simp [rd_T134, List.getD, h]
def segS (n : Int) : Int → List S131 → Bool
  | _, [] => true
  | last, s :: r => decide (last < s.f0 ∧ s.f0 < n ∧ -1 ≤ s.f1 ∧ s.f1 < n) && segS n s.f0 r
def wordsS (k : Int) : Int := if k = 3 then 1 else if k = 1 ∨ k = 2 ∨ k = 4 then 2 else 0
theorem words_code (x : Int) : Ev (fun k => objfile_words.f k x) (wordsS x) := by
  refine Ev.step (G := fun _ => some (wordsS x)) (fun k => ?_) (Ev.const _)
  unfold objfile_words.f wordsS
  simp only [objfile_words.j0]
  by_cases h1 : x = 1
  · subst h1; rfl
  by_cases h2 : x = 2
  · subst h2; rfl
  by_cases h4 : x = 4
  · subst h4; rfl
  have e4 : (x == 4) = false := by simpa using h4
  rw [if_neg h1, if_neg h2, e4, if_neg (by decide)]
  by_cases h3 : x = 3
  · rw [if_pos h3, if_pos h3]
  · rw [if_neg h3, if_neg h3, if_neg (by omega)]
theorem words_ref (x : Int) : pascalineref15_Words.f x = some (wordsS x) := by
  unfold pascalineref15_Words.f wordsS
  repeat' split
  all_goals first | rfl | (exfalso; omega)
def fitS (n m data excs : Int) (f : S134) : Bool :=
  decide (wordsS f.f1 ≠ 0 ∧ 0 ≤ f.f0 ∧ f.f0 + wordsS f.f1 ≤ n ∧ 0 ≤ f.f2 ∧ f.f2 ≤ m ∧ 0 ≤ f.f3 ∧ f.f3 ≤ 16384 ∧
    (if f.f1 = 4 then f.f2 = 0 ∧ f.f3 = 0 else 0 < f.f2 ∨ (f.f1 = 1 ∧ f.f3 ≤ data) ∨ (f.f1 = 2 ∧ f.f3 < excs)))
theorem words_range (x : Int) : 0 ≤ wordsS x ∧ wordsS x ≤ 2 := by
  unfold wordsS
  repeat' split
  all_goals omega
set_option linter.unusedSimpArgs false in
theorem fit_code_j (k : Nat) (b0 : ByteArray) (z : Int) (l2 : List S93) (l3 : List Int) (l4 : List S134) (l5 : List S131) (d e y p q s t : Int) (hq : q = 1 ∨ q = 2 ∨ q = 3 ∨ q = 4) (hs : 0 ≤ s) :
    objfile_fits.j0 (k + 1) false b0 z l2 l3 l4 l5 d e y p q s t = some (decide (if q = 4 then s = 0 ∧ t = 0 else 0 < s ∨ (q = 1 ∧ t ≤ d) ∨ (q = 2 ∧ t < e))) := by
  simp only [objfile_fits.j0]
  have S1 : s > 0 ↔ ¬ s = 0 := by omega
  rcases hq with rfl | rfl | rfl | rfl
  all_goals by_cases h4 : s = 0
  all_goals simp [S1, h4]
  all_goals (repeat' split) <;> simp_all
  all_goals rfl
theorem fit_code (b0 : ByteArray) (z : Int) (l2 : List S93) (l3 : List Int) (l4 : List S134) (l5 : List S131) (d e y : Int) (f : S134) (h3 : l3.length ≤ 16384) :
    Ev (fun k => objfile_fits.f k b0 z l2 l3 l4 l5 d e y f.f0 f.f1 f.f2 f.f3) (fitS l3.length l2.length d e f) := by
  obtain ⟨p, q, s, t⟩ := f
  have hw := words_range q
  obtain ⟨k0, h0⟩ := words_code q
  replace h0 : ∀ k, k0 ≤ k → objfile_words.f k q = some (wordsS q) := h0
  refine ⟨k0 + 1, fun k hk => ?_⟩
  obtain ⟨j, rfl⟩ : ∃ j, k = j + 1 := ⟨k - 1, by omega⟩
  have hv := h0 (j + 1) (by omega)
  clear h0 hk
  have J0 : objfile_fits.j0 (j + 1) true b0 z l2 l3 l4 l5 d e y p q s t = some false := rfl
  unfold objfile_fits.f
  dsimp only
  rw [hv, J0]
  simp only [Option.bind_some]
  by_cases bad : wordsS q = 0 ∨ p < 0 ∨ p > (l3.length : Int) - wordsS q ∨ s < 0 ∨ s > (l2.length : Int) ∨ t < 0 ∨ t > 16384
  · have e0 : fitS l3.length l2.length d e ⟨p, q, s, t⟩ = false := by
      unfold fitS
      exact decide_eq_false (by dsimp only; omega)
    rw [e0]
    have wr : wrap64 ((l3.length : Int) - wordsS q) = (l3.length : Int) - wordsS q := by unfold wrap64; omega
    rw [wr]
    by_cases ht : t > 16384
    · rw [decide_eq_true ht, J0]
      repeat' split
      all_goals rfl
    · repeat' split
      all_goals first | rfl | (exfalso; omega)
  · have e1 : fitS l3.length l2.length d e ⟨p, q, s, t⟩ = decide (if q = 4 then s = 0 ∧ t = 0 else 0 < s ∨ (q = 1 ∧ t ≤ d) ∨ (q = 2 ∧ t < e)) := by
      unfold fitS
      rw [decide_eq_decide]
      dsimp only
      constructor
      · intro h; exact h.2.2.2.2.2.2.2
      · intro h; exact ⟨by omega, by omega, by omega, by omega, by omega, by omega, by omega, h⟩
    have e2 : decide (t > 16384) = false := decide_eq_false (by omega)
    have wr : wrap64 ((l3.length : Int) - wordsS q) = (l3.length : Int) - wordsS q := by unfold wrap64; omega
    have hq : q = 1 ∨ q = 2 ∨ q = 3 ∨ q = 4 := by unfold wordsS at bad; omega
    rw [wr, if_neg (by omega), if_neg (by omega), if_neg (by omega), if_neg (by omega), if_neg (by omega), if_neg (by omega), e2, e1]
    exact fit_code_j j b0 z l2 l3 l4 l5 d e y p q s t hq (by omega)
set_option linter.unusedSimpArgs false in
theorem fit_ref_j (k : Nat) (b0 : ByteArray) (z : Int) (l2 : List S93) (l3 : List Int) (l4 : List S134) (l5 : List S131) (d e y p q s t : Int) (hq : q = 1 ∨ q = 2 ∨ q = 3 ∨ q = 4) (hs : 0 ≤ s) :
    pascalineref15_Fits.j0 (k + 1) false b0 z l2 l3 l4 l5 d e y p q s t = some (decide (if q = 4 then s = 0 ∧ t = 0 else 0 < s ∨ (q = 1 ∧ t ≤ d) ∨ (q = 2 ∧ t < e))) := by
  simp only [pascalineref15_Fits.j0]
  have S1 : s > 0 ↔ ¬ s = 0 := by omega
  rcases hq with rfl | rfl | rfl | rfl
  all_goals by_cases h4 : s = 0
  all_goals simp [S1, h4]
  all_goals (repeat' split) <;> simp_all
  all_goals rfl
theorem fit_ref (b0 : ByteArray) (z : Int) (l2 : List S93) (l3 : List Int) (l4 : List S134) (l5 : List S131) (d e y : Int) (f : S134) (h3 : l3.length ≤ 16384) :
    Ev (fun k => pascalineref15_Fits.f k b0 z l2 l3 l4 l5 d e y f.f0 f.f1 f.f2 f.f3) (fitS l3.length l2.length d e f) := by
  obtain ⟨p, q, s, t⟩ := f
  have hw := words_range q
  refine ⟨1, fun k hk => ?_⟩
  obtain ⟨j, rfl⟩ : ∃ j, k = j + 1 := ⟨k - 1, by omega⟩
  have hv := words_ref q
  clear hk
  have J0 : pascalineref15_Fits.j0 (j + 1) true b0 z l2 l3 l4 l5 d e y p q s t = some false := rfl
  unfold pascalineref15_Fits.f
  dsimp only
  rw [hv, J0]
  simp only [Option.bind_some]
  by_cases bad : wordsS q = 0 ∨ p < 0 ∨ p > (l3.length : Int) - wordsS q ∨ s < 0 ∨ s > (l2.length : Int) ∨ t < 0 ∨ t > 16384
  · have e0 : fitS l3.length l2.length d e ⟨p, q, s, t⟩ = false := by
      unfold fitS
      exact decide_eq_false (by dsimp only; omega)
    rw [e0]
    by_cases hp : wordsS q = 0 ∨ p < 0 ∨ p > (l3.length : Int)
    · repeat' split
      all_goals first | rfl | (exfalso; omega)
    have wr : wrap64 (p + wordsS q) = p + wordsS q := by unfold wrap64; omega
    rw [wr]
    by_cases ht : t > 16384
    · rw [decide_eq_true ht, J0]
      repeat' split
      all_goals rfl
    · repeat' split
      all_goals first | rfl | (exfalso; omega)
  · have e1 : fitS l3.length l2.length d e ⟨p, q, s, t⟩ = decide (if q = 4 then s = 0 ∧ t = 0 else 0 < s ∨ (q = 1 ∧ t ≤ d) ∨ (q = 2 ∧ t < e)) := by
      unfold fitS
      rw [decide_eq_decide]
      dsimp only
      constructor
      · intro h; exact h.2.2.2.2.2.2.2
      · intro h; exact ⟨by omega, by omega, by omega, by omega, by omega, by omega, by omega, h⟩
    have e2 : decide (t > 16384) = false := decide_eq_false (by omega)
    have wr : wrap64 (p + wordsS q) = p + wordsS q := by unfold wrap64; omega
    have hq : q = 1 ∨ q = 2 ∨ q = 3 ∨ q = 4 := by unfold wordsS at bad; omega
    rw [wr, if_neg (by omega), if_neg (by omega), if_neg (by omega), if_neg (by omega), if_neg (by omega), if_neg (by omega), if_neg (by omega), e2, e1]
    exact fit_ref_j j b0 z l2 l3 l4 l5 d e y p q s t hq (by omega)
def headS (l : List S131) : Bool := decide (0 < l.length ∧ (rd_T131 l 0).f0 = 0)
theorem seg_code (l : List S131) (n : Int) (hn : n ≠ 0) (h63 : l.length ≤ 9223372036854775807) : ∀ m i last, i + m = l.length →
    Ev (fun k => objfile_segments.l0 k l n last l (l.length : Int) (i : Int)) (segS n last (l.drop i) && headS l)
  | 0, i, last, h => by
    rw [List.drop_of_length_le (by omega), segS, Bool.true_and]
    refine Ev.step (G := fun _ => some (headS l)) (fun k => ?_) (Ev.const _)
    simp only [objfile_segments.l0]
    rw [if_neg (by omega), if_neg hn]
    unfold headS
    by_cases h0 : (l.length : Int) > 0
    · rw [if_pos h0, if_pos h0]
      congr 1
      by_cases hz : (rd_T131 l 0).f0 = 0
      · rw [decide_eq_true ⟨by omega, hz⟩, hz]; rfl
      · rw [decide_eq_false (fun q => hz q.2)]
        simpa using hz
    · rw [if_neg h0, decide_eq_false (by omega)]
  | m + 1, i, last, h => by
    have hi : i < l.length := by omega
    rw [List.drop_eq_getElem_cons hi, segS]
    by_cases ok : last < l[i].f0 ∧ l[i].f0 < n ∧ -1 ≤ l[i].f1 ∧ l[i].f1 < n
    · rw [decide_eq_true ok, Bool.true_and]
      have ih := seg_code l n hn h63 m (i + 1) l[i].f0 (by omega)
      refine Ev.step (fun k => ?_) ih
      simp only [objfile_segments.l0]
      rw [if_pos (by omega), if_pos (by omega), if_pos (by omega), rd131 l i hi, if_neg (by omega), if_neg (by omega), if_neg (by omega), if_neg (by omega), wrap64_nat i (by omega)]
    · rw [decide_eq_false ok, Bool.false_and, Bool.false_and]
      refine Ev.step (G := fun _ => some false) (fun k => ?_) (Ev.const _)
      simp only [objfile_segments.l0]
      rw [if_pos (by omega), if_pos (by omega), if_pos (by omega), rd131 l i hi]
      repeat' split
      all_goals first | rfl | (exfalso; omega)
def fixS (n m d e : Int) : Int → List S134 → Bool
  | _, [] => true
  | free, f :: r => (fitS n m d e f && decide (free ≤ f.f0)) && fixS n m d e (f.f0 + wordsS f.f1) r
theorem fit_in {n m d e : Int} {f : S134} (h : fitS n m d e f = true) : 0 ≤ f.f0 ∧ f.f0 + wordsS f.f1 ≤ n := by
  unfold fitS at h
  have := of_decide_eq_true h
  exact ⟨this.2.1, this.2.2.1⟩
section
variable (b0 : ByteArray) (z : Int) (l2 : List S93) (l3 : List Int) (l4 : List S134) (l5 : List S131) (d e y : Int)
theorem fix_code (h3 : l3.length ≤ 16384) (h63 : l4.length ≤ 9223372036854775807) : ∀ m i free, i + m = l4.length → (-1 ≤ free ∧ free ≤ 16384) →
    Ev (fun k => objfile_Check.l0 k (free - 1) l4 (l4.length : Int) (i : Int) b0 z l2 l3 l4 l5 d e y) (if fixS l3.length l2.length d e free (l4.drop i) = true then 0 else 121)
  | 0, i, free, h, _ => by
    rw [List.drop_of_length_le (by omega), fixS, if_pos rfl]
    refine Ev.step (G := fun _ => some 0) (fun k => ?_) (Ev.const _)
    simp only [objfile_Check.l0]
    rw [if_neg (by omega)]
  | m + 1, i, free, h, hf => by
    have hi : i < l4.length := by omega
    rw [List.drop_eq_getElem_cons hi, fixS]
    have FC := fit_code b0 z l2 l3 l4 l5 d e y l4[i] h3
    cases hfit : fitS l3.length l2.length d e l4[i]
    · rw [Bool.false_and, Bool.false_and, if_neg (by decide)]
      rw [hfit] at FC
      obtain ⟨k0, h0⟩ := FC
      refine ⟨k0 + 1, fun k hk => ?_⟩
      obtain ⟨j, rfl⟩ : ∃ j, k = j + 1 := ⟨k - 1, by omega⟩
      have hv := h0 j (by omega)
      dsimp only at hv ⊢
      simp only [objfile_Check.l0]
      rw [if_pos (by omega), if_pos (by omega), if_pos (by omega), rd134 l4 i hi, hv]
      rfl
    · rw [hfit] at FC
      have hin := fit_in hfit
      have hwr := words_range l4[i].f1
      rw [Bool.true_and]
      by_cases hfree : free ≤ l4[i].f0
      · rw [decide_eq_true hfree, Bool.true_and]
        have ih := fix_code h3 h63 m (i + 1) (l4[i].f0 + wordsS l4[i].f1) (by omega) (by omega)
        have WC := words_code l4[i].f1
        obtain ⟨k0, h0⟩ := FC
        obtain ⟨k1, h1⟩ := WC
        obtain ⟨k2, h2⟩ := ih
        refine ⟨k0 + k1 + k2 + 1, fun k hk => ?_⟩
        obtain ⟨j, rfl⟩ : ∃ j, k = j + 1 := ⟨k - 1, by omega⟩
        have hv := h0 j (by omega)
        have hw := h1 j (by omega)
        have hr := h2 j (by omega)
        dsimp only at hv hw hr ⊢
        simp only [objfile_Check.l0]
        rw [if_pos (by omega), if_pos (by omega), if_pos (by omega), rd134 l4 i hi, hv, hw]
        simp only [Option.bind_some]
        rw [if_pos trivial, if_neg (by omega), wrap64_nat i (by omega)]
        have e1 : wrap64 (wrap64 (l4[i].f0 + wordsS l4[i].f1) - 1) = l4[i].f0 + wordsS l4[i].f1 - 1 := by unfold wrap64; omega
        rw [e1]
        exact hr
      · rw [decide_eq_false hfree, Bool.false_and, if_neg (by decide)]
        obtain ⟨k0, h0⟩ := FC
        refine ⟨k0 + 1, fun k hk => ?_⟩
        obtain ⟨j, rfl⟩ : ∃ j, k = j + 1 := ⟨k - 1, by omega⟩
        have hv := h0 j (by omega)
        dsimp only at hv ⊢
        simp only [objfile_Check.l0]
        rw [if_pos (by omega), if_pos (by omega), if_pos (by omega), rd134 l4 i hi, hv]
        simp only [Option.bind_some]
        rw [if_pos trivial, if_pos (by omega)]
theorem fix_ref (h3 : l3.length ≤ 16384) (h63 : l4.length ≤ 9223372036854775807) : ∀ m i free, i + m = l4.length →
    Ev (fun k => pascalineref15_Check.l1 k free (i : Int) b0 z l2 l3 l4 l5 d e y) (if fixS l3.length l2.length d e free (l4.drop i) = true then 0 else 121)
  | 0, i, free, h => by
    rw [List.drop_of_length_le (by omega), fixS, if_pos rfl]
    refine Ev.step (G := fun _ => some 0) (fun k => ?_) (Ev.const _)
    simp only [pascalineref15_Check.l1]
    rw [if_neg (by omega)]
  | m + 1, i, free, h => by
    have hi : i < l4.length := by omega
    rw [List.drop_eq_getElem_cons hi, fixS]
    have FC := fit_ref b0 z l2 l3 l4 l5 d e y l4[i] h3
    cases hfit : fitS l3.length l2.length d e l4[i]
    · rw [Bool.false_and, Bool.false_and, if_neg (by decide)]
      rw [hfit] at FC
      obtain ⟨k0, h0⟩ := FC
      refine ⟨k0 + 1, fun k hk => ?_⟩
      obtain ⟨j, rfl⟩ : ∃ j, k = j + 1 := ⟨k - 1, by omega⟩
      have hv := h0 j (by omega)
      dsimp only at hv ⊢
      simp only [pascalineref15_Check.l1]
      rw [if_pos (by omega), if_pos (by omega), rd134 l4 i hi, hv]
      rfl
    · rw [hfit] at FC
      have hin := fit_in hfit
      have hwr := words_range l4[i].f1
      rw [Bool.true_and]
      by_cases hfree : free ≤ l4[i].f0
      · rw [decide_eq_true hfree, Bool.true_and]
        have ih := fix_ref h3 h63 m (i + 1) (l4[i].f0 + wordsS l4[i].f1) (by omega)
        obtain ⟨k0, h0⟩ := FC
        obtain ⟨k2, h2⟩ := ih
        refine ⟨k0 + k2 + 1, fun k hk => ?_⟩
        obtain ⟨j, rfl⟩ : ∃ j, k = j + 1 := ⟨k - 1, by omega⟩
        have hv := h0 j (by omega)
        have hr := h2 j (by omega)
        dsimp only at hv hr ⊢
        simp only [pascalineref15_Check.l1]
        rw [if_pos (by omega), if_pos (by omega), rd134 l4 i hi, hv, words_ref]
        simp only [Option.bind_some]
        rw [if_pos trivial, if_neg (by omega), wrap64_nat i (by omega)]
        have e1 : wrap64 (l4[i].f0 + wordsS l4[i].f1) = l4[i].f0 + wordsS l4[i].f1 := by unfold wrap64; omega
        rw [e1]
        exact hr
      · rw [decide_eq_false hfree, Bool.false_and, if_neg (by decide)]
        obtain ⟨k0, h0⟩ := FC
        refine ⟨k0 + 1, fun k hk => ?_⟩
        obtain ⟨j, rfl⟩ : ∃ j, k = j + 1 := ⟨k - 1, by omega⟩
        have hv := h0 j (by omega)
        dsimp only at hv ⊢
        simp only [pascalineref15_Check.l1]
        rw [if_pos (by omega), if_pos (by omega), rd134 l4 i hi, hv]
        simp only [Option.bind_some]
        rw [if_pos trivial, if_pos (by omega)]
def lastS (l : List S131) (i : Nat) : Int := if i = 0 then -1 else (rd_T131 l ((i - 1 : Nat) : Int)).f0
theorem seg_ref (h63 : l5.length ≤ 9223372036854775807) (hh : headS l5 = true) (n r : Int) (hr : Ev (fun k => pascalineref15_Check.l1 k 0 0 b0 z l2 l3 l4 l5 d e y) r) : ∀ m i, i + m = l5.length →
    Ev (fun k => pascalineref15_Check.l0 k n (i : Int) b0 z l2 l3 l4 l5 d e y) (if segS n (lastS l5 i) (l5.drop i) = true then r else 121)
  | 0, i, h => by
    rw [List.drop_of_length_le (by omega), segS, if_pos rfl]
    refine Ev.step (fun k => ?_) hr
    simp only [pascalineref15_Check.l0]
    rw [if_neg (by omega)]
  | m + 1, i, h => by
    have hi : i < l5.length := by omega
    rw [List.drop_eq_getElem_cons hi, segS]
    have l1 : lastS l5 (i + 1) = l5[i].f0 := by
      unfold lastS
      rw [if_neg (by omega)]
      exact congrArg S131.f0 (rd131 l5 i hi)
    by_cases ok : lastS l5 i < l5[i].f0 ∧ l5[i].f0 < n ∧ -1 ≤ l5[i].f1 ∧ l5[i].f1 < n
    · rw [decide_eq_true ok, Bool.true_and]
      have ih := seg_ref h63 hh n r hr m (i + 1) (by omega)
      rw [l1] at ih
      refine Ev.step (fun k => ?_) ih
      simp only [pascalineref15_Check.l0]
      rw [if_pos (by omega), if_pos (by omega), rd131 l5 i hi, if_neg (by omega), if_neg (by omega), if_neg (by omega), wrap64_nat i (by omega)]
      by_cases h0 : i = 0
      · rw [if_neg (by omega)]
      · have e1 : wrap64 ((i : Int) - 1) = ((i - 1 : Nat) : Int) := by unfold wrap64; omega
        have ok1 := ok.1
        unfold lastS at ok1
        rw [if_neg h0] at ok1
        rw [e1, if_pos (by omega), if_pos (by omega), if_pos (by omega), if_neg (by omega)]
    · rw [decide_eq_false ok, Bool.false_and, if_neg (by decide)]
      refine Ev.step (G := fun _ => some 121) (fun k => ?_) (Ev.const _)
      simp only [pascalineref15_Check.l0]
      rw [if_pos (by omega), if_pos (by omega), rd131 l5 i hi]
      by_cases h0 : i = 0
      · subst h0
        have e0 : l5[0].f0 = 0 := by
          have := (of_decide_eq_true hh).2
          rw [← this]
          exact (congrArg S131.f0 (rd131 l5 0 hi)).symm
        have e2 : lastS l5 0 = -1 := rfl
        repeat' split
        all_goals first | rfl | (exfalso; omega)
      · have e1 : wrap64 ((i : Int) - 1) = ((i - 1 : Nat) : Int) := by unfold wrap64; omega
        have e2 : lastS l5 i = (rd_T131 l5 ((i - 1 : Nat) : Int)).f0 := by unfold lastS; rw [if_neg h0]
        rw [e1]
        repeat' split
        all_goals first | rfl | (exfalso; omega)
def objS : Int :=
  if nameB b0 = true then
    (if impsS b0 l2 = 0 then
      (if l3.length > 16384 ∨ l4.length > 16384 ∨ l5.length > 16384 then 242
       else if d < 0 ∨ d > 16384 ∨ e < 0 ∨ e > 4096 then 244
       else if y < 0 ∨ y ≥ l3.length ∨ (segS l3.length (-1) l5 && headS l5) = false then 121
       else if fixS l3.length l2.length d e 0 l4 = true then 0 else 121)
     else impsS b0 l2)
  else 140
theorem obj_code (hb : b0.size ≤ 9223372036854775807) (h2 : ∀ x ∈ l2, x.f0.size ≤ 9223372036854775807) : Ev (fun k => objfile_Check.f k b0 z l2 l3 l4 l5 d e y) (objS b0 l2 l3 l4 l5 d e y) := by
  obtain ⟨k0, h0⟩ := name_code_f b0 hb
  unfold objS
  by_cases hn : nameB b0 = true
  rotate_left
  · rw [if_neg hn]
    refine ⟨k0, fun k hk => ?_⟩
    have hv := h0 k hk
    dsimp only at hv ⊢
    unfold objfile_Check.f
    rw [hv, Option.bind_some, if_neg hn]
  rw [if_pos hn]
  obtain ⟨k1, h1⟩ := imp_code_f b0 (nameB_size hn) l2 h2
  by_cases hi : impsS b0 l2 = 0
  rotate_left
  · rw [if_neg hi]
    refine ⟨k0 + k1, fun k hk => ?_⟩
    have hv := h0 k (by omega)
    have hw := h1 k (by omega)
    dsimp only at hv hw ⊢
    unfold objfile_Check.f symfile_Imports.f
    rw [hv, Option.bind_some, if_pos hn, hw]
    simp only [Option.bind_some]
    rw [if_neg hi]
  rw [if_pos hi]
  have J0 : ∀ j, objfile_Check.j0 (j + 1) true b0 z l2 l3 l4 l5 d e y = some 242 := fun j => rfl
  have J1 : ∀ j, objfile_Check.j1 (j + 1) true b0 z l2 l3 l4 l5 d e y = some 244 := fun j => rfl
  have head : ∀ {r : Int}, Ev (fun k => (if (l3.length : Int) > 16384 then (objfile_Check.j0 k true b0 z l2 l3 l4 l5 d e y) else (if (l4.length : Int) > 16384 then (objfile_Check.j0 k true b0 z l2 l3 l4 l5 d e y) else (objfile_Check.j0 k (decide ((l5.length : Int) > 16384)) b0 z l2 l3 l4 l5 d e y)))) r → Ev (fun k => objfile_Check.f k b0 z l2 l3 l4 l5 d e y) r := by
    rintro r ⟨k2, h2'⟩
    refine ⟨k0 + k1 + k2, fun k hk => ?_⟩
    have hv := h0 k (by omega)
    have hw := h1 k (by omega)
    have hr := h2' k (by omega)
    dsimp only at hv hw hr ⊢
    unfold objfile_Check.f symfile_Imports.f
    rw [hv, Option.bind_some, if_pos hn, hw]
    simp only [Option.bind_some]
    rw [if_pos hi]
    exact hr
  refine head ?_
  by_cases big : l3.length > 16384 ∨ l4.length > 16384 ∨ l5.length > 16384
  · rw [if_pos big]
    refine ⟨1, fun k hk => ?_⟩
    obtain ⟨j, rfl⟩ : ∃ j, k = j + 1 := ⟨k - 1, by omega⟩
    dsimp only
    rw [J0]
    by_cases h5 : l5.length > 16384
    · rw [decide_eq_true (by omega), J0]
      repeat' split
      all_goals rfl
    · by_cases h3 : (l3.length : Int) > 16384
      · rw [if_pos h3]
      · rw [if_neg h3, if_pos (by omega)]
  rw [if_neg big]
  have d5 : decide ((l5.length : Int) > 16384) = false := decide_eq_false (by omega)
  refine Ev.congr (G := fun k => objfile_Check.j0 k false b0 z l2 l3 l4 l5 d e y) (fun k => by rw [if_neg (by omega), if_neg (by omega), d5]) ?_
  by_cases bad : d < 0 ∨ d > 16384 ∨ e < 0 ∨ e > 4096
  · rw [if_pos bad]
    refine ⟨2, fun k hk => ?_⟩
    obtain ⟨j, rfl⟩ : ∃ j, k = j + 2 := ⟨k - 2, by omega⟩
    simp only [objfile_Check.j0]
    rw [if_neg (by decide), J1]
    by_cases he : e > 4096
    · rw [decide_eq_true he, J1]
      repeat' split
      all_goals rfl
    · repeat' split
      all_goals first | rfl | (exfalso; omega)
  rw [if_neg bad]
  have de : decide (e > 4096) = false := decide_eq_false (by omega)
  refine Ev.step (G := fun k => objfile_Check.j1 k false b0 z l2 l3 l4 l5 d e y) (fun k => by simp only [objfile_Check.j0]; rw [if_neg (by decide), if_neg (by omega), if_neg (by omega), if_neg (by omega), de]) ?_
  by_cases hy : y < 0 ∨ y ≥ l3.length
  · rw [if_pos (by omega)]
    refine Ev.step (G := fun _ => some 121) (fun k => ?_) (Ev.const _)
    simp only [objfile_Check.j1]
    rw [if_neg (by decide)]
    by_cases h : y < 0
    · rw [if_pos h]
    · rw [if_neg h, if_pos (by omega)]
  have SC := seg_code l5 l3.length (by omega) (by omega) l5.length 0 (-1) (by omega)
  rw [List.drop_zero] at SC
  obtain ⟨k2, hs⟩ := SC
  cases hseg : (segS l3.length (-1) l5 && headS l5)
  · rw [if_pos (.inr (.inr rfl))]
    refine ⟨k2 + 1, fun k hk => ?_⟩
    obtain ⟨j, rfl⟩ : ∃ j, k = j + 1 := ⟨k - 1, by omega⟩
    have hv := hs j (by omega)
    rw [hseg] at hv
    dsimp only at hv ⊢
    simp only [objfile_Check.j1]
    unfold objfile_segments.f
    rw [if_neg (by decide), if_neg (by omega), if_neg (by omega)]
    rw [show objfile_segments.l0 j l5 (l3.length : Int) (-1) l5 (l5.length : Int) 0 = some false from hv]
    rfl
  · rw [if_neg (fun q => q.elim (fun h => hy (.inl h)) (fun q => q.elim (fun h => hy (.inr h)) (fun h => by cases h)))]
    have FC := fix_code b0 z l2 l3 l4 l5 d e y (by omega) (by omega) l4.length 0 0 (by omega) (by omega)
    rw [List.drop_zero] at FC
    obtain ⟨k3, hf⟩ := FC
    refine ⟨k2 + k3 + 1, fun k hk => ?_⟩
    obtain ⟨j, rfl⟩ : ∃ j, k = j + 1 := ⟨k - 1, by omega⟩
    have hv := hs j (by omega)
    have hw := hf j (by omega)
    rw [hseg] at hv
    dsimp only at hv hw ⊢
    simp only [objfile_Check.j1]
    unfold objfile_segments.f
    rw [if_neg (by decide), if_neg (by omega), if_neg (by omega)]
    rw [show objfile_segments.l0 j l5 (l3.length : Int) (-1) l5 (l5.length : Int) 0 = some true from hv]
    simp only [Option.bind_some]
    rw [if_pos trivial]
    exact hw
theorem obj_ref (hb : b0.size ≤ 9223372036854775807) (h2 : ∀ x ∈ l2, x.f0.size ≤ 9223372036854775807) (hl2 : l2.length ≤ 9223372036854775807) : Ev (fun k => pascalineref15_Check.f k b0 z l2 l3 l4 l5 d e y) (objS b0 l2 l3 l4 l5 d e y) := by
  obtain ⟨k0, h0⟩ := name_ref_f b0 hb
  unfold objS
  by_cases hn : nameB b0 = true
  rotate_left
  · rw [if_neg hn]
    refine ⟨k0, fun k hk => ?_⟩
    have hv := h0 k hk
    dsimp only at hv ⊢
    unfold pascalineref15_Check.f
    rw [hv, Option.bind_some, if_neg hn]
  rw [if_pos hn]
  obtain ⟨k1, h1⟩ := imp_ref_f b0 l2 hl2 h2
  by_cases hi : impsS b0 l2 = 0
  rotate_left
  · rw [if_neg hi]
    refine ⟨k0 + k1, fun k hk => ?_⟩
    have hv := h0 k (by omega)
    have hw := h1 k (by omega)
    dsimp only at hv hw ⊢
    unfold pascalineref15_Check.f
    rw [hv, Option.bind_some, if_pos hn, hw]
    simp only [Option.bind_some]
    rw [if_neg hi]
  rw [if_pos hi]
  have J0 : ∀ j, pascalineref15_Check.j0 (j + 1) (l3.length : Int) true b0 z l2 l3 l4 l5 d e y = some 242 := fun j => rfl
  have J1 : ∀ j, pascalineref15_Check.j1 (j + 1) (l3.length : Int) true b0 z l2 l3 l4 l5 d e y = some 244 := fun j => rfl
  have J2 : ∀ j, pascalineref15_Check.j2 (j + 1) (l3.length : Int) true b0 z l2 l3 l4 l5 d e y = some 121 := fun j => rfl
  have head : ∀ {r : Int}, Ev (fun k => (if (l3.length : Int) > 16384 then (pascalineref15_Check.j0 k (l3.length : Int) true b0 z l2 l3 l4 l5 d e y) else (if (l4.length : Int) > 16384 then (pascalineref15_Check.j0 k (l3.length : Int) true b0 z l2 l3 l4 l5 d e y) else (pascalineref15_Check.j0 k (l3.length : Int) (decide ((l5.length : Int) > 16384)) b0 z l2 l3 l4 l5 d e y)))) r → Ev (fun k => pascalineref15_Check.f k b0 z l2 l3 l4 l5 d e y) r := by
    rintro r ⟨k2, h2'⟩
    refine ⟨k0 + k1 + k2, fun k hk => ?_⟩
    have hv := h0 k (by omega)
    have hw := h1 k (by omega)
    have hr := h2' k (by omega)
    dsimp only at hv hw hr ⊢
    unfold pascalineref15_Check.f
    rw [hv, Option.bind_some, if_pos hn, hw]
    simp only [Option.bind_some]
    rw [if_pos hi]
    exact hr
  refine head ?_
  by_cases big : l3.length > 16384 ∨ l4.length > 16384 ∨ l5.length > 16384
  · rw [if_pos big]
    refine ⟨1, fun k hk => ?_⟩
    obtain ⟨j, rfl⟩ : ∃ j, k = j + 1 := ⟨k - 1, by omega⟩
    dsimp only
    rw [J0]
    by_cases h5 : l5.length > 16384
    · rw [decide_eq_true (by omega), J0]
      repeat' split
      all_goals rfl
    · by_cases h3 : (l3.length : Int) > 16384
      · rw [if_pos h3]
      · rw [if_neg h3, if_pos (by omega)]
  rw [if_neg big]
  have d5 : decide ((l5.length : Int) > 16384) = false := decide_eq_false (by omega)
  refine Ev.congr (G := fun k => pascalineref15_Check.j0 k (l3.length : Int) false b0 z l2 l3 l4 l5 d e y) (fun k => by rw [if_neg (by omega), if_neg (by omega), d5]) ?_
  by_cases bad : d < 0 ∨ d > 16384 ∨ e < 0 ∨ e > 4096
  · rw [if_pos bad]
    refine ⟨2, fun k hk => ?_⟩
    obtain ⟨j, rfl⟩ : ∃ j, k = j + 2 := ⟨k - 2, by omega⟩
    simp only [pascalineref15_Check.j0]
    rw [if_neg (by decide), J1]
    by_cases he : e > 4096
    · rw [decide_eq_true he, J1]
      repeat' split
      all_goals rfl
    · repeat' split
      all_goals first | rfl | (exfalso; omega)
  rw [if_neg bad]
  have de : decide (e > 4096) = false := decide_eq_false (by omega)
  refine Ev.step (G := fun k => pascalineref15_Check.j1 k (l3.length : Int) false b0 z l2 l3 l4 l5 d e y) (fun k => by simp only [pascalineref15_Check.j0]; rw [if_neg (by decide), if_neg (by omega), if_neg (by omega), if_neg (by omega), de]) ?_
  by_cases hy : y < 0 ∨ y ≥ l3.length ∨ headS l5 = false
  · rw [if_pos (by
      rcases hy with h | h | h
      · exact .inl h
      · exact .inr (.inl h)
      · exact .inr (.inr (by rw [h, Bool.and_false])))]
    refine ⟨2, fun k hk => ?_⟩
    obtain ⟨j, rfl⟩ : ∃ j, k = j + 2 := ⟨k - 2, by omega⟩
    simp only [pascalineref15_Check.j1]
    rw [if_neg (by decide), J2]
    by_cases h : y < 0
    · rw [if_pos h]
    rw [if_neg h]
    by_cases h : y ≥ (l3.length : Int)
    · rw [if_pos h]
    rw [if_neg h]
    have hh : headS l5 = false := by
      rcases hy with h' | h' | h'
      · omega
      · omega
      · exact h'
    have hh' := of_decide_eq_false hh
    by_cases h0 : (l5.length : Int) = 0
    · rw [if_pos h0]
    · rw [if_neg h0, if_pos (by omega)]
      have : ((rd_T131 l5 0).f0 != 0) = true := by
        rw [bne_iff_ne]
        exact fun q => hh' ⟨by omega, q⟩
      rw [this, J2]
  have hh : headS l5 = true := by
    cases h : headS l5
    · exact absurd (.inr (.inr h)) hy
    · rfl
  have hh' := of_decide_eq_true hh
  have ne0 : ((rd_T131 l5 0).f0 != 0) = false := by rw [hh'.2]; rfl
  refine Ev.step (G := fun k => pascalineref15_Check.j2 k (l3.length : Int) false b0 z l2 l3 l4 l5 d e y) (fun k => by simp only [pascalineref15_Check.j1]; rw [if_neg (by decide), if_neg (by omega), if_neg (by omega), if_neg (by omega), if_pos (by omega), ne0]) ?_
  refine Ev.step (G := fun k => pascalineref15_Check.l0 k (l3.length : Int) ((0 : Nat) : Int) b0 z l2 l3 l4 l5 d e y) (fun k => by simp only [pascalineref15_Check.j2]; rw [if_neg (by decide)]; rfl) ?_
  have FR := fix_ref b0 z l2 l3 l4 l5 d e y (by omega) (by omega) l4.length 0 0 (by omega)
  rw [List.drop_zero] at FR
  have SR := seg_ref b0 z l2 l3 l4 l5 d e y (by omega) hh l3.length _ FR l5.length 0 (by omega)
  rw [List.drop_zero] at SR
  have e0 : lastS l5 0 = -1 := rfl
  rw [e0] at SR
  rw [hh, Bool.and_true]
  cases hseg : segS l3.length (-1) l5
  · rw [hseg, if_neg (by decide)] at SR
    rw [if_pos (.inr (.inr rfl))]
    exact SR
  · rw [hseg, if_pos rfl] at SR
    rw [if_neg (fun q => q.elim (fun h => hy (.inl h)) (fun q => q.elim (fun h => hy (.inr (.inl h))) (fun h => by cases h)))]
    exact SR
end
end Go.Proofs.Ytehdhmhpmkkneaa
/- ObjfileChecks: the law's walk. -/
namespace Go.Proofs.Ytehdhmhpmkkneaa
open Go.RowKit Go.Proofs.YtehdhmhpmkkneaaW.PrintWords Go.Proofs.YtehdhmhpmkkneaaW.PrintLast Go.Proofs.YtehdhmhpmkkneaaW.PrintMore Go.Proofs.Ytehdhmhpmkkneaa.PAll
theorem awake15 : pascalinelaw15_awake.f 40 = some true := by decide +kernel
set_option maxHeartbeats 1000000 in
set_option maxRecDepth 100000 in
theorem ref38 (b : ByteArray) (z : Int) (A2 A3 A4 A5 : Option Addr) (n2 n3 n4 n5 c2 c3 c4 c5 : Nat) (d e y : Int) (w : World) :
    Calls Try.prog 38 #[.agg #[.string b, .int .u32 z, .slice A2 n2 c2, .slice A3 n3 c3, .slice A4 n4 c4, .slice A5 n5 c5, .int .i64 d, .int .i64 e, .int .i64 y]] w fun en w' => en = .returned (.agg #[.string b, .int .u32 z, .slice A2 n2 c2, .slice A3 n3 c3, .slice A4 n4 c4, .slice A5 n5 c5, .int .i64 d, .int .i64 e, .int .i64 y]) ∧ Below w.heap.size w w' := by
  go_enter Try.func38, Try.ntmps38
  go_wp2
  refine bodyPost_ret (results_cell_row rfl _ _ (w.heap.size + 1) 64 #[.string b, .int .u32 z, .slice A2 n2 c2, .slice A3 n3 c3, .slice A4 n4 c4, .slice A5 n5 c5, .int .i64 d, .int .i64 e, .int .i64 y] (0, 0) _ rfl (by simpa using heap_alloc_new (w.alloc (.cells #[.string b, .int .u32 z, .slice A2 n2 c2, .slice A3 n3 c3, .slice A4 n4 c4, .slice A5 n5 c5, .int .i64 d, .int .i64 e, .int .i64 y] 60)) (.cells #[.string b, .int .u32 z, .slice A2 n2 c2, .slice A3 n3 c3, .slice A4 n4 c4, .slice A5 n5 c5, .int .i64 d, .int .i64 e, .int .i64 y] 64)) Try.underlying64 rfl (by kernel_rfl)) rfl ?_
  exact ⟨rfl, ((Below.refl _ _).alloc (Nat.le_refl _) _).alloc ((Below.refl _ _).alloc (Nat.le_refl _) _).size _⟩
section
variable (b : ByteArray) (z d e y : Int) (A2 A3 A4 A5 : Option Addr) (c2 c3 c4 c5 : Nat) (l2 : List S93) (l3 : List Int) (l4 : List S134) (l5 : List S131)
abbrev objV : Value := .agg #[.string b, .int .u32 z, .slice A2 l2.length c2, .slice A3 l3.length c3, .slice A4 l4.length c4, .slice A5 l5.length c5, .int .i64 d, .int .i64 e, .int .i64 y]
structure ObjAt (w : World) : Prop where
  r2 : Kd.C k93 w A2 l2.length l2
  h2 : l2.length ≤ c2
  r3 : Kd.C (Kd.int .u32) w A3 l3.length l3
  h3 : l3.length ≤ c3
  r4 : Kd.C k134 w A4 l4.length l4
  h4 : l4.length ≤ c4
  r5 : Kd.C k131 w A5 l5.length l5
  h5 : l5.length ≤ c5
variable {A2 A3 A4 A5 c2 c3 c4 c5 l2 l3 l4 l5}
theorem ObjAt.below {w w' : World} (h : ObjAt A2 A3 A4 A5 c2 c3 c4 c5 l2 l3 l4 l5 w) (hb : Below w.heap.size w w') : ObjAt A2 A3 A4 A5 c2 c3 c4 c5 l2 l3 l4 l5 w' :=
  ⟨Kd.C_below h.r2 hb, h.h2, Kd.C_below h.r3 hb, h.h3, Kd.C_below h.r4 hb, h.h4, Kd.C_below h.r5 hb, h.h5⟩
theorem obj_small (w : World) (h : ObjAt A2 A3 A4 A5 c2 c3 c4 c5 l2 l3 l4 l5 w) : ∃ r, Calls Try.prog 35 #[objV b z d e y A2 A3 A4 A5 c2 c3 c4 c5 l2 l3 l4 l5] w fun en w' => en = .returned (.bool r) ∧ Below w.heap.size w w' := by
  have : ∃ r, pascalinelaw15_small.f b z l2 l3 l4 l5 d e y = some r := by
    unfold pascalinelaw15_small.f
    repeat' split
    all_goals exact ⟨_, rfl⟩
  obtain ⟨r, hr⟩ := this
  exact ⟨r, pascalinelaw15_small.calls b z A2 c2 l2 A3 c3 l3 A4 c4 l4 A5 c5 l5 d e y r w h.r2 h.h2 h.r3 h.h3 h.r4 h.h4 h.r5 h.h5 hr⟩
theorem obj_check (w : World) (h : ObjAt A2 A3 A4 A5 c2 c3 c4 c5 l2 l3 l4 l5 w) (hb : b.size ≤ 9223372036854775807) (hs : ∀ x ∈ l2, x.f0.size ≤ 9223372036854775807) :
    Calls Try.prog 36 #[objV b z d e y A2 A3 A4 A5 c2 c3 c4 c5 l2 l3 l4 l5] w fun en w' => en = .returned (.int .i64 (objS b l2 l3 l4 l5 d e y)) ∧ Below w.heap.size w w' := by
  obtain ⟨k, hk⟩ := (obj_code b z l2 l3 l4 l5 d e y hb hs).one
  exact objfile_Check.calls k b z A2 c2 l2 A3 c3 l3 A4 c4 l4 A5 c5 l5 d e y _ w h.r2 h.h2 h.r3 h.h3 h.r4 h.h4 h.r5 h.h5 hk
theorem obj_rcheck (w : World) (h : ObjAt A2 A3 A4 A5 c2 c3 c4 c5 l2 l3 l4 l5 w) (hb : b.size ≤ 9223372036854775807) (hs : ∀ x ∈ l2, x.f0.size ≤ 9223372036854775807) (hl : l2.length ≤ 9223372036854775807) :
    Calls Try.prog 37 #[objV b z d e y A2 A3 A4 A5 c2 c3 c4 c5 l2 l3 l4 l5] w fun en w' => en = .returned (.int .i64 (objS b l2 l3 l4 l5 d e y)) ∧ Below w.heap.size w w' := by
  obtain ⟨k, hk⟩ := (obj_ref b z l2 l3 l4 l5 d e y hb hs hl).one
  exact pascalineref15_Check.calls k b z A2 c2 l2 A3 c3 l3 A4 c4 l4 A5 c5 l5 d e y _ w h.r2 h.h2 h.r3 h.h3 h.r4 h.h4 h.r5 h.h5 hk
end
end Go.Proofs.Ytehdhmhpmkkneaa
/- ObjfileChecks: the law's walk. -/
namespace Go.Proofs.Ytehdhmhpmkkneaa
open Go.RowKit Go.Proofs.YtehdhmhpmkkneaaW.PrintWords Go.Proofs.YtehdhmhpmkkneaaW.PrintLast Go.Proofs.YtehdhmhpmkkneaaW.PrintMore Go.Proofs.Ytehdhmhpmkkneaa.PAll
end Go.Proofs.Ytehdhmhpmkkneaa
/- An object that comes in, opened. -/
namespace Go.Proofs.Ytehdhmhpmkkneaa
open Go.RowKit Go.Proofs.YtehdhmhpmkkneaaW.PrintWords Go.Proofs.Ytehdhmhpmkkneaa.PAll
structure OkObj (b : ByteArray) (z d e y : Int) (l2 : List S93) (l3 : List Int) (l4 : List S134) (l5 : List S131) : Prop where
  b : b.size ≤ maxLen
  z : (Lit.int .u32 z).wf = true
  l2 : l2.length ≤ maxLen ∧ ∀ x ∈ l2, Ok93 x
  l3 : l3.length ≤ maxLen ∧ ∀ x ∈ l3, (Lit.int .u32 x).wf = true
  l4 : l4.length ≤ maxLen ∧ ∀ x ∈ l4, Ok134 x
  l5 : l5.length ≤ maxLen ∧ ∀ x ∈ l5, Ok131 x
  d : (Lit.int .i64 d).wf = true
  e : (Lit.int .i64 e).wf = true
  y : (Lit.int .i64 y).wf = true
theorem opens60 {H : Type} {enc : TypeId × Value → H} {W : World} {base : Nat} {spare : Nat → Bool} {held : Bool} {v : Value} {dd : DataW H} {p : List MemPlace} {cs : Array Value} (hv : v = .agg cs)
    (h : DataW.Trod enc Try.prog W base spare held 60 v dd p) :
    ∃ b z d e y A2 A3 A4 A5 c2 c3 c4 c5 l2 l3 l4 l5, v = objV b z d e y A2 A3 A4 A5 c2 c3 c4 c5 l2 l3 l4 l5 ∧ ObjAt A2 A3 A4 A5 c2 c3 c4 c5 l2 l3 l4 l5 W ∧ OkObj b z d e y l2 l3 l4 l5 := by
  obtain ⟨fuel, hy⟩ := h
  obtain ⟨hl, n, hf⟩ := struct_cells Try.underlying60 (Deep.hone_of (by kernel_rfl)) (by kernel_rfl) hy
  obtain ⟨v0, z0, e0, t0⟩ := hf 0 _ rfl
  obtain ⟨a0, g0, w0⟩ := opens_string Try.underlying9 H enc W base spare held n _ _ t0
  injection g0 with g0 _; subst g0
  obtain ⟨v1, z1, e1, t1⟩ := hf 1 _ rfl
  obtain ⟨a1, g1, w1⟩ := opens_int Try.underlying39 H enc W base spare held n _ _ t1
  injection g1 with g1 _; subst g1
  obtain ⟨v2, z2, e2, t2⟩ := hf 2 _ rfl
  obtain ⟨a2, ⟨A2, c2, g2, l2, h2⟩, w2⟩ := (opens_slice Try.underlying55 (by kernel_rfl) opens93) H enc W base spare held n _ _ t2
  injection g2 with g2 _; subst g2
  obtain ⟨v3, z3, e3, t3⟩ := hf 3 _ rfl
  obtain ⟨a3, ⟨A3, c3, g3, l3, h3⟩, w3⟩ := (opens_slice Try.underlying56 (by kernel_rfl) (opens_int Try.underlying39)) H enc W base spare held n _ _ t3
  injection g3 with g3 _; subst g3
  obtain ⟨v4, z4, e4, t4⟩ := hf 4 _ rfl
  obtain ⟨a4, ⟨A4, c4, g4, l4, h4⟩, w4⟩ := (opens_slice Try.underlying57 (by kernel_rfl) opens134) H enc W base spare held n _ _ t4
  injection g4 with g4 _; subst g4
  obtain ⟨v5, z5, e5, t5⟩ := hf 5 _ rfl
  obtain ⟨a5, ⟨A5, c5, g5, l5, h5⟩, w5⟩ := (opens_slice Try.underlying58 (by kernel_rfl) opens131) H enc W base spare held n _ _ t5
  injection g5 with g5 _; subst g5
  obtain ⟨v6, z6, e6, t6⟩ := hf 6 _ rfl
  obtain ⟨a6, g6, w6⟩ := opens_int Try.underlying3 H enc W base spare held n _ _ t6
  injection g6 with g6 _; subst g6
  obtain ⟨v7, z7, e7, t7⟩ := hf 7 _ rfl
  obtain ⟨a7, g7, w7⟩ := opens_int Try.underlying3 H enc W base spare held n _ _ t7
  injection g7 with g7 _; subst g7
  obtain ⟨v8, z8, e8, t8⟩ := hf 8 _ rfl
  obtain ⟨a8, g8, w8⟩ := opens_int Try.underlying3 H enc W base spare held n _ _ t8
  injection g8 with g8 _; subst g8
  refine ⟨a0, a1, a6, a7, a8, A2, A3, A4, A5, c2, c3, c4, c5, a2, a3, a4, a5, ?_, ⟨h2, l2, h3, l3, h4, l4, h5, l5⟩, ⟨w0, w1, w2, w3, w4, w5, w6, w7, w8⟩⟩
  subst hv
  obtain ⟨cs⟩ := cs
  replace hl : cs.length = 9 := by simpa [Value.cells] using hl
  simp only [Value.cells] at e0 e1 e2 e3 e4 e5 e6 e7 e8
  match cs, hl with
  | [y0, y1, y2, y3, y4, y5, y6, y7, y8], _ =>
    injection e0 with e0; subst e0
    injection e1 with e1; subst e1
    injection e2 with e2; subst e2
    injection e3 with e3; subst e3
    injection e4 with e4; subst e4
    injection e5 with e5; subst e5
    injection e6 with e6; subst e6
    injection e7 with e7; subst e7
    injection e8 with e8; subst e8
    rfl
end Go.Proofs.Ytehdhmhpmkkneaa
