/- FingerSums: for every sum and all bytes (at most 2000 of them), finger.More and finger.Sum answer what the document's More answers; with more bytes the law asks nothing. No condition. -/
import Derived.Test.YtekbdafjdljdbaaPFingerSumsx1
namespace Go.Proofs.Ytekbdafjdljdbaa.Pure
open Go.RowKit Go.Proofs.Ytekbdafjdljdbaa.PFingerSums Go.Proofs.YtekbdafjdljdbaaW.PrintWords Go.Proofs.YtekbdafjdljdbaaW.PrintLast

/-- The code's loop and the document's loop are one. -/
theorem more_eq (l : List Int) : ∀ (k : Nat) (s i : Int), finger_More.l0 k s l (l.length : Int) i = pascalineref13_More.l0 k s l i
  | 0, _, _ => rfl
  | k + 1, s, i => by
    simp only [finger_More.l0, pascalineref13_More.l0]
    by_cases h : i < (l.length : Int)
    · by_cases h0 : 0 ≤ i
      · simp only [h, h0, if_true]
        exact more_eq l k _ _
      · simp only [h0, if_false, h, if_true]
    · simp only [h, if_false]

theorem more_some (l : List Int) (hl : l.length ≤ 140737488351232) : ∀ (k : Nat) (s i : Int), 0 ≤ i → i ≤ (l.length : Int) → (l.length : Int) - i < k → ∃ r, pascalineref13_More.l0 k s l i = some r
  | 0, s, i, h0, h1, hk => by
    exfalso; simp only [Int.natCast_zero] at hk; omega
  | k + 1, s, i, h0, h1, hk => by
    simp only [pascalineref13_More.l0]
    by_cases h : i < (l.length : Int)
    · rw [if_pos h, if_pos h0]
      have e : wrap64 (i + 1) = i + 1 := by unfold wrap64; omega
      rw [e]
      exact more_some l hl k _ _ (by omega) (by omega) (by omega)
    · rw [if_neg h]
      exact ⟨_, rfl⟩

theorem FingerSums : pascalinelaw13_FingerSums.Pure := by
  intro a l ha hm hl hw
  refine ⟨l.length + 1, ?_⟩
  obtain ⟨r, hr⟩ := more_some l (by omega) (l.length + 1) a 0 (Int.le_refl _) (by omega) (by omega)
  obtain ⟨q, hq⟩ := more_some l (by omega) (l.length + 1) 2166136261 0 (Int.le_refl _) (by omega) (by omega)
  have f1 : pascalineref13_More.f (l.length + 1) a l = some r := hr
  have f2 : pascalineref13_More.f (l.length + 1) 2166136261 l = some q := hq
  have g1 : finger_More.f (l.length + 1) a l = some r := (more_eq l _ _ _).trans hr
  have g2 : finger_More.f (l.length + 1) 2166136261 l = some q := (more_eq l _ _ _).trans hq
  have g3 : finger_Sum.f (l.length + 1) l = some q := by unfold finger_Sum.f; rw [g2]; rfl
  have g4 : pascalinelaw13_awake.f (l.length + 1) = some true := by
    unfold pascalinelaw13_awake.f finger_Sum.f finger_More.f
    simp [finger_More.l0]
  unfold pascalinelaw13_FingerSums.f
  rw [g4, f1, g1, g3, f2]
  simp

end Go.Proofs.Ytekbdafjdljdbaa.Pure
