/- The document's keys are the scanner's. No condition. -/
import Derived.Test.YtmalonlbnjiclaaCSf
import Derived.Test.YtmalonlbnjiclaaCPAllx11
namespace Go.Proofs.Ytmalonlbnjiclaa.Pure
open Go.RowKit Go.Proofs.Ytmalonlbnjiclaa.PAll Go.Proofs.YtmalonlbnjiclaaW.PrintWords Go.Proofs.YtmalonlbnjiclaaW.PrintLast
set_option linter.unusedVariables false
set_option linter.unusedSimpArgs false
theorem rkeysE : pascalineref08_keys.f = some keysL := rfl
theorem rkey_loop (w : ByteArray) (xs : List ByteArray) (hx : xs.length ≤ 100) : ∀ d i, xs.length - i = d → i ≤ xs.length →
    Ev (fun k => pascalineref08_Key.l0 k w xs (i : Int)) ((xs.drop i).any fun z => decide (z.toList = w.toList)) := by
  intro d
  induction d using Nat.strongRecOn with
  | _ d ih =>
    intro i hd hi
    by_cases hlt : i < xs.length
    · rw [List.drop_eq_getElem_cons hlt, List.any_cons]
      obtain ⟨K, hK⟩ := ih (xs.length - (i + 1)) (by omega) (i + 1) rfl (by omega)
      refine ⟨K + 1, fun k hk => ?_⟩
      obtain ⟨m, rfl⟩ : ∃ m, k = m + 1 := ⟨k - 1, by omega⟩
      have h2 := hK m (by omega)
      dsimp only at h2
      simp only [pascalineref08_Key.l0]
      rw [if_pos (by omega), if_pos (by omega), rdOf_at xs i hlt, wsuc1 i (by omega)]
      by_cases he : xs[i].toList = w.toList
      · rw [if_pos he, decide_eq_true he, Bool.true_or]
      · rw [if_neg he, decide_eq_false he, Bool.false_or]
        exact h2
    · rw [List.drop_eq_nil_of_le (by omega)]
      refine ⟨1, fun k hk => ?_⟩
      obtain ⟨m, rfl⟩ : ∃ m, k = m + 1 := ⟨k - 1, by omega⟩
      simp only [pascalineref08_Key.l0]
      rw [if_neg (by omega)]
      rfl
theorem rkey_ev (w : ByteArray) : Ev (fun k => pascalineref08_Key.f k w) (keyW w) := by
  obtain ⟨K, hK⟩ := rkey_loop w keysL (by rw [keysN]; omega) _ 0 rfl (by omega)
  refine ⟨K, fun k hk => ?_⟩
  have := hK k hk
  simp only [pascalineref08_Key.f, rkeysE, Option.bind_some]
  exact this
end Go.Proofs.Ytmalonlbnjiclaa.Pure
