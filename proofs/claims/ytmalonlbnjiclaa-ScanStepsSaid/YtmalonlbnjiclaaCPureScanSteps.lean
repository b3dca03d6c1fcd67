/- ScanSteps: sign by sign, the scanner goes on behind what is wrong as the document does. No condition. -/
import Derived.Test.YtmalonlbnjiclaaCSs
import Derived.Test.YtmalonlbnjiclaaCSj
namespace Go.Proofs.Ytmalonlbnjiclaa.Pure
open Go.RowKit Go.Proofs.Ytmalonlbnjiclaa.PAll Go.Proofs.YtmalonlbnjiclaaW.PrintWords Go.Proofs.YtmalonlbnjiclaaW.PrintLast
set_option linter.unusedVariables false
set_option linter.unusedSimpArgs false
theorem is_sameS (x : Sg) : pascalinelaw08_is.f x.kind x.from_ x.to_ x.text x.n x.kind x.from_ x.to_ x.text x.n = some true := by
  unfold pascalinelaw08_is.f
  rw [if_pos rfl, if_pos rfl, if_pos rfl, if_pos rfl]
  simp
theorem steps_ev (s : ByteArray) (hs : s.size ≤ 140737488351232) : ∀ (d n p : Nat), 300 - n = d → n ≤ 300 → p ≤ s.size → Ev (fun k => pascalinelaw08_ScanSteps.l0 k s (p : Int) (n : Int) s (p : Int)) true := by
  intro d
  induction d using Nat.strongRecOn with
  | _ d ih =>
    intro n p hd hn hp
    by_cases hlt : n < 300
    · obtain ⟨K1, h1⟩ := next_ev s hs p hp
      obtain ⟨K2, h2⟩ := rnext_ev s hs p hp
      obtain ⟨K3, h3⟩ := ih (300 - (n + 1)) (by omega) (n + 1) (nextS s p).to_ rfl (by omega) (next_bd s p hp).2.2.1
      refine ⟨K1 + K2 + K3 + 1, fun k hk => ?_⟩
      obtain ⟨m, rfl⟩ : ∃ m, k = m + 1 := ⟨k - 1, by omega⟩
      have e1 := h1 m (by omega)
      have e2 := h2 m (by omega)
      have e3 := h3 m (by omega)
      dsimp only at e1 e2 e3
      dsimp only
      rw [pascalinelaw08_ScanSteps.l0, if_pos (by omega), e1, Option.bind_some, e2, Option.bind_some]
      dsimp only
      rw [is_sameS, Option.bind_some, if_pos rfl, if_pos rfl, wsuc1 n (by omega)]
      exact e3
    · refine ⟨1, fun k hk => ?_⟩
      obtain ⟨m, rfl⟩ : ∃ m, k = m + 1 := ⟨k - 1, by omega⟩
      dsimp only
      rw [pascalinelaw08_ScanSteps.l0, if_neg (by omega)]
theorem ScanSteps : pascalinelaw08_ScanSteps.Pure := by
  intro a0 hs
  obtain ⟨K0, h0⟩ := awake_ev
  obtain ⟨K1, h1⟩ := steps_ev a0 hs _ 0 0 rfl (by omega) (by omega)
  refine ⟨K0 + K1, ?_⟩
  have e0 := h0 (K0 + K1) (by omega)
  have e1 := h1 (K0 + K1) (by omega)
  dsimp only at e0 e1
  unfold pascalinelaw08_ScanSteps.f
  rw [e0, Option.bind_some, if_pos rfl]
  by_cases h2 : (a0.size : Int) > 2000
  · rw [if_pos h2]
  · rw [if_neg h2]
    unfold scan_New.f
    rw [Option.bind_some]
    exact e1
end Go.Proofs.Ytmalonlbnjiclaa.Pure
