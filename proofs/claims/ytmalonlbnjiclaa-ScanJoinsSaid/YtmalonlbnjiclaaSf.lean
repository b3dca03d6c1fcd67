/- The page's example is scanned as it should: the laws' first line. No condition. -/
import Derived.Test.YtmalonlbnjiclaaSe
namespace Go.Proofs.Ytmalonlbnjiclaa.Pure
open Go.RowKit Go.Proofs.Ytmalonlbnjiclaa.PAll Go.Proofs.YtmalonlbnjiclaaW.PrintWords Go.Proofs.YtmalonlbnjiclaaW.PrintLast
set_option linter.unusedVariables false
set_option linter.unusedSimpArgs false

def exB : ByteArray := ⟨#[120, 32, 58, 61, 32, 36, 70, 70]⟩
theorem ex0 : (nextS exB 0).kind = 1 ∧ (nextS exB 0).to_ = 1 ∧ (nextS exB 0).e = 0 := by decide +kernel
theorem ex1 : (nextS exB 1).kind = 6 ∧ (nextS exB 1).to_ = 4 ∧ (nextS exB 1).e = 0 := by decide +kernel
theorem ex2 : (nextS exB 4).kind = 2 ∧ (nextS exB 4).to_ = 8 ∧ (nextS exB 4).e = 0 ∧ (nextS exB 4).n = 255 := by decide +kernel
theorem ex3 : (nextS exB 8).kind = 0 ∧ (nextS exB 8).e = 0 := by decide +kernel
theorem exReads : Reads exB 0 [nextS exB 0, nextS exB 1, nextS exB 4, nextS exB 8] 0 0 := by
  have r3 := Reads.last (s := exB) 8 ex3.2 ex3.1
  have r2 := Reads.more (s := exB) 4 _ _ _ ex2.2.2.1 (by rw [ex2.1]; decide) (by rw [ex2.2.1]; exact r3)
  have r1 := Reads.more (s := exB) 1 _ _ _ ex1.2.2 (by rw [ex1.1]; decide) (by rw [ex1.2.1]; exact r2)
  have r0 := Reads.more (s := exB) 0 _ _ _ ex0.2.2 (by rw [ex0.1]; decide) (by rw [ex0.2.1]; exact r1)
  exact r0
theorem awake_ev : Ev (fun k => pascalinelaw08_awake.f k) true := by
  obtain ⟨K, hK⟩ := all_ev (s := exB) (by decide) exReads
  refine ⟨K, fun k hk => ?_⟩
  have h2 := hK k hk
  dsimp only at h2
  show pascalinelaw08_awake.f k = _
  unfold pascalinelaw08_awake.f
  rw [show (⟨#[120, 32, 58, 61, 32, 36, 70, 70]⟩ : ByteArray) = exB from rfl, h2, Option.bind_some]
  have a0 : rd_T32 ([nextS exB 0, nextS exB 1, nextS exB 4, nextS exB 8].map sgn) 0 = sgn (nextS exB 0) := rfl
  have a1 : rd_T32 ([nextS exB 0, nextS exB 1, nextS exB 4, nextS exB 8].map sgn) 1 = sgn (nextS exB 1) := rfl
  have a2 : rd_T32 ([nextS exB 0, nextS exB 1, nextS exB 4, nextS exB 8].map sgn) 2 = sgn (nextS exB 4) := rfl
  have a3 : rd_T32 ([nextS exB 0, nextS exB 1, nextS exB 4, nextS exB 8].map sgn) 3 = sgn (nextS exB 8) := rfl
  dsimp only
  rw [a0, a1, a2, a3]
  have l4 : ([nextS exB 0, nextS exB 1, nextS exB 4, nextS exB 8].map sgn).length = 4 := rfl
  rw [l4]
  rw [if_pos rfl, if_pos (by decide), if_pos (by decide), if_pos (show (sgn (nextS exB 0)).f0 = 1 from ex0.1), if_pos (by decide), if_pos (show (sgn (nextS exB 1)).f0 = 6 from ex1.1), if_pos (by decide), if_pos (show (sgn (nextS exB 4)).f0 = 2 from ex2.1), if_pos (show (sgn (nextS exB 4)).f4 = 255 from ex2.2.2.2), if_pos (by decide), if_pos (show (sgn (nextS exB 8)).f0 = 0 from ex3.1)]
end Go.Proofs.Ytmalonlbnjiclaa.Pure
