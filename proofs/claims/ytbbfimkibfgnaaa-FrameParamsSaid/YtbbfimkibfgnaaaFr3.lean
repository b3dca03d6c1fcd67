/- The walk of the law FrameParams. -/
import Derived.Test.YtbbfimkibfgnaaaFr2
import Derived.Lib.Hide
import Derived.Deep.QuietTactic
import Derived.BigQuiet
import Derived.WalkSmall
namespace Go.Proofs.Ytbbfimkibfgnaaa
open Go.RowKit

section
attribute [local go_sem] max_two min_two max2_pos min2_16 min2_16384
set_option maxHeartbeats 400000 in
theorem frameParams_any (i m s t : Int) (w : World) :
    Calls Try.prog 4 #[.int .i64 i, .int .i64 m, .agg #[.int .i64 s, .int .i64 t]] w fun e w' => e = .returned (.bool true) ∧ Below w.heap.size w w' := by
  have b0 := between_bd m 16 (by omega)
  have b1 := between_bd s 16384 (by omega)
  have b2 := between_bd t 16384 (by omega)
  obtain ⟨b00, b01⟩ := b0
  obtain ⟨b10, b11⟩ := b1
  obtain ⟨b20, b21⟩ := b2
  by_cases h : 16 < m ∨ i < 0 ∨ m ≤ i
  all_goals
    have H := Lib.hid h
    clear h
    go_enter Try.func4, Try.ntmps4
    go_wp2_with (go_at_call 6; refine (awake_true _).mono ?_; rintro e w1 ⟨rfl, hb1⟩; have hc0 := bcell hb1 w.heap.size 0 (by simp); have hc1 := bcell hb1 w.heap.size 1 (by simp); simp at hc0 hc1)
    go_quiet (fail)
    go_wp2_with (first | (go_at_call 8; first | (refine (param_bad _ _ _ H.out).mono ?_; rintro e w2 ⟨rfl, rfl⟩) | (refine (param_ok _ _ _ (by have := H.out; omega) (by have := H.out; omega) (by have := H.out; omega)).mono ?_; rintro e w2 ⟨rfl, rfl⟩)) | (go_at_call 10; first | (refine (refParam_bad _ _ _ H.out).mono ?_; rintro e w2 ⟨rfl, rfl⟩) | (refine (refParam_ok _ _ _ (by have := H.out; omega) (by have := H.out; omega) (by have := H.out; omega)).mono ?_; rintro e w2 ⟨rfl, rfl⟩)) | (go_at_call 9; refine (gone_any _ _).mono ?_; rintro e w2 ⟨rfl, rfl⟩) | (go_at_call 11; refine (need_any _ _ _).mono ?_; rintro e w2 ⟨rfl, rfl⟩))
    go_ret
    exact ⟨rfl, below_drewN (((Below.refl _ _).alloc (Nat.le_refl _) _).trans (hb1.mono (by simp))) _⟩
end

end Go.Proofs.Ytbbfimkibfgnaaa
