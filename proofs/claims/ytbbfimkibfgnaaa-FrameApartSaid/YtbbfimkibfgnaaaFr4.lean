/- The walks of layer 18's functions (frame), third part: the document's Grow, Global. -/
import Derived.Test.YtbbfimkibfgnaaaFr2
import Derived.Lib.Hide
import Derived.WalkSmall
namespace Go.Proofs.Ytbbfimkibfgnaaa
open Go.RowKit

theorem rnd_bd (a : Int) : a ≤ rnd a ∧ rnd a ≤ a + 3 ∧ rnd a % 4 = 0 := by unfold rnd; omega

set_option maxHeartbeats 400000 in
theorem grow_bad (s a : Int) (w : World) (h : a < 0 ∨ 16384 < a) :
    Calls Try.prog 12 #[.int .i64 s, .int .i64 a] w fun e w' => e = .returned (.tuple #[.int .i64 s, .int .i64 90]) ∧ w = w' := by
  rcases h with h | h
  all_goals
    go_enter Try.func12, Try.ntmps12
    go_wp2
    go_ret2
    exact ⟨rfl, rfl⟩

set_option maxHeartbeats 400000 in
theorem grow_fit (s a : Int) (w : World) (h0 : 0 ≤ a) (h1 : a ≤ 16384) (s0 : 0 ≤ s) (s1 : s ≤ 16384) (code next : Int)
    (H : Hid ((16384 - s < rnd a ∧ code = 244 ∧ next = s) ∨ (rnd a ≤ 16384 - s ∧ code = 0 ∧ next = s + rnd a))) :
    Calls Try.prog 12 #[.int .i64 s, .int .i64 a] w fun e w' => e = .returned (.tuple #[.int .i64 next, .int .i64 code]) ∧ w = w' := by
  obtain ⟨r0, r1, r2⟩ := rnd_bd a
  have R2 := Lib.hid r2
  clear r2
  generalize hr : rnd a = r at *
  clear hr
  go_enter Try.func12, Try.ntmps12
  go_wp2
  go_loop [1] (fun v => ∃ j : Int, a ≤ j ∧ j ≤ r ∧ v = .int .i64 j) (fun v => (r - intOf v).toNat)
  case atStart => exact ⟨a, Int.le_refl _, r0, rfl⟩
  case round =>
    obtain ⟨j, j0, j1, rfl⟩ := hrel
    by_cases hj : j % 4 = 0
    · have e : j = r := by have := R2.out; omega
      subst e
      rcases H.out with ⟨a0, a1, a2⟩ | ⟨a0, a1, a2⟩
      all_goals
        subst a1 a2
        go_wp2
        go_ret2
        exact ⟨rfl, rfl⟩
    · have hlt : j < r := by have := R2.out; omega
      go_wp2
      go_round
      case rel => exact ⟨j + 1, by omega, by omega, rfl⟩
      case measure => simp [intOf]; omega

set_option maxHeartbeats 400000 in
theorem global_bad (g : Nat) (a : Int) (w : World) (h : a < 0 ∨ 16384 < a) :
    Calls Try.prog 13 #[.pointer (some ⟨g, 0, none⟩), .int .i64 a] w fun e w' => e = .returned (.tuple #[.int .i64 0, .int .i64 90]) ∧ w = w' := by
  rcases h with h | h
  all_goals
    go_enter Try.func13, Try.ntmps13
    go_wp2
    go_ret2
    exact ⟨rfl, rfl⟩

set_option maxHeartbeats 400000 in
theorem global_full (g : Nat) (a s : Int) (w : World) (h0 : 0 ≤ a) (h1 : a ≤ 16384) (s0 : 0 ≤ s) (s1 : s ≤ 16384) (hc : w.cell? ⟨g, 0, none⟩ = some (.int .i64 s)) (hf : 16384 - s < rnd a) :
    Calls Try.prog 13 #[.pointer (some ⟨g, 0, none⟩), .int .i64 a] w fun e w' => e = .returned (.tuple #[.int .i64 0, .int .i64 244]) ∧ w = w' := by
  unfold rnd at hf
  go_enter Try.func13, Try.ntmps13
  go_wp2
  go_ret2
  exact ⟨rfl, rfl⟩

theorem ret2_of {k k' : IntKind} {a b c d : Int} (h : a = b) (h' : c = d) : Ending.returned (.tuple #[.int k a, .int k' c]) = .returned (.tuple #[.int k b, .int k' d]) := by rw [h, h']

set_option maxHeartbeats 400000 in
theorem global_ok (g : Nat) (a s : Int) (w : World) (h0 : 0 ≤ a) (h1 : a ≤ 16384) (s0 : 0 ≤ s) (s1 : s ≤ 16384) (hc : w.cell? ⟨g, 0, none⟩ = some (.int .i64 s)) (hz : w.frozen? ⟨g, 0, none⟩ = false) (hf : rnd a ≤ 16384 - s) :
    Calls Try.prog 13 #[.pointer (some ⟨g, 0, none⟩), .int .i64 a] w fun e w' => e = .returned (.tuple #[.int .i64 s, .int .i64 0]) ∧ w.setCell ⟨g, 0, none⟩ (.int .i64 (s + rnd a)) = w' := by
  unfold rnd at hf
  go_enter Try.func13, Try.ntmps13
  go_wp2
  go_ret2
  exact ⟨ret2_of (by omega) rfl, rfl⟩

theorem local_bad (g : Nat) (a : Int) (w : World) (h : a < 0 ∨ 16384 < a) :
    Calls Try.prog 7 #[.pointer (some ⟨g, 0, none⟩), .int .i64 a] w fun e w' => e = .returned (.tuple #[.int .i64 0, .int .i64 90]) ∧ w = w' :=
  h.elim (local_neg g a w) (local_big g a w)

end Go.Proofs.Ytbbfimkibfgnaaa
