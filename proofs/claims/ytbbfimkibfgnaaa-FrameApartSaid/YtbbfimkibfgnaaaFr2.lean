/- The walks of layer 18's functions (frame), second part: Param, Gone, Need, the document's Param, and the law FrameParams. -/
import Derived.Test.YtbbfimkibfgnaaaFr
namespace Go.Proofs.Ytbbfimkibfgnaaa
open Go.RowKit

set_option maxHeartbeats 400000 in
theorem param_ok (i m : Int) (w : World) (h0 : 0 ≤ i) (h1 : i < m) (h2 : m ≤ 16) :
    Calls Try.prog 8 #[.int .i64 i, .int .i64 m] w fun e w' => e = .returned (.tuple #[.int .i64 (8 + 4 * (m - i)), .int .i64 0]) ∧ w = w' := by
  go_enter Try.func8, Try.ntmps8
  go_wp2
  go_ret2
  refine ⟨?_, rfl⟩
  rw [show 12 + 4 * (m - 1 - i) = 8 + 4 * (m - i) by omega]
  rfl

set_option maxHeartbeats 400000 in
theorem param_bad (i m : Int) (w : World) (h : 16 < m ∨ i < 0 ∨ m ≤ i) :
    Calls Try.prog 8 #[.int .i64 i, .int .i64 m] w fun e w' => e = .returned (.tuple #[.int .i64 0, .int .i64 203]) ∧ w = w' := by
  by_cases g0 : m < 0
  · clear h
    go_enter Try.func8, Try.ntmps8
    go_wp2
    go_ret2
    exact ⟨rfl, rfl⟩
  by_cases g1 : 16 < m
  · clear h
    go_enter Try.func8, Try.ntmps8
    go_wp2
    go_ret2
    exact ⟨rfl, rfl⟩
  by_cases g2 : i < 0
  · clear h
    go_enter Try.func8, Try.ntmps8
    go_wp2
    go_ret2
    exact ⟨rfl, rfl⟩
  · have g3 : m ≤ i := by omega
    clear h
    go_enter Try.func8, Try.ntmps8
    go_wp2
    go_ret2
    exact ⟨rfl, rfl⟩

set_option maxHeartbeats 400000 in
theorem refParam_ok (i m : Int) (w : World) (h0 : 0 ≤ i) (h1 : i < m) (h2 : m ≤ 16) :
    Calls Try.prog 10 #[.int .i64 i, .int .i64 m] w fun e w' => e = .returned (.tuple #[.int .i64 (8 + 4 * (m - i)), .int .i64 0]) ∧ w = w' := by
  go_enter Try.func10, Try.ntmps10
  go_wp2
  go_ret2
  exact ⟨rfl, rfl⟩

set_option maxHeartbeats 400000 in
theorem refParam_bad (i m : Int) (w : World) (h : 16 < m ∨ i < 0 ∨ m ≤ i) :
    Calls Try.prog 10 #[.int .i64 i, .int .i64 m] w fun e w' => e = .returned (.tuple #[.int .i64 0, .int .i64 203]) ∧ w = w' := by
  by_cases g1 : 16 < m
  · clear h
    go_enter Try.func10, Try.ntmps10
    go_wp2
    go_ret2
    exact ⟨rfl, rfl⟩
  by_cases g2 : i < 0
  · clear h
    go_enter Try.func10, Try.ntmps10
    go_wp2
    go_ret2
    exact ⟨rfl, rfl⟩
  · have g3 : m ≤ i := by omega
    clear h
    go_enter Try.func10, Try.ntmps10
    go_wp2
    go_ret2
    exact ⟨rfl, rfl⟩

/-- Between 0 and a bound. -/
def between (a n : Int) : Int := if a < 0 then 0 else if n < a then n else a

theorem ret_of {k : IntKind} {a b : Int} (h : a = b) : Ending.returned (.int k a) = .returned (.int k b) := by rw [h]

set_option maxHeartbeats 400000 in
theorem gone_any (m : Int) (w : World) :
    Calls Try.prog 9 #[.int .i64 m] w fun e w' => e = .returned (.int .i64 (4 + 4 * between m 16)) ∧ w = w' := by
  by_cases g0 : m < 0
  · have hb : between m 16 = 0 := by unfold between; rw [if_pos g0]
    rw [hb]; clear hb
    go_enter Try.func9, Try.ntmps9
    go_wp2
    go_ret
    exact ⟨rfl, rfl⟩
  by_cases g1 : 16 < m
  · have hb : between m 16 = 16 := by unfold between; rw [if_neg g0, if_pos g1]
    rw [hb]; clear hb
    go_enter Try.func9, Try.ntmps9
    go_wp2
    go_ret
    exact ⟨rfl, rfl⟩
  · have hb : between m 16 = m := by unfold between; rw [if_neg g0, if_neg g1]
    rw [hb]; clear hb
    by_cases g2 : m = 0
    · subst g2
      go_enter Try.func9, Try.ntmps9
      go_wp2
      go_ret
      exact ⟨rfl, rfl⟩
    go_enter Try.func9, Try.ntmps9
    go_wp2
    all_goals
      go_ret
      exact ⟨ret_of (by omega), rfl⟩

set_option maxHeartbeats 400000 in
theorem need_any (s t : Int) (w : World) :
    Calls Try.prog 11 #[.int .i64 s, .int .i64 t] w fun e w' => e = .returned (.int .i64 (between s 16384 + 4 * between t 16384 + 64)) ∧ w = w' := by
  unfold between
  by_cases g0 : s < 0
  · rw [if_pos g0]
    by_cases k0 : t < 0
    · rw [if_pos k0]
      go_enter Try.func11, Try.ntmps11
      go_wp2
      go_ret
      exact ⟨rfl, rfl⟩
    rw [if_neg k0]
    by_cases k1 : 16384 < t
    · rw [if_pos k1]
      go_enter Try.func11, Try.ntmps11
      go_wp2
      go_ret
      exact ⟨rfl, rfl⟩
    rw [if_neg k1]
    go_enter Try.func11, Try.ntmps11
    go_wp2
    all_goals
      go_ret
      exact ⟨ret_of (by omega), rfl⟩
  rw [if_neg g0]
  by_cases g1 : 16384 < s
  · rw [if_pos g1]
    by_cases k0 : t < 0
    · rw [if_pos k0]
      go_enter Try.func11, Try.ntmps11
      go_wp2
      go_ret
      exact ⟨rfl, rfl⟩
    rw [if_neg k0]
    by_cases k1 : 16384 < t
    · rw [if_pos k1]
      go_enter Try.func11, Try.ntmps11
      go_wp2
      go_ret
      exact ⟨rfl, rfl⟩
    rw [if_neg k1]
    go_enter Try.func11, Try.ntmps11
    go_wp2
    all_goals
      go_ret
      exact ⟨ret_of (by omega), rfl⟩
  rw [if_neg g1]
  by_cases k0 : t < 0
  · rw [if_pos k0]
    go_enter Try.func11, Try.ntmps11
    go_wp2
    all_goals
      go_ret
      exact ⟨ret_of (by omega), rfl⟩
  rw [if_neg k0]
  by_cases k1 : 16384 < t
  · rw [if_pos k1]
    go_enter Try.func11, Try.ntmps11
    go_wp2
    all_goals
      go_ret
      exact ⟨ret_of (by omega), rfl⟩
  rw [if_neg k1]
  go_enter Try.func11, Try.ntmps11
  go_wp2
  all_goals
    go_ret
    exact ⟨ret_of (by omega), rfl⟩

set_option maxHeartbeats 400000 in
theorem awake_true (w : World) :
    Calls Try.prog 6 #[] w fun e w' => e = .returned (.bool true) ∧ Below w.heap.size w w' := by
  go_enter Try.func6, Try.ntmps6
  go_wp2
  go_ret
  refine ⟨rfl, ?_⟩
  exact (Below.refl _ _).alloc (Nat.le_refl _) _

theorem between_bd (a n : Int) (h : 0 ≤ n) : 0 ≤ between a n ∧ between a n ≤ n := by unfold between; split <;> (try split) <;> omega
/-- Nothing below 0. -/
def pos (a : Int) : Int := if a < 0 then 0 else a
theorem max2_pos (x : Int) : Builtin.max2 (.int .i64 x) (.int .i64 0) = pure (.int .i64 (pos x)) := by simp only [Builtin.max2, gt_iff_lt, pos]
theorem min2_16 (x : Int) : Builtin.min2 (.int .i64 (pos x)) (.int .i64 16) = pure (.int .i64 (between x 16)) := by
  simp only [Builtin.min2, pos, between]
  by_cases h : x < 0
  · simp [h]
  · simp [h]
theorem min2_16384 (x : Int) : Builtin.min2 (.int .i64 (pos x)) (.int .i64 16384) = pure (.int .i64 (between x 16384)) := by
  simp only [Builtin.min2, pos, between]
  by_cases h : x < 0
  · simp [h]
  · simp [h]
theorem max_two (ats : Array TypeId) (ty : TypeId) (a b : Value) : Builtin.max_ ats ty #[a, b] = (Builtin.max2 a b >>= fun s => pure s) := by simp only [Builtin.max_, List.foldlM_cons, List.foldlM_nil]
theorem min_two (ats : Array TypeId) (ty : TypeId) (a b : Value) : Builtin.min_ ats ty #[a, b] = (Builtin.min2 a b >>= fun s => pure s) := by simp only [Builtin.min_, List.foldlM_cons, List.foldlM_nil]
theorem bcell {W w1 : World} (hb : Below W.heap.size W w1) : ∀ b o, b < W.heap.size → w1.cell? ⟨b, o, none⟩ = W.cell? ⟨b, o, none⟩ :=
  fun b o h => hb.cell (p := ⟨b, o, none⟩) h

end Go.Proofs.Ytbbfimkibfgnaaa
