/- The walk of the law FramePlaces. -/
import Derived.Test.YtbbfimkibfgnaaaFr4
namespace Go.Proofs.Ytbbfimkibfgnaaa
open Go.RowKit

/-- A row of numbers that is read. -/
def Row (w : World) (A : Option Addr) (n : Nat) (xs : List Int) : Prop :=
  ∀ k, k < n → ∃ b off, A = some ⟨b, off, none⟩ ∧ b < w.heap.size ∧ w.cell? ⟨b, off + k, none⟩ = some (.int .i64 (xs.getD k 0))

theorem grow_fit' (s a r : Int) (w : World) (HR : Hid (rnd a = r)) (h0 : 0 ≤ a) (h1 : a ≤ 16384) (s0 : 0 ≤ s) (s1 : s ≤ 16384) (hf : r ≤ 16384 - s) :
    Calls Try.prog 12 #[.int .i64 s, .int .i64 a] w fun e w' => e = .returned (.tuple #[.int .i64 (s + r), .int .i64 0]) ∧ w = w' := by
  obtain rfl := HR.out
  exact grow_fit s a w h0 h1 s0 s1 0 _ (Lib.hid (.inr ⟨hf, rfl, rfl⟩))
theorem local_ok' (g : Nat) (a s r : Int) (w : World) (HR : Hid (rnd a = r)) (h0 : 0 ≤ a) (h1 : a ≤ 16384) (s0 : 0 ≤ s) (s1 : s ≤ 16384) (hf : r ≤ 16384 - s) (hc : w.cell? ⟨g, 0, none⟩ = some (.int .i64 s)) (hz : w.frozen? ⟨g, 0, none⟩ = false) :
    Calls Try.prog 7 #[.pointer (some ⟨g, 0, none⟩), .int .i64 a] w fun e w' => e = .returned (.tuple #[.int .i64 (-(s + r)), .int .i64 0]) ∧ w.setCell ⟨g, 0, none⟩ (.int .i64 (s + r)) = w' := by
  obtain rfl := HR.out
  exact local_ok g a s w h0 h1 s0 s1 hc hz hf
theorem global_ok' (g : Nat) (a s r : Int) (w : World) (HR : Hid (rnd a = r)) (h0 : 0 ≤ a) (h1 : a ≤ 16384) (s0 : 0 ≤ s) (s1 : s ≤ 16384) (hf : r ≤ 16384 - s) (hc : w.cell? ⟨g, 0, none⟩ = some (.int .i64 s)) (hz : w.frozen? ⟨g, 0, none⟩ = false) :
    Calls Try.prog 13 #[.pointer (some ⟨g, 0, none⟩), .int .i64 a] w fun e w' => e = .returned (.tuple #[.int .i64 s, .int .i64 0]) ∧ w.setCell ⟨g, 0, none⟩ (.int .i64 (s + r)) = w' := by
  obtain rfl := HR.out
  exact global_ok g a s w h0 h1 s0 s1 hc hz hf

set_option maxHeartbeats 1000000 in
set_option maxRecDepth 100000 in
theorem framePlaces_any (A : Option Addr) (n c : Nat) (xs : List Int) (w : World) (hn : n ≤ 9223372036854775807) (hr : Row w A n xs) :
    Calls Try.prog 5 #[.slice A n c] w fun e w' => e = .returned (.bool true) ∧ Below w.heap.size w w' := by
  have HR := Lib.hid hr
  clear hr
  go_enter Try.func5, Try.ntmps5
  go_wp2_with (go_at_call 6; refine (awake_true _).mono ?_; rintro e w1 ⟨rfl, hb1⟩; have hs1 := hb1.size)
  go_loopw [2, 5, 6, 7, 8, 9, 10, 11, 12] (fun r2 r5 r6 _ _ _ _ _ _ wr => ∃ (k : Nat) (s : Int), k ≤ n ∧ r2 = .bool false ∧ r5 = .int .i64 s ∧ r6 = .int .i64 k ∧ 0 ≤ s ∧ s ≤ 16384 ∧ wr.cell? ⟨w1.heap.size, 0, none⟩ = some (.int .i64 s) ∧ wr.cell? ⟨w1.heap.size + 1, 0, none⟩ = some (.int .i64 s) ∧ wr.frozen? ⟨w1.heap.size, 0, none⟩ = false ∧ wr.frozen? ⟨w1.heap.size + 1, 0, none⟩ = false ∧ Below w.heap.size w wr)
    (fun _ _ r6 _ _ _ _ _ _ _ => n - (intOf r6).toNat)
  case atStart => exact ⟨0, 0, by omega, rfl, rfl, rfl, by omega, by omega, by simp [go_sem], by simp [go_sem], by simp [go_sem], by simp [go_sem], ((hb1.alloc (by omega) _).alloc (by simp; omega) _)⟩
  case round =>
    obtain ⟨k, s, hk, rfl, rfl, rfl, s0, s1, c0, c1, f0, f1, hB⟩ := hrel
    by_cases hlt : k < n ∧ k < 200
    · obtain ⟨h1, h2⟩ := hlt
      obtain ⟨b, off, rfl, hbl, hcell⟩ := HR.out k h1
      have hx := (hB.cell (p := ⟨b, off + k, none⟩) hbl).trans hcell
      generalize xs.getD k 0 = a at hx
      clear hcell
      by_cases ha : a < 0 ∨ 16384 < a
      · have HA := Lib.hid ha
        clear ha
        go_wp2_with (first | (go_at_call 12; refine (grow_bad _ _ _ HA.out).mono ?_; rintro e w2 ⟨rfl, rfl⟩) | (go_at_call 7; refine (local_bad _ _ _ HA.out).mono ?_; rintro e w2 ⟨rfl, rfl⟩) | (go_at_call 13; refine (global_bad _ _ _ HA.out).mono ?_; rintro e w2 ⟨rfl, rfl⟩))
        go_roundw
        case rel => exact ⟨k + 1, s, by omega, rfl, rfl, by go_num, s0, s1, c0, c1, f0, f1, hB⟩
        case measure => simp [intOf]; omega
      · by_cases hf : 16384 - s < rnd a
        · have G : Hid ((16384 - s < rnd a ∧ (244 : Int) = 244 ∧ s = s) ∨ (rnd a ≤ 16384 - s ∧ (244 : Int) = 0 ∧ s = s + rnd a)) := Lib.hid (.inl ⟨hf, rfl, rfl⟩)
          have HF := Lib.hid hf
          have HA := Lib.hid ha
          clear hf ha
          go_wp2_with (first | (go_at_call 12; refine (grow_fit s a _ (by have := HA.out; omega) (by have := HA.out; omega) s0 s1 244 s G).mono ?_; rintro e w2 ⟨rfl, rfl⟩) | (go_at_call 7; refine (local_full _ a s _ (by have := HA.out; omega) (by have := HA.out; omega) s0 s1 c0 HF.out).mono ?_; rintro e w2 ⟨rfl, rfl⟩) | (go_at_call 13; refine (global_full _ a s _ (by have := HA.out; omega) (by have := HA.out; omega) s0 s1 c1 HF.out).mono ?_; rintro e w2 ⟨rfl, rfl⟩))
          go_roundw
          case rel => exact ⟨k + 1, s, by omega, rfl, rfl, by go_num, s0, s1, c0, c1, f0, f1, hB⟩
          case measure => simp [intOf]; omega
        · obtain ⟨r0, r1, _⟩ := rnd_bd a
          have hf2 : rnd a ≤ 16384 - s := by omega
          have a0 : 0 ≤ a := by omega
          have a1 : a ≤ 16384 := by omega
          clear hf ha
          generalize hra : rnd a = r at *
          have HRA := Lib.hid hra
          clear hra
          have c1' : (wr.setCell ⟨w1.heap.size, 0, none⟩ (.int .i64 (s + r))).cell? ⟨w1.heap.size + 1, 0, none⟩ = some (.int .i64 s) := by
            rw [← c1]; go_simp
          have f1' : (wr.setCell ⟨w1.heap.size, 0, none⟩ (.int .i64 (s + r))).frozen? ⟨w1.heap.size + 1, 0, none⟩ = false := by
            rw [← f1]; simp
          go_wp2_with (first | (go_at_call 12; refine (grow_fit' s a r _ HRA a0 a1 s0 s1 hf2).mono ?_; rintro e w2 ⟨rfl, rfl⟩) | (go_at_call 7; refine (local_ok' _ a s r _ HRA a0 a1 s0 s1 hf2 c0 f0).mono ?_; rintro e w2 ⟨rfl, rfl⟩) | (go_at_call 13; refine (global_ok' _ a s r _ HRA a0 a1 s0 s1 hf2 c1' f1').mono ?_; rintro e w2 ⟨rfl, rfl⟩))
          go_roundw
          case rel => exact ⟨k + 1, s + r, by omega, rfl, rfl, by go_num, by omega, by omega, by go_simp, by go_simp, by go_simp, by go_simp, ((hB.setCell (by simp; omega) _).setCell (by simp; omega) _)⟩
          case measure => simp [intOf]; omega
    · by_cases h1 : k < n
      · have h2 : 200 ≤ k := by omega
        clear hlt
        go_wp2
        go_ret
        exact ⟨rfl, hB⟩
      · clear hlt
        go_wp2
        go_ret
        exact ⟨rfl, hB⟩

end Go.Proofs.Ytbbfimkibfgnaaa
