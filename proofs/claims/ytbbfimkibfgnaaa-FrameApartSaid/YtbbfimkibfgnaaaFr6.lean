/- The walk of the law FrameApart. -/
import Derived.Test.YtbbfimkibfgnaaaFr5
namespace Go.Proofs.Ytbbfimkibfgnaaa
open Go.RowKit

theorem gone_in (m : Int) (w : World) (h0 : 0 ≤ m) (h1 : m ≤ 16) :
    Calls Try.prog 9 #[.int .i64 m] w fun e w' => e = .returned (.int .i64 (4 + 4 * m)) ∧ w = w' := by
  have h := gone_any m w
  have e : between m 16 = m := by unfold between; rw [if_neg (by omega), if_neg (by omega)]
  rw [e] at h
  exact h

set_option maxHeartbeats 1000000 in
set_option maxRecDepth 100000 in
theorem frameApart_any (A : Option Addr) (n c : Nat) (xs : List Int) (m : Int) (w : World) (hn : n ≤ 9223372036854775807) (hr : Row w A n xs) (m0 : 0 ≤ m) (m1 : m ≤ 255) :
    Calls Try.prog 3 #[.slice A n c, .int .u8 m] w fun e w' => e = .returned (.bool true) ∧ Below w.heap.size w w' := by
  have HR := Lib.hid hr
  clear hr
  go_enter Try.func3, Try.ntmps3
  go_wp2_with (go_at_call 6; refine (awake_true _).mono ?_; rintro e w1 ⟨rfl, hb1⟩; have hs1 := hb1.size)
  go_loopw [4, 6, 7, 8, 9] (fun r4 r6 r7 _ _ wr => ∃ (k : Nat) (s : Int), k ≤ n ∧ r4 = .bool false ∧ r6 = .int .i64 (-s) ∧ r7 = .int .i64 k ∧ 0 ≤ s ∧ s ≤ 16384 ∧ Hid (s % 4 = 0) ∧ wr.cell? ⟨w1.heap.size, 0, none⟩ = some (.int .i64 s) ∧ wr.frozen? ⟨w1.heap.size, 0, none⟩ = false ∧ Below w.heap.size w wr)
    (fun _ _ r7 _ _ _ => n - (intOf r7).toNat)
  case atStart => exact ⟨0, 0, by omega, rfl, rfl, rfl, by omega, by omega, Lib.hid rfl, by simp [go_sem], by simp [go_sem], (hb1.alloc (by omega) _)⟩
  case round =>
    obtain ⟨k, s, hk, rfl, rfl, rfl, s0, s1, HS, c0, f0, hB⟩ := hrel
    by_cases hlt : k < n ∧ k < 200
    · obtain ⟨h1, h2⟩ := hlt
      obtain ⟨b, off, rfl, hbl, hcell⟩ := HR.out k h1
      have hx := (hB.cell (p := ⟨b, off + k, none⟩) hbl).trans hcell
      generalize xs.getD k 0 = a at hx
      clear hcell
      by_cases ha : a < 0 ∨ 16384 < a
      · have HA := Lib.hid ha
        clear ha
        go_wp2_with (go_at_call 7; refine (local_bad _ _ _ HA.out).mono ?_; rintro e w2 ⟨rfl, rfl⟩)
        go_roundw
        case rel => exact ⟨k + 1, s, by omega, rfl, rfl, by go_num, s0, s1, HS, c0, f0, hB⟩
        case measure => simp [intOf]; omega
      · by_cases hf : 16384 - s < rnd a
        · have HF := Lib.hid hf
          have HA := Lib.hid ha
          clear hf ha
          go_wp2_with (go_at_call 7; refine (local_full _ a s _ (by have := HA.out; omega) (by have := HA.out; omega) s0 s1 c0 HF.out).mono ?_; rintro e w2 ⟨rfl, rfl⟩)
          go_roundw
          case rel => exact ⟨k + 1, s, by omega, rfl, rfl, by go_num, s0, s1, HS, c0, f0, hB⟩
          case measure => simp [intOf]; omega
        · obtain ⟨r0, r1, r2⟩ := rnd_bd a
          have hf2 : rnd a ≤ 16384 - s := by omega
          have a0 : 0 ≤ a := by omega
          have a1 : a ≤ 16384 := by omega
          have HS2 : Hid ((s + rnd a) % 4 = 0) := Lib.hid (by have := HS.out; omega)
          have ht : (-(s + rnd a)).tmod 4 = 0 := by
            rw [Int.neg_tmod, Int.tmod_eq_emod_of_nonneg (by omega), HS2.out]; rfl
          clear hf ha r2
          generalize hra : rnd a = r at *
          have HRA := Lib.hid hra
          clear hra
          have hle : -(s + r) + a ≤ -s := by omega
          go_wp2_with (go_at_call 7; refine (local_ok' _ a s r _ HRA a0 a1 s0 s1 hf2 c0 f0).mono ?_; rintro e w2 ⟨rfl, rfl⟩)
          go_roundw
          case rel => exact ⟨k + 1, s + r, by omega, rfl, rfl, by go_num, by omega, by omega, HS2, by go_simp, by go_simp, (hB.setCell (by simp; omega) _)⟩
          case measure => simp [intOf]; omega
    · by_cases h1 : k < n
      all_goals
        first | (have h2 : 200 ≤ k := by omega) | skip
        clear hlt
        go_wp2
        have q0 : 0 ≤ m % 17 := by omega
        have q1 : m % 17 ≤ 16 := by omega
        generalize m % 17 = q at *
        go_loop [4, 11, 12, 13, 14, 15] (fun r4 r11 _ _ _ _ => ∃ j : Int, 0 ≤ j ∧ j ≤ q ∧ r4 = .bool false ∧ r11 = .int .i64 j) (fun _ r11 _ _ _ _ => (q - intOf r11).toNat)
        case atStart => exact ⟨0, by omega, q0, rfl, rfl⟩
        case round =>
          obtain ⟨j, j0, j1, rfl, rfl⟩ := hrel
          by_cases hj : j < q
          · by_cases hj0 : 0 < j
            all_goals
              go_wp2_with (first | (go_at_call 8; refine (param_ok _ _ _ (by omega) (by omega) (by omega)).mono ?_; rintro e w2 ⟨rfl, rfl⟩) | (go_at_call 9; refine (gone_in _ _ (by omega) (by omega)).mono ?_; rintro e w2 ⟨rfl, rfl⟩))
              go_round
              case rel => exact ⟨j + 1, by omega, by omega, rfl, rfl⟩
              case measure => simp [intOf]; omega
          · go_wp2
            go_ret
            exact ⟨rfl, hB⟩

end Go.Proofs.Ytbbfimkibfgnaaa
