/- Layer 12: the code's reader: the walk of Count. -/
import Derived.Test.YtehdhmhpmkkneaaRc
namespace Go.Proofs.Ytehdhmhpmkkneaa
open Go.RowKit Go.Proofs.YtehdhmhpmkkneaaW.PrintWords Go.Proofs.YtehdhmhpmkkneaaW.PrintMore Go.Proofs.Ytehdhmhpmkkneaa.PAll

theorem countS_bad {m : Int} {s : RS} (h : s.err ≠ 0) : countS m s = (0, s) := by unfold countS; rw [if_neg h]
theorem byteS_bad {s : RS} (h : s.err ≠ 0) : byteS s = (0, s) := by unfold byteS; rw [if_neg h]

set_option maxHeartbeats 400000 in
set_option maxRecDepth 100000 in
theorem ccount_bad (w0 w : World) (g : Nat) (s : RS) (m : Int) (h : IsR w0 w g s) (hb : Below w0.heap.size w0 w) (he : s.err ≠ 0) :
    Calls Try.prog 40 #[.pointer (some ⟨g, 0, none⟩), .int .i64 m] w (RPost w0 w g (.int .i64 (countS m s).1) (countS m s).2) := by
  rw [countS_bad he]
  have HI := Lib.hid h
  have HB := Lib.hid hb
  have hby := cbyte w0 w g s h hb
  rw [byteS_bad he] at hby
  have HY := Lib.hid hby
  have E1 : (s.err == 0) = false := beq_eq_false_iff_ne.2 he
  have E2 : (s.err != 0) = true := bne_iff_ne.2 he
  clear h hb hby he
  go_enter Try.func40, Try.ntmps40
  go_wp2
  refine wp_loop_rounds 1 ?_
  rw [rounds_succ]
  go_wp2_with fail
  refine HY.out.mono ?_
  rintro e w1 ⟨rfl, i1, b1, k1⟩
  have c2 := i1.errCell
  have I1 := Lib.hid i1
  have B1 := Lib.hid b1
  have K1 := Lib.hid k1
  clear i1 b1 k1
  go_wp2
  go_ret
  exact ⟨rfl, I1.out, B1.out, K1.out⟩

theorem max2_mx (x : Int) : Builtin.max2 (.int .i64 x) (.int .i64 0) = pure (.int .i64 (mx x 0)) := by simp only [Builtin.max2, gt_iff_lt, mx]
theorem or7_walk (j : Nat) (hj : j ≤ 8) (n b : Int) (n0 : 0 ≤ n) (n1 : n < 2 ^ (7 * j)) (b0 : 0 ≤ b) (b1 : b ≤ 255) :
    bits .or .u64 n (IntKind.u64.wrap (IntKind.u64.wrap (bits .and .u8 b 127) * 2 ^ (7 * j))) = n + b % 128 * 2 ^ (7 * j) := by
  have h := (u64_or7 j hj n b n0 n1 b0 b1).1
  unfold shl at h
  rwa [Int.toNat_natCast, Nat.min_eq_left (by show 7 * j ≤ 64; omega)] at h

section
attribute [local go_sem] max2_mx max_two
set_option maxHeartbeats 1000000 in
set_option maxRecDepth 100000 in
theorem ccount_good (w0 w : World) (g : Nat) (s : RS) (m : Int) (hm1 : m ≤ 9223372036854775807) (h : IsR w0 w g s) (hb : Below w0.heap.size w0 w) (he : s.err = 0) :
    Calls Try.prog 40 #[.pointer (some ⟨g, 0, none⟩), .int .i64 m] w (RPost w0 w g (.int .i64 (countS m s).1) (countS m s).2) := by
  have HI := Lib.hid h
  have HB := Lib.hid hb
  have hC : countS m s = fin m (cntGo s.xs 0 0) := by unfold countS; rw [if_pos he]
  have HC := Lib.hid hC.symm
  have HE := Lib.hid he
  have e0 : s = ⟨s.xs, 0⟩ := by rw [← he]
  have I0 : Hid (IsR w0 w g ⟨s.xs, 0⟩) := Lib.hid (by rw [← e0]; exact h)
  clear e0
  generalize countS m s = q at *
  obtain ⟨qn, qs⟩ := q
  simp only
  have HM := Lib.hid hm1
  clear h hb hC he hm1
  go_enter Try.func40, Try.ntmps40
  go_wp2
  go_loopw [4, 5, 6, 7] (fun r4 r5 r6 _ wr => ∃ (j : Nat) (n : Int) (xs : List Int), r4 = .int .i64 0 ∧ r5 = .int .u64 n ∧ r6 = .int .i64 (7 * j : Nat) ∧ j ≤ 9 ∧ 0 ≤ n ∧ Hid (n < 2 ^ (7 * j)) ∧ Hid (IsR w0 wr g ⟨xs, 0⟩) ∧ Hid (Below w0.heap.size w0 wr) ∧ Hid (KeepBut w wr g none) ∧ Hid (fin m (cntGo xs j n) = (qn, qs)))
    (fun _ _ r6 _ _ => (70 - intOf r6).toNat)
  case atStart => exact ⟨0, 0, s.xs, rfl, rfl, rfl, by omega, by omega, Lib.hid (by simp), I0, HB, Lib.hid (KeepBut.refl _ _ _), HC⟩
  case round =>
    obtain ⟨j, n, xs, rfl, rfl, rfl, hj, hn0, HN, HR, HBr, HK, HF⟩ := hrel
    cases xs with
    | nil =>
      have hq : (0, (⟨[], 120⟩ : RS)) = (qn, qs) := HF.out
      injection hq with h1 h2
      subst h1 h2
      go_wp2_with fail
      refine (cbyte w0 wr g ⟨[], 0⟩ HR.out HBr.out).mono ?_
      rintro e w1 ⟨rfl, i1, b1, k1⟩
      have c2 : w1.cell? ⟨g, 2, none⟩ = some (.int .i64 120) := i1.errCell
      have I1 := Lib.hid i1
      have B1 := Lib.hid b1
      have K1 := Lib.hid k1
      clear i1 b1 k1
      go_wp2
      go_ret
      exact ⟨rfl, I1.out, B1.out, keep_trans HK.out K1.out⟩
    | cons b r =>
      have hbb := HR.out.bytes b (List.mem_cons_self ..)
      obtain ⟨b0, b1⟩ := hbb
      have C := cbyte w0 wr g ⟨b :: r, 0⟩ HR.out HBr.out
      have C' : Calls Try.prog 46 #[.pointer (some ⟨g, 0, none⟩)] wr (RPost w0 wr g (.int .u8 b) ⟨r, 0⟩) := C
      have HCY := Lib.hid C'
      clear C C'
      go_wp2_with fail
      refine HCY.out.mono ?_
      rintro e w1 ⟨rfl, i1, bw1, k1⟩
      have c2 : w1.cell? ⟨g, 2, none⟩ = some (.int .i64 0) := i1.errCell
      have I1 := Lib.hid i1
      have B1 := Lib.hid bw1
      have K1 := Lib.hid (keep_trans HK.out k1)
      clear i1 bw1 k1 HCY
      by_cases h9 : j = 9 ∨ (0 < j ∧ b = 0)
      · have hq : (0, (⟨r, 121⟩ : RS)) = (qn, qs) := by
          have h := HF.out
          rw [cntGo, if_pos h9] at h
          exact h
        injection hq with h1 h2
        subst h1 h2
        rcases h9 with h9 | ⟨h9, hb0⟩
        · subst h9
          go_wp2_with fail
          refine (cfail w0 w1 g ⟨r, 0⟩ 121 I1.out B1.out).mono ?_
          rintro e w2 ⟨rfl, i2, bw2, k2⟩
          have I2 : Hid (IsR w0 w2 g ⟨r, 121⟩) := Lib.hid i2
          have B2 := Lib.hid bw2
          have K2 := Lib.hid (keep_trans K1.out k2)
          clear i2 bw2 k2
          go_wp2
          go_ret
          exact ⟨rfl, I2.out, B2.out, K2.out⟩
        · by_cases hj9 : j = 9
          · subst hj9
            go_wp2_with fail
            refine (cfail w0 w1 g ⟨r, 0⟩ 121 I1.out B1.out).mono ?_
            rintro e w2 ⟨rfl, i2, bw2, k2⟩
            have I2 : Hid (IsR w0 w2 g ⟨r, 121⟩) := Lib.hid i2
            have B2 := Lib.hid bw2
            have K2 := Lib.hid (keep_trans K1.out k2)
            clear i2 bw2 k2
            go_wp2
            go_ret
            exact ⟨rfl, I2.out, B2.out, K2.out⟩
          · have hj8 : j ≤ 8 := by omega
            have BE : (b == 0) = true := by simp [hb0]
            clear hb0 hj9 hj
            go_wp2_with fail
            refine (cfail w0 w1 g ⟨r, 0⟩ 121 I1.out B1.out).mono ?_
            rintro e w2 ⟨rfl, i2, bw2, k2⟩
            have I2 : Hid (IsR w0 w2 g ⟨r, 121⟩) := Lib.hid i2
            have B2 := Lib.hid bw2
            have K2 := Lib.hid (keep_trans K1.out k2)
            clear i2 bw2 k2
            go_wp2
            go_ret
            exact ⟨rfl, I2.out, B2.out, K2.out⟩
      · have hj8 : j ≤ 8 := by omega
        have KV := or7_walk j hj8 n b hn0 HN.out b0 b1
        have hp0 : (0 : Int) < 2 ^ (7 * j) := by exact_mod_cast Nat.two_pow_pos _
        have hmul0 : 0 ≤ b % 128 * 2 ^ (7 * j) := Int.mul_nonneg (by omega) (Int.le_of_lt hp0)
        have hv := (u64_or7 j hj8 n b hn0 HN.out b0 b1).2
        have h63 : (2 : Int) ^ (7 * (j + 1)) ≤ 2 ^ 63 := by exact_mod_cast Nat.pow_le_pow_right (by decide) (by omega : 7 * (j + 1) ≤ 63)
        have v0 : 0 ≤ n + b % 128 * 2 ^ (7 * j) := by omega
        have v63 : n + b % 128 * 2 ^ (7 * j) ≤ 9223372036854775807 := by omega
        have VL := Lib.hid hv
        have HF2 : Hid (fin m (if b < 128 then (n + b % 128 * 2 ^ (7 * j), ⟨r, 0⟩) else cntGo r (j + 1) (n + b % 128 * 2 ^ (7 * j))) = (qn, qs)) := Lib.hid (by
          have h := HF.out
          rwa [cntGo, if_neg h9] at h)
        have BE : 0 < j → (b == 0) = false := fun h => beq_eq_false_iff_ne.2 (fun e => h9 (.inr ⟨h, e⟩))
        have h9' := Lib.hid h9
        clear hp0 hmul0 hv h63 HF h9
        generalize hvv : n + b % 128 * 2 ^ (7 * j) = v at *
        clear hvv
        by_cases hb128 : b < 128
        · have hq : fin m (v, ⟨r, 0⟩) = (qn, qs) := by have h := HF2.out; rwa [if_pos hb128] at h
          obtain ⟨M, hM⟩ : ∃ M, M = max m 0 := ⟨_, rfl⟩
          have KM : IntKind.u64.wrap (mx m 0) = M := by rw [mx_eq, hM]; exact wrapu64 _ (by omega) (by have := HM.out; omega)
          by_cases hvm : v > M
          · have hq2 : (0, (⟨r, 121⟩ : RS)) = (qn, qs) := by
              unfold fin at hq
              rw [if_pos rfl, ← hM, if_pos hvm] at hq
              exact hq
            injection hq2 with h1 h2
            subst h1 h2
            clear hq hM hj HF2
            by_cases hj0 : 0 < j
            · have BE' := BE hj0
              clear BE
              go_wp2_with fail
              refine (cfail w0 w1 g ⟨r, 0⟩ 121 I1.out B1.out).mono ?_
              rintro e w2 ⟨rfl, i2, bw2, k2⟩
              have I2 : Hid (IsR w0 w2 g ⟨r, 121⟩) := Lib.hid i2
              have B2 := Lib.hid bw2
              have K2 := Lib.hid (keep_trans K1.out k2)
              clear i2 bw2 k2
              go_wp2
              go_ret
              exact ⟨rfl, I2.out, B2.out, K2.out⟩
            · clear BE
              go_wp2_with fail
              refine (cfail w0 w1 g ⟨r, 0⟩ 121 I1.out B1.out).mono ?_
              rintro e w2 ⟨rfl, i2, bw2, k2⟩
              have I2 : Hid (IsR w0 w2 g ⟨r, 121⟩) := Lib.hid i2
              have B2 := Lib.hid bw2
              have K2 := Lib.hid (keep_trans K1.out k2)
              clear i2 bw2 k2
              go_wp2
              go_ret
              exact ⟨rfl, I2.out, B2.out, K2.out⟩
          · have hq2 : (v, (⟨r, 0⟩ : RS)) = (qn, qs) := by
              unfold fin at hq
              rw [if_pos rfl, ← hM, if_neg hvm] at hq
              exact hq
            injection hq2 with h1 h2
            subst h1 h2
            have hvm' : v ≤ M := by omega
            clear hq hM hj HF2 hvm
            by_cases hj0 : 0 < j
            · have BE' := BE hj0
              clear BE
              go_wp2
              go_ret
              exact ⟨rfl, I1.out, B1.out, K1.out⟩
            · clear BE
              go_wp2
              go_ret
              exact ⟨rfl, I1.out, B1.out, K1.out⟩
        · have HF3 : Hid (fin m (cntGo r (j + 1) v) = (qn, qs)) := Lib.hid (by have h := HF2.out; rwa [if_neg hb128] at h)
          clear HF2 hj
          by_cases hj0 : 0 < j
          · have BE' := BE hj0
            clear BE
            go_wp2
            go_roundw
            case rel => exact ⟨j + 1, v, r, rfl, rfl, by go_num, by omega, v0, VL, I1, B1, K1, HF3⟩
            case measure => simp [intOf]; omega
          · clear BE
            go_wp2
            go_roundw
            case rel => exact ⟨j + 1, v, r, rfl, rfl, by go_num, by omega, v0, VL, I1, B1, K1, HF3⟩
            case measure => simp [intOf]; omega
end

theorem ccount (w0 w : World) (g : Nat) (s : RS) (m : Int) (hm1 : m ≤ 9223372036854775807) (h : IsR w0 w g s) (hb : Below w0.heap.size w0 w) :
    Calls Try.prog 40 #[.pointer (some ⟨g, 0, none⟩), .int .i64 m] w (RPost w0 w g (.int .i64 (countS m s).1) (countS m s).2) := by
  by_cases he : s.err = 0
  · exact ccount_good w0 w g s m hm1 h hb he
  · exact ccount_bad w0 w g s m h hb he
end Go.Proofs.Ytehdhmhpmkkneaa
