/- Layer 12: the walks of the writer's Count, Number, Word, Text, Bytes, Len. -/
import Derived.Test.YtehdhmhpmkkneaaCw
namespace Go.Proofs.Ytehdhmhpmkkneaa
open Go.RowKit Go.Proofs.YtehdhmhpmkkneaaW.PrintWords Go.Proofs.YtehdhmhpmkkneaaW.PrintMore

/-- A number's bytes: groups of seven bits, the lowest first; all but the last with 128 more. -/
def cnt (n : Nat) : List Int := if n < 128 then [(n : Int)] else ((n % 128 + 128 : Nat) : Int) :: cnt (n / 128)
decreasing_by omega

theorem cnt_low {n : Nat} (h : n < 128) : cnt n = [(n : Int)] := by rw [cnt, if_pos h]
theorem cnt_high {n : Nat} (h : ¬ n < 128) : cnt n = ((n % 128 + 128 : Nat) : Int) :: cnt (n / 128) := by rw [cnt, if_neg h]
theorem cnt_len (k : Nat) : ∀ n, n < 128 ^ (k + 1) → (cnt n).length ≤ k + 1 := by
  induction k with
  | zero => intro n h; rw [cnt_low (by simpa using h)]; simp
  | succ k ih =>
    intro n h
    by_cases hn : n < 128
    · rw [cnt_low hn]; simp
    · rw [cnt_high hn]
      have := ih (n / 128) (by rw [Nat.pow_succ] at h; omega)
      simp; omega
theorem cnt_pos (n : Nat) : 1 ≤ (cnt n).length := by
  by_cases hn : n < 128
  · rw [cnt_low hn]; simp
  · rw [cnt_high hn]; simp
theorem cnt_len9 {n : Nat} (h : n ≤ 9223372036854775807) : (cnt n).length ≤ 9 := cnt_len 8 n (by omega)

theorem or128 (m : Nat) : bits .or .u8 ((m : Int) % 256) 128 = ((m % 128 + 128 : Nat) : Int) := by
  have key : ∀ x : Fin 256, bits BinOp.or IntKind.u8 (x.val : Int) 128 = ((x.val % 128 + 128 : Nat) : Int) := by decide +kernel
  have h := key ⟨m % 256, Nat.mod_lt _ (by decide)⟩
  simp only at h
  rw [show ((m : Int) % 256) = ((m % 256 : Nat) : Int) by simp, h]
  congr 1
  omega

section
attribute [local go_sem] max2_int max_two
set_option maxHeartbeats 400000 in
set_option maxRecDepth 100000 in
theorem wcount (B g : Nat) (v : Value) (xs : List Int) (n : Nat) (w : World) (h : Wr B w g v xs) (hl : xs.length ≤ 1000000000) (hn : n ≤ 9223372036854775807) :
    Calls Try.prog 39 #[.pointer (some ⟨g, 0, none⟩), .int .i64 n] w fun e w' => e = .returned (.tuple #[]) ∧ ∃ v', Wr B w' g v' (xs ++ cnt n) ∧ Mv w w' g v v' := by
  have HW := Lib.hid h
  have h9 := Lib.hid (cnt_len9 hn)
  have HL := Lib.hid hl
  have HN := Lib.hid hn
  clear h hl
  go_enter Try.func39, Try.ntmps39
  go_wp2
  clear hn
  go_loopw [4] (fun r4 wr => ∃ (m : Nat) (ys : List Int) (u : Value), r4 = .int .u64 m ∧ m ≤ n ∧ Hid (Wr B wr g u ys) ∧ Hid (Mv w wr g v u) ∧ Hid (ys ++ cnt m = xs ++ cnt n)) (fun r4 _ => (intOf r4).toNat)
  case atStart => exact ⟨n, xs, v, rfl, Nat.le_refl _, HW, Lib.hid (Mv.refl _ _ _), Lib.hid rfl⟩
  case round =>
    obtain ⟨m, ys, u, rfl, hm, H1, H2, H3⟩ := hrel
    have hyl : Hid (ys.length ≤ 1000000009) := Lib.hid (by
      have := congrArg List.length H3.out
      have := HL.out
      have := h9.out
      simp at *
      omega)
    by_cases h1 : m < 128
    · go_wp2_with (go_at_call 74; refine (wbyte B g u ys _ _ H1.out (by have := hyl.out; omega)).mono ?_; rintro e w2 ⟨rfl, u2, hW2, hM2⟩; have H4 := Lib.hid hW2; have H5 := Lib.hid hM2; clear hW2 hM2)
      go_end0
      refine ⟨rfl, u2, ?_, H2.out.trans H5.out⟩
      have e := H3.out
      rw [cnt_low h1] at e
      rw [← e]
      exact H4.out
    · go_wp2_with (go_at_call 74; refine (wbyte B g u ys _ _ H1.out (by have := hyl.out; omega)).mono ?_; rintro e w2 ⟨rfl, u2, hW2, hM2⟩; have H4 := Lib.hid hW2; have H5 := Lib.hid hM2; clear hW2 hM2)
      go_roundw
      case rel =>
        refine ⟨m / 128, _, u2, by simp, Nat.le_trans (Nat.div_le_self _ _) hm, H4, Lib.hid (H2.out.trans H5.out), Lib.hid ?_⟩
        have e := H3.out
        rw [cnt_high h1, ← or128] at e
        rw [← e]
        simp
      case measure => simp [intOf]; omega
end

section
attribute [local go_sem] max2_int max_two
set_option maxHeartbeats 400000 in
set_option maxRecDepth 100000 in
theorem wcount_neg (B g : Nat) (v : Value) (xs : List Int) (n : Int) (w : World) (h : Wr B w g v xs) (hl : xs.length ≤ 1000000000) (hn : n < 0) :
    Calls Try.prog 39 #[.pointer (some ⟨g, 0, none⟩), .int .i64 n] w fun e w' => e = .returned (.tuple #[]) ∧ ∃ v', Wr B w' g v' (xs ++ cnt 0) ∧ Mv w w' g v v' := by
  have HW := Lib.hid h
  have HL := Lib.hid hl
  have HC : Hid (cnt 0 = [0]) := Lib.hid (cnt_low (by omega))
  clear h hl
  go_enter Try.func39, Try.ntmps39
  go_wp2
  refine wp_loop_rounds 1 ?_
  rw [rounds_succ]
  go_wp2_with (go_at_call 74; refine (wbyte B g v xs _ _ HW.out (by have := HL.out; omega)).mono ?_; rintro e w2 ⟨rfl, u2, hW2, hM2⟩; have H4 := Lib.hid hW2; have H5 := Lib.hid hM2; clear hW2 hM2)
  go_end0
  rw [HC.out]
  exact ⟨rfl, u2, H4.out, H5.out⟩
end
theorem wcountI (B g : Nat) (v : Value) (xs : List Int) (n : Int) (w : World) (h : Wr B w g v xs) (hl : xs.length ≤ 1000000000) (hn : n ≤ 9223372036854775807) :
    Calls Try.prog 39 #[.pointer (some ⟨g, 0, none⟩), .int .i64 n] w fun e w' => e = .returned (.tuple #[]) ∧ ∃ v', Wr B w' g v' (xs ++ cnt n.toNat) ∧ Mv w w' g v v' := by
  by_cases h0 : n < 0
  · have e : n.toNat = 0 := by omega
    rw [e]
    exact wcount_neg B g v xs n w h hl h0
  · obtain ⟨m, rfl⟩ := Int.eq_ofNat_of_zero_le (a := n) (by omega)
    rw [Int.toNat_natCast]
    exact wcount B g v xs m w h hl (by omega)

/-- A number with a sign, as a count. -/
def sgn (n : Int) : Nat := if n < 0 then (-2 * n - 1).toNat else (2 * n).toNat

set_option maxHeartbeats 400000 in
set_option maxRecDepth 100000 in
theorem wnumber (B g : Nat) (v : Value) (xs : List Int) (n : Int) (w : World) (h : Wr B w g v xs) (hl : xs.length ≤ 1000000000) (h0 : -2147483648 ≤ n) (h1 : n ≤ 2147483647) :
    Calls Try.prog 41 #[.pointer (some ⟨g, 0, none⟩), .int .i32 n] w fun e w' => e = .returned (.tuple #[]) ∧ ∃ v', Wr B w' g v' (xs ++ cnt (sgn n)) ∧ Mv w w' g v v' := by
  have HW := Lib.hid h
  have HL := Lib.hid hl
  clear h hl
  by_cases hn : n < 0
  · obtain ⟨m, hm⟩ : ∃ m : Nat, -2 * n - 1 = (m : Int) := ⟨(-2 * n - 1).toNat, by omega⟩
    have e : sgn n = m := by unfold sgn; rw [if_pos hn, hm]; rfl
    have hmb : m ≤ 9223372036854775807 := by omega
    rw [e]
    have HM := Lib.hid hm
    have HMB := Lib.hid hmb
    clear e hm hmb
    go_enter Try.func41, Try.ntmps41
    go_wp2_with (go_at_call 39; rw [HM.out]; refine (wcount B g v xs m _ HW.out HL.out HMB.out).mono ?_; rintro e w2 ⟨rfl, u2, hW2, hM2⟩; have H4 := Lib.hid hW2; have H5 := Lib.hid hM2; clear hW2 hM2)
    exact bodyPost_ret (results_none rfl _ _ _) rfl ⟨rfl, u2, H4.out, H5.out⟩
  · obtain ⟨m, hm⟩ : ∃ m : Nat, 2 * n = (m : Int) := ⟨(2 * n).toNat, by omega⟩
    have e : sgn n = m := by unfold sgn; rw [if_neg hn, hm]; rfl
    have hmb : m ≤ 9223372036854775807 := by omega
    rw [e]
    have HM := Lib.hid hm
    have HMB := Lib.hid hmb
    clear e hm hmb
    go_enter Try.func41, Try.ntmps41
    go_wp2_with (go_at_call 39; rw [HM.out]; refine (wcount B g v xs m _ HW.out HL.out HMB.out).mono ?_; rintro e w2 ⟨rfl, u2, hW2, hM2⟩; have H4 := Lib.hid hW2; have H5 := Lib.hid hM2; clear hW2 hM2)
    go_end0
    exact ⟨rfl, u2, H4.out, H5.out⟩

theorem wlen (B g : Nat) (v : Value) (xs : List Int) (w : World) (h : Wr B w g v xs) :
    Calls Try.prog 19 #[.pointer (some ⟨g, 0, none⟩)] w fun e w' => e = .returned (.int .i64 xs.length) ∧ w = w' := by
  obtain ⟨hb, hg, ho⟩ := h
  obtain ⟨A, c, rfl⟩ := own_slice ho
  have hc : w.cell? ⟨g, 0, none⟩ = some (.slice A xs.length c) := blk_cell hb 0
  clear hb ho
  go_enter Try.func19, Try.ntmps19
  go_wp2
  go_ret
  exact ⟨rfl, rfl⟩

/-- A word's bytes. -/
def wrd (n : Int) : List Int := [n % 256, n / 256 % 256, n / 65536 % 256, n / 16777216]

set_option maxHeartbeats 400000 in
set_option maxRecDepth 100000 in
theorem wword (B g : Nat) (v : Value) (xs : List Int) (n : Int) (w : World) (h : Wr B w g v xs) (hl : xs.length ≤ 1000000000) (h0 : 0 ≤ n) (h1 : n ≤ 4294967295) :
    Calls Try.prog 77 #[.pointer (some ⟨g, 0, none⟩), .int .u32 n] w fun e w' => e = .returned (.tuple #[]) ∧ ∃ v', Wr B w' g v' (xs ++ wrd n) ∧ Mv w w' g v v' := by
  have HW := Lib.hid h
  obtain ⟨hb, hg, ho⟩ := h
  obtain ⟨A, c, rfl⟩ := own_slice ho
  have hc := blk_cell hb 0
  simp only [List.getElem?_toArray, List.getElem?_cons_zero] at hc
  have hz := blk_frozen hb 0
  have hlt := blk_lt hb
  have HO := Lib.hid ho
  have HBK := Lib.hid hb
  have HL := Lib.hid hl
  clear ho hb hl
  have hlit := own_reads (own_lit w B 5 .u8 (wrd n) (by omega) (by simp [wrd]))
  obtain ⟨A2, c2, e2, hreads⟩ := hlit
  injection e2 with eA eN eC
  subst eA eC
  have HR := Lib.hid hreads
  clear hreads eN
  go_enter Try.func77, Try.ntmps77
  go_wp2_with (at_builtin; go_must (refine print_append_row (w0 := w) B rfl _ _ 24 5 .u8 1 rfl Try.underlying24 info5 (by decide) (.slice A xs.length c) xs (wrd n) (some ⟨w.heap.size, 0, none⟩) 4 4 rfl rfl (HO.out.alloc _) HR.out ((Below.refl B w).alloc (by omega) _) (by simp; omega) (by have := HL.out; omega) ?_; intro v1 w1 hown hbel hgrow hlie; obtain ⟨A1, n1, cap1, rfl⟩ := own_form hown; have hgr := World.grownBy.trans (World.grownBy_alloc w _ _) hgrow; have hb1 := blk_grown HBK.out hgr (own_ne HO.out HBK.out (by decide)); have hc1 : w1.cell? ⟨g, 0, none⟩ = some (.slice A xs.length c) := blk_cell hb1 0; have hz1 := blk_frozen hb1 0; clear hb1; have HS := Lib.hid (wr_store HW.out hgr (hlie.imp id (fun ⟨b, e, hb⟩ => ⟨b, e, Nat.le_of_succ_le (by simpa using hb)⟩)) hown); clear hown hlie hgrow hbel hgr))
  go_end0
  exact ⟨rfl, _, HS.out⟩

end Go.Proofs.Ytehdhmhpmkkneaa
