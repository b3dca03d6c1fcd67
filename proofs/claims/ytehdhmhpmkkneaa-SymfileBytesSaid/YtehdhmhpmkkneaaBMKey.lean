/- The texts Cw, Cx, Cs, Cy, Fw, Fx, Rf, Rg, Fr, Fk, Fl, one behind the other. -/
import Derived.Test.YtehdhmhpmkkneaaBPAllx0
import Derived.WalkSpells
import Derived.WalkLawsBesides
import Derived.WalkSmall
import Derived.Lib.Hide
import Derived.Lib.AppendStr
import Derived.Test.YtehdhmhpmkkneaaBOp2
import Derived.Test.YtehdhmhpmkkneaaBPAllx5
import Derived.Test.YtehdhmhpmkkneaaBPAllx6
import Derived.Test.YtehdhmhpmkkneaaBPAllx7
import Derived.Test.YtehdhmhpmkkneaaBPAllx8
import Derived.Test.YtehdhmhpmkkneaaBPAllx10
import Derived.Test.YtehdhmhpmkkneaaBPAllx11
import Derived.Test.YtehdhmhpmkkneaaBPAllx9
/- Layer 12: the walks of the writer (codec.Writer): what each call puts behind the bytes that are there. -/
namespace Go.Proofs.Ytehdhmhpmkkneaa
open Go.RowKit Go.Proofs.YtehdhmhpmkkneaaW.PrintWords
theorem info5 : (Try.prog.info? 5).map (fun i => (i.zero, i.size, i.bytes)) = some (some (.int .u8 0), 1, 1) := by kernel_rfl
/-- From w to w': nothing that was there has changed but block g and v's own row; v' is v's row or a new one. -/
structure Mv (w w' : World) (g : Nat) (v v' : Value) : Prop where
  os : w'.os = w.os
  tape : w'.tape = w.tape
  output : w'.output = w.output
  size : w.heap.size ≤ w'.heap.size
  block : ∀ i, i < w.heap.size → i ≠ g → some i ≠ v.ownBlock → w'.heap[i]? = w.heap[i]?
  lies : v'.ownBlock = v.ownBlock ∨ ∃ b, v'.ownBlock = some b ∧ w.heap.size ≤ b
theorem Mv.refl (w : World) (g : Nat) (v : Value) : Mv w w g v v := ⟨rfl, rfl, rfl, Nat.le_refl _, fun _ _ _ _ => rfl, .inl rfl⟩
theorem Mv.trans {w w1 w2 : World} {g : Nat} {v v1 v2 : Value} (h : Mv w w1 g v v1) (k : Mv w1 w2 g v1 v2) : Mv w w2 g v v2 := by
  refine ⟨k.os.trans h.os, k.tape.trans h.tape, k.output.trans h.output, Nat.le_trans h.size k.size, fun i hi hg hv => ?_, ?_⟩
  · have hv1 : some i ≠ v1.ownBlock := by
      rcases h.lies with e | ⟨b, e, hb⟩
      · rw [e]; exact hv
      · rw [e]; intro e'; injection e' with e'; omega
    rw [k.block i (Nat.lt_of_lt_of_le hi h.size) hg hv1, h.block i hi hg hv]
  · rcases k.lies with e | ⟨b, e, hb⟩
    · rw [e]; exact h.lies
    · exact .inr ⟨b, e, Nat.le_trans h.size hb⟩
theorem Mv.of_below {w w1 : World} (h : Below w.heap.size w w1) (g : Nat) (v : Value) : Mv w w1 g v v :=
  ⟨h.os, h.tape, h.output, h.size, fun i hi _ _ => h.block i hi, .inl rfl⟩
theorem Mv.below {w0 w w1 : World} {B g : Nat} {v v1 : Value} (h : Mv w w1 g v v1) (hb : Below B w0 w) (hB : B ≤ w.heap.size) (hg : B ≤ g) (hv : ∀ k, v.ownBlock = some k → B ≤ k) : Below B w0 w1 :=
  hb.trans ⟨h.os, h.tape, h.output, h.size, fun i hi => h.block i (Nat.lt_of_lt_of_le hi hB) (by omega) (fun e => by have := hv i e.symm; omega)⟩
/-- A writer: block g holds the slice v, which owns the bytes xs; both lie from block B on. -/
def Wr (B : Nat) (w : World) (g : Nat) (v : Value) (xs : List Int) : Prop :=
  w.heap[g]? = some (.cells #[v] 26 (0, 0)) ∧ B ≤ g ∧ w.ownsRow B 5 1 v xs.length (nums .u8 xs)
theorem Wr.lt {B : Nat} {w : World} {g : Nat} {v : Value} {xs : List Int} (h : Wr B w g v xs) : g < w.heap.size := blk_lt h.1
theorem Wr.base {B : Nat} {w : World} {g : Nat} {v : Value} {xs : List Int} (h : Wr B w g v xs) : ∀ k, v.ownBlock = some k → B ≤ k := own_base h.2.2
theorem Wr.below {B : Nat} {w w1 : World} {g : Nat} {v : Value} {xs : List Int} (h : Wr B w g v xs) (hb : Below w.heap.size w w1) : Wr B w1 g v xs :=
  ⟨blk_below h.1 hb, h.2.1, pw_own_below h.2.2 hb⟩
theorem own_form {w : World} {base n : Nat} {e : TypeId} {size : Nat} {v : Value} {xs : List Value} (h : w.ownsRow base e size v n xs) : ∃ A m c, v = .slice A m c := by
  obtain ⟨A, c, rfl⟩ := own_slice h
  exact ⟨A, _, c, rfl⟩
/-- The row has grown, and is stored into the writer's block. -/
theorem wr_store {B : Nat} {w w1 : World} {g : Nat} {v v1 : Value} {xs ys : List Int} (h : Wr B w g v xs) (hg : w.grownBy w1 v.ownBlock) (hl : v1.ownBlock = v.ownBlock ∨ ∃ b, v1.ownBlock = some b ∧ w.heap.size ≤ b)
    (ho : w1.ownsRow B 5 1 v1 ys.length (nums .u8 ys)) : Wr B (w1.setCell ⟨g, 0, none⟩ v1) g v1 ys ∧ Mv w (w1.setCell ⟨g, 0, none⟩ v1) g v v1 := by
  obtain ⟨hb, hB, hr⟩ := h
  have hb1 := blk_grown hb hg (own_ne hr hb (by decide))
  refine ⟨⟨blk_set hb1 0 v1, hB, own_setCell ho (own_ne ho hb1 (by decide)) _⟩, ⟨hg.os, hg.tape, hg.output, by simpa [World.setCell] using hg.size, fun i hi hi1 hi2 => ?_, hl⟩⟩
  rw [Below.heap_setCell w1 ⟨g, 0, none⟩ v1 i hi1]
  exact hg.block i hi hi2
set_option maxHeartbeats 400000 in
theorem wbyte (B g : Nat) (v : Value) (xs : List Int) (b : Int) (w : World) (h : Wr B w g v xs) (hl : xs.length + 1 ≤ 140737488355328) :
    Calls Try.prog 74 #[.pointer (some ⟨g, 0, none⟩), .int .u8 b] w fun e w' => e = .returned (.tuple #[]) ∧ ∃ v', Wr B w' g v' (xs ++ [b]) ∧ Mv w w' g v v' := by
  have HW := Lib.hid h
  obtain ⟨hb, hg, ho⟩ := h
  obtain ⟨A, c, rfl⟩ := own_slice ho
  have hc := blk_cell hb 0
  simp only [List.getElem?_toArray, List.getElem?_cons_zero] at hc
  have hz := blk_frozen hb 0
  have hlt := blk_lt hb
  have HO := Lib.hid ho
  have HBK := Lib.hid hb
  have HL := Lib.hid hl
  clear ho hb hl
  go_enter Try.func74, Try.ntmps74
  go_wp2_with (at_builtin; go_must (refine print_append_num (w0 := w) B rfl _ _ 24 5 .u8 1 rfl Try.underlying24 info5 (by decide) (.slice A xs.length c) xs b rfl rfl HO.out (Below.refl _ _) (by omega) (by have := HL.out; omega) ?_; intro v1 w1 hown hbel hgrow hlie; obtain ⟨A1, n1, cap1, rfl⟩ := own_form hown; have hb1 := blk_grown HBK.out hgrow (own_ne HO.out HBK.out (by decide)); have hc1 : w1.cell? ⟨g, 0, none⟩ = some (.slice A xs.length c) := blk_cell hb1 0; have hz1 := blk_frozen hb1 0; clear hb1; have HS := Lib.hid (wr_store HW.out hgrow hlie hown); clear hown hlie hgrow hbel))
  go_end0
  exact ⟨rfl, _, HS.out⟩
end Go.Proofs.Ytehdhmhpmkkneaa
/- Layer 12: the walks of the writer's Count, Number, Word, Text, Bytes, Len. -/
namespace Go.Proofs.Ytehdhmhpmkkneaa
open Go.RowKit Go.Proofs.YtehdhmhpmkkneaaW.PrintWords Go.Proofs.YtehdhmhpmkkneaaW.PrintMore
/-- A number's bytes: groups of seven bits, the lowest first; all but the last with 128 more. -/
def cnt (n : Nat) : List Int := if n < 128 then [(n : Int)] else ((n % 128 + 128 : Nat) : Int) :: cnt (n / 128)
decreasing_by omega
theorem cnt_low {n : Nat} (h : n < 128) : cnt n = [(n : Int)] := by rw [cnt, if_pos h]
theorem cnt_high {n : Nat} (h : ¬ n < 128) : cnt n = ((n % 128 + 128 : Nat) : Int) :: cnt (n / 128) := by rw [cnt, if_neg h]
theorem cnt_len (k : Nat) : ∀ n, n < 128 ^ (k + 1) → (cnt n).length ≤ k + 1 := by
  induction k with
  | zero => intro n h; rw [cnt_low (by simpa using h)]; simp
  | succ k ih =>
    intro n h
    by_cases hn : n < 128
    · rw [cnt_low hn]; simp
    · rw [cnt_high hn]
      have := ih (n / 128) (by rw [Nat.pow_succ] at h; omega)
      simp; omega
theorem cnt_len9 {n : Nat} (h : n ≤ 9223372036854775807) : (cnt n).length ≤ 9 := cnt_len 8 n (by omega)
theorem or128 (m : Nat) : bits .or .u8 ((m : Int) % 256) 128 = ((m % 128 + 128 : Nat) : Int) := by
  have key : ∀ x : Fin 256, bits BinOp.or IntKind.u8 (x.val : Int) 128 = ((x.val % 128 + 128 : Nat) : Int) := by decide +kernel
  have h := key ⟨m % 256, Nat.mod_lt _ (by decide)⟩
  simp only at h
  rw [show ((m : Int) % 256) = ((m % 256 : Nat) : Int) by simp, h]
  congr 1
  omega
section
attribute [local go_sem] max2_int max_two
set_option maxHeartbeats 400000 in
set_option maxRecDepth 100000 in
theorem wcount (B g : Nat) (v : Value) (xs : List Int) (n : Nat) (w : World) (h : Wr B w g v xs) (hl : xs.length ≤ 1000000000) (hn : n ≤ 9223372036854775807) :
    Calls Try.prog 39 #[.pointer (some ⟨g, 0, none⟩), .int .i64 n] w fun e w' => e = .returned (.tuple #[]) ∧ ∃ v', Wr B w' g v' (xs ++ cnt n) ∧ Mv w w' g v v' := by
  have HW := Lib.hid h
  have h9 := Lib.hid (cnt_len9 hn)
  have HL := Lib.hid hl
  have HN := Lib.hid hn
  clear h hl
  go_enter Try.func39, Try.ntmps39
  go_wp2
  clear hn
  go_loopw [4] (fun r4 wr => ∃ (m : Nat) (ys : List Int) (u : Value), r4 = .int .u64 m ∧ m ≤ n ∧ Hid (Wr B wr g u ys) ∧ Hid (Mv w wr g v u) ∧ Hid (ys ++ cnt m = xs ++ cnt n)) (fun r4 _ => (intOf r4).toNat)
  case atStart => exact ⟨n, xs, v, rfl, Nat.le_refl _, HW, Lib.hid (Mv.refl _ _ _), Lib.hid rfl⟩
  case round =>
    obtain ⟨m, ys, u, rfl, hm, H1, H2, H3⟩ := hrel
    have hyl : Hid (ys.length ≤ 1000000009) := Lib.hid (by
      have := congrArg List.length H3.out
      have := HL.out
      have := h9.out
      simp at *
      omega)
    by_cases h1 : m < 128
    · go_wp2_with (go_at_call 74; refine (wbyte B g u ys _ _ H1.out (by have := hyl.out; omega)).mono ?_; rintro e w2 ⟨rfl, u2, hW2, hM2⟩; have H4 := Lib.hid hW2; have H5 := Lib.hid hM2; clear hW2 hM2)
      go_end0
      refine ⟨rfl, u2, ?_, H2.out.trans H5.out⟩
      have e := H3.out
      rw [cnt_low h1] at e
      rw [← e]
      exact H4.out
    · go_wp2_with (go_at_call 74; refine (wbyte B g u ys _ _ H1.out (by have := hyl.out; omega)).mono ?_; rintro e w2 ⟨rfl, u2, hW2, hM2⟩; have H4 := Lib.hid hW2; have H5 := Lib.hid hM2; clear hW2 hM2)
      go_roundw
      case rel =>
        refine ⟨m / 128, _, u2, by simp, Nat.le_trans (Nat.div_le_self _ _) hm, H4, Lib.hid (H2.out.trans H5.out), Lib.hid ?_⟩
        have e := H3.out
        rw [cnt_high h1, ← or128] at e
        rw [← e]
        simp
      case measure => simp [intOf]; omega
end
section
attribute [local go_sem] max2_int max_two
set_option maxHeartbeats 400000 in
set_option maxRecDepth 100000 in
theorem wcount_neg (B g : Nat) (v : Value) (xs : List Int) (n : Int) (w : World) (h : Wr B w g v xs) (hl : xs.length ≤ 1000000000) (hn : n < 0) :
    Calls Try.prog 39 #[.pointer (some ⟨g, 0, none⟩), .int .i64 n] w fun e w' => e = .returned (.tuple #[]) ∧ ∃ v', Wr B w' g v' (xs ++ cnt 0) ∧ Mv w w' g v v' := by
  have HW := Lib.hid h
  have HL := Lib.hid hl
  have HC : Hid (cnt 0 = [0]) := Lib.hid (cnt_low (by omega))
  clear h hl
  go_enter Try.func39, Try.ntmps39
  go_wp2
  refine wp_loop_rounds 1 ?_
  rw [rounds_succ]
  go_wp2_with (go_at_call 74; refine (wbyte B g v xs _ _ HW.out (by have := HL.out; omega)).mono ?_; rintro e w2 ⟨rfl, u2, hW2, hM2⟩; have H4 := Lib.hid hW2; have H5 := Lib.hid hM2; clear hW2 hM2)
  go_end0
  rw [HC.out]
  exact ⟨rfl, u2, H4.out, H5.out⟩
end
theorem wcountI (B g : Nat) (v : Value) (xs : List Int) (n : Int) (w : World) (h : Wr B w g v xs) (hl : xs.length ≤ 1000000000) (hn : n ≤ 9223372036854775807) :
    Calls Try.prog 39 #[.pointer (some ⟨g, 0, none⟩), .int .i64 n] w fun e w' => e = .returned (.tuple #[]) ∧ ∃ v', Wr B w' g v' (xs ++ cnt n.toNat) ∧ Mv w w' g v v' := by
  by_cases h0 : n < 0
  · have e : n.toNat = 0 := by omega
    rw [e]
    exact wcount_neg B g v xs n w h hl h0
  · obtain ⟨m, rfl⟩ := Int.eq_ofNat_of_zero_le (a := n) (by omega)
    rw [Int.toNat_natCast]
    exact wcount B g v xs m w h hl (by omega)
/-- A number with a sign, as a count. -/
def sgn (n : Int) : Nat := if n < 0 then (-2 * n - 1).toNat else (2 * n).toNat
set_option maxHeartbeats 400000 in
set_option maxRecDepth 100000 in
theorem wnumber (B g : Nat) (v : Value) (xs : List Int) (n : Int) (w : World) (h : Wr B w g v xs) (hl : xs.length ≤ 1000000000) (h0 : -2147483648 ≤ n) (h1 : n ≤ 2147483647) :
    Calls Try.prog 41 #[.pointer (some ⟨g, 0, none⟩), .int .i32 n] w fun e w' => e = .returned (.tuple #[]) ∧ ∃ v', Wr B w' g v' (xs ++ cnt (sgn n)) ∧ Mv w w' g v v' := by
  have HW := Lib.hid h
  have HL := Lib.hid hl
  clear h hl
  by_cases hn : n < 0
  · obtain ⟨m, hm⟩ : ∃ m : Nat, -2 * n - 1 = (m : Int) := ⟨(-2 * n - 1).toNat, by omega⟩
    have e : sgn n = m := by unfold sgn; rw [if_pos hn, hm]; rfl
    have hmb : m ≤ 9223372036854775807 := by omega
    rw [e]
    have HM := Lib.hid hm
    have HMB := Lib.hid hmb
    clear e hm hmb
    go_enter Try.func41, Try.ntmps41
    go_wp2_with (go_at_call 39; rw [HM.out]; refine (wcount B g v xs m _ HW.out HL.out HMB.out).mono ?_; rintro e w2 ⟨rfl, u2, hW2, hM2⟩; have H4 := Lib.hid hW2; have H5 := Lib.hid hM2; clear hW2 hM2)
    exact bodyPost_ret (results_none rfl _ _ _) rfl ⟨rfl, u2, H4.out, H5.out⟩
  · obtain ⟨m, hm⟩ : ∃ m : Nat, 2 * n = (m : Int) := ⟨(2 * n).toNat, by omega⟩
    have e : sgn n = m := by unfold sgn; rw [if_neg hn, hm]; rfl
    have hmb : m ≤ 9223372036854775807 := by omega
    rw [e]
    have HM := Lib.hid hm
    have HMB := Lib.hid hmb
    clear e hm hmb
    go_enter Try.func41, Try.ntmps41
    go_wp2_with (go_at_call 39; rw [HM.out]; refine (wcount B g v xs m _ HW.out HL.out HMB.out).mono ?_; rintro e w2 ⟨rfl, u2, hW2, hM2⟩; have H4 := Lib.hid hW2; have H5 := Lib.hid hM2; clear hW2 hM2)
    go_end0
    exact ⟨rfl, u2, H4.out, H5.out⟩
/-- A word's bytes. -/
def wrd (n : Int) : List Int := [n % 256, n / 256 % 256, n / 65536 % 256, n / 16777216]
set_option maxHeartbeats 400000 in
set_option maxRecDepth 100000 in
theorem wword (B g : Nat) (v : Value) (xs : List Int) (n : Int) (w : World) (h : Wr B w g v xs) (hl : xs.length ≤ 1000000000) (h0 : 0 ≤ n) (h1 : n ≤ 4294967295) :
    Calls Try.prog 77 #[.pointer (some ⟨g, 0, none⟩), .int .u32 n] w fun e w' => e = .returned (.tuple #[]) ∧ ∃ v', Wr B w' g v' (xs ++ wrd n) ∧ Mv w w' g v v' := by
  have HW := Lib.hid h
  obtain ⟨hb, hg, ho⟩ := h
  obtain ⟨A, c, rfl⟩ := own_slice ho
  have hc := blk_cell hb 0
  simp only [List.getElem?_toArray, List.getElem?_cons_zero] at hc
  have hz := blk_frozen hb 0
  have hlt := blk_lt hb
  have HO := Lib.hid ho
  have HBK := Lib.hid hb
  have HL := Lib.hid hl
  clear ho hb hl
  have hlit := own_reads (own_lit w B 5 .u8 (wrd n) (by omega) (by simp [wrd]))
  obtain ⟨A2, c2, e2, hreads⟩ := hlit
  injection e2 with eA eN eC
  subst eA eC
  have HR := Lib.hid hreads
  clear hreads eN
  go_enter Try.func77, Try.ntmps77
  go_wp2_with (at_builtin; go_must (refine print_append_row (w0 := w) B rfl _ _ 24 5 .u8 1 rfl Try.underlying24 info5 (by decide) (.slice A xs.length c) xs (wrd n) (some ⟨w.heap.size, 0, none⟩) 4 4 rfl rfl (HO.out.alloc _) HR.out ((Below.refl B w).alloc (by omega) _) (by simp; omega) (by have := HL.out; omega) ?_; intro v1 w1 hown hbel hgrow hlie; obtain ⟨A1, n1, cap1, rfl⟩ := own_form hown; have hgr := World.grownBy.trans (World.grownBy_alloc w _ _) hgrow; have hb1 := blk_grown HBK.out hgr (own_ne HO.out HBK.out (by decide)); have hc1 : w1.cell? ⟨g, 0, none⟩ = some (.slice A xs.length c) := blk_cell hb1 0; have hz1 := blk_frozen hb1 0; clear hb1; have HS := Lib.hid (wr_store HW.out hgr (hlie.imp id (fun ⟨b, e, hb⟩ => ⟨b, e, Nat.le_of_succ_le (by simpa using hb)⟩)) hown); clear hown hlie hgrow hbel hgr))
  go_end0
  exact ⟨rfl, _, HS.out⟩
end Go.Proofs.Ytehdhmhpmkkneaa
/- append(b, s...), s a string, b a row of the call's own: where the new row lies (b's own, or new). -/
namespace Go.Proofs.Ytehdhmhpmkkneaa
open Go.RowKit Go.Proofs.YtehdhmhpmkkneaaW.PrintWords
section
variable {P : Program} {w : World}
theorem str_lies (base : Nat) (t u ty e : TypeId) (i : TypeInfo) (ht : P.underlying t = some (.slice e)) (hu : P.underlying u = some .string) (hi : P.info? e = some i) (hz : i.zero = some (.int .u8 0)) (hsize : i.size = 1) (hby : i.bytes = 1)
    (v : Value) (n : Nat) (xs : List Value) (hown : w.ownsRow base e 1 v n xs) (s : ByteArray) (h63 : n + s.size ≤ maxLen) (hbytes : n + s.size ≤ 140737488355328)
    (v' : Value) (w' : World) (hr : (Builtin.append_ #[t, u] ty #[v, .string s]).run P w = .ok v' w') : v'.ownBlock = v.ownBlock ∨ ∃ b, v'.ownBlock = some b ∧ w.heap.size ≤ b := by
  have hxl : xs.length = n := by simpa using hown.1
  have hsmall : n + s.size ≤ 9223372036854775807 := by simp only [maxLen] at h63; omega
  rcases hown.2 with ⟨rfl, rfl⟩ | ⟨g, cap, cur, rfl, hbg, hg, hnc, hcm, hcs, htake⟩
  · obtain ⟨v2, w2, hr2, ho2, _, _⟩ := Lib.run_append_own_string (P := P) w w.heap.size t u ty e i ht hu hi hz hsize hby (.slice none 0 0) 0 [] (World.ownsRow_nil _ _ _ _) s h63 hbytes (Nat.le_refl _)
    rw [hr] at hr2
    injection hr2 with e1 _
    subst e1
    rcases hk : v'.ownBlock with _ | k
    · exact .inl rfl
    · exact .inr ⟨k, rfl, own_base ho2 k hk⟩
  · by_cases hroom : n + s.size ≤ cap
    · have hcs' : cur.size = cap := by simpa using hcs
      have hr2 := Lib.run_append_room_string (P := P) w t u ty e i ht hu hi hsize g n cap cur hg s hroom (by omega)
      rw [hr] at hr2
      injection hr2 with e1 _
      subst e1
      exact .inl rfl
    · have holds : ∀ j u, xs[j]? = some u → w.cell? ((⟨g, 0, none⟩ : Addr).add j) = some u := hown.cells (g := g) rfl
      have hr2 := Lib.run_append_grow_string (P := P) w t u ty e i (.int .u8 0) ht hu hi hz ⟨g, 0, none⟩ n cap xs (by rw [hsize]; simpa using hxl) holds s (by omega) (by omega) (by rw [hby]; exact growslice_fits (by omega) (by omega))
      rw [hr] at hr2
      injection hr2 with e1 _
      subst e1
      exact .inr ⟨_, rfl, Nat.le_refl _⟩
variable {ops : Array Oper} {rest : List Oper} {o : Oper} {a : Act} {Q : Exit → Act → World → Prop}
/-- The same at the operation, for the walk. -/
theorem append_str (base : Nat) (hgd : o.guard = none) (s x : Operand) (t u e : TypeId)
    (ho : o.op = .call { callee := .builtin .append, args := #[s, x], argTypes := #[t, u] })
    (ht : P.underlying t = some (.slice e)) (hu : P.underlying u = some .string) (hinfo : (P.info? e).map (fun i => (i.zero, i.size, i.bytes)) = some (some (.int .u8 0), 1, 1))
    (v : Value) (xs : List Int) (y : ByteArray) (hs : a.eval s = v) (hx : a.eval x = .string y)
    (HO : w.ownsRow base e 1 v xs.length (nums .u8 xs)) (hbase : base ≤ w.heap.size) (hl : xs.length + y.size ≤ 140737488355328)
    (h : ∀ v1 w1, w1.ownsRow base e 1 v1 (xs ++ bytesOf y).length (nums .u8 (xs ++ bytesOf y)) → w.grownBy w1 v.ownBlock → (v1.ownBlock = v.ownBlock ∨ ∃ b, v1.ownBlock = some b ∧ w.heap.size ≤ b) → wpList P ops Q rest (a.put o.dst v1) w1) :
    wpList P ops Q (o :: rest) a w := by
  obtain ⟨i0, hi, hzz⟩ := Option.map_eq_some_iff.1 hinfo
  simp only [Prod.mk.injEq] at hzz
  obtain ⟨hz0, hz1, hz2⟩ := hzz
  refine wpList_plain hgd fun K hK => ?_
  obtain ⟨v', w', hr, h2, h3, _⟩ := Lib.run_append_own_string (P := P) w base t u o.type e i0 ht hu hi hz0 hz1 hz2 v xs.length (nums .u8 xs) HO y (by simp only [maxLen]; omega) hl hbase
  have h5 := str_lies base t u o.type e i0 ht hu hi hz0 hz1 hz2 v xs.length (nums .u8 xs) HO y (by simp only [maxLen]; omega) hl v' w' hr
  have hl2 : (xs ++ bytesOf y).length = xs.length + y.size := by rw [List.length_append, bytesOf_length]
  have hc : nums .u8 (xs ++ bytesOf y) = nums .u8 xs ++ Lib.strCells y := by
    rw [nums_append]
    congr 1
    simp [nums, bytesOf, Lib.strCells]
  unfold Oper.wp execOp
  simp only [ho, resolve, invoke, builtin, Sem.run_bind, Sem.run_pure, Result.andThen_ok, List.map_toArray, List.map_cons, List.map_nil, hs, hx, hr]
  exact hK _ _ (h v' w' (by rw [hl2, hc]; exact h2) h3 h5)
end
end Go.Proofs.Ytehdhmhpmkkneaa
/- Layer 12: the walks of the writer's Text and Bytes. -/
namespace Go.Proofs.Ytehdhmhpmkkneaa
open Go.RowKit Go.Proofs.YtehdhmhpmkkneaaW.PrintWords Go.Proofs.YtehdhmhpmkkneaaW.PrintMore
set_option maxHeartbeats 400000 in
set_option maxRecDepth 100000 in
theorem wtext (B g : Nat) (v : Value) (xs : List Int) (s : ByteArray) (w : World) (h : Wr B w g v xs) (hl : xs.length ≤ 1000000000) (hs : s.size ≤ 1000000000) :
    Calls Try.prog 43 #[.pointer (some ⟨g, 0, none⟩), .string s] w fun e w' => e = .returned (.tuple #[]) ∧ ∃ v', Wr B w' g v' (xs ++ (cnt s.size ++ bytesOf s)) ∧ Mv w w' g v v' := by
  have HW := Lib.hid h
  have HL := Lib.hid hl
  have HS := Lib.hid hs
  have h9 := Lib.hid (cnt_len9 (n := s.size) (by omega))
  clear h hl
  go_enter Try.func43, Try.ntmps43
  go_wp2_with fail
  refine (wcount B g v xs s.size _ HW.out HL.out (by have := HS.out; omega)).mono ?_
  rintro e w2 ⟨rfl, u2, hW2, hM2⟩
  have H4 := Lib.hid hW2
  have H5 := Lib.hid hM2
  have hglt := hW2.2.1
  have hlt := hW2.lt
  clear hW2 hM2 hs
  obtain ⟨A, n, c, rfl⟩ := own_form H4.out.2.2
  have hc := blk_cell H4.out.1 0
  simp only [List.getElem?_toArray, List.getElem?_cons_zero] at hc
  have hz := blk_frozen H4.out.1 0
  go_wp2_with (at_builtin; go_must (refine append_str B rfl _ _ 24 9 5 rfl Try.underlying24 Try.underlying9 info5 (.slice A n c) (xs ++ cnt s.size) s rfl rfl H4.out.2.2 (by omega) (by have := HL.out; have := HS.out; have := h9.out; simp; omega) ?_; intro v1 w1 hown hgrow hlie; obtain ⟨A1, n1, cap1, rfl⟩ := own_form hown; have hb1 := blk_grown H4.out.1 hgrow (own_ne H4.out.2.2 H4.out.1 (by decide)); have hc1 : w1.cell? ⟨g, 0, none⟩ = some (.slice A n c) := blk_cell hb1 0; have hz1 := blk_frozen hb1 0; clear hb1; have H6 := Lib.hid (wr_store H4.out hgrow hlie hown); clear hown hlie hgrow))
  go_end0
  refine ⟨rfl, _, ?_, H5.out.trans H6.out.2⟩
  rw [← List.append_assoc]
  exact H6.out.1
/-- A row of bytes of the call's own is handed back; nothing that was there has changed. -/
def Got (w : World) (xs : List Int) (e : Ending) (w' : World) : Prop := ∃ v', e = .returned v' ∧ w'.ownsRow w.heap.size 5 1 v' xs.length (nums .u8 xs) ∧ Below w.heap.size w w'
set_option maxHeartbeats 400000 in
set_option maxRecDepth 100000 in
theorem wbytes (B g : Nat) (v : Value) (xs : List Int) (w : World) (h : Wr B w g v xs) (hl : xs.length ≤ 1000000000) :
    Calls Try.prog 18 #[.pointer (some ⟨g, 0, none⟩)] w (Got w xs) := by
  obtain ⟨hb, hg, ho⟩ := h
  obtain ⟨A, c, rfl⟩ := own_slice ho
  have hc : w.cell? ⟨g, 0, none⟩ = some (.slice A xs.length c) := blk_cell hb 0
  have hlt := blk_lt hb
  obtain ⟨A2, c2, e2, hreads⟩ := own_reads ho
  injection e2 with eA eN eC
  subst eA eC
  have HR := Lib.hid hreads
  have HL := Lib.hid hl
  have HO := Lib.hid (own_lit w w.heap.size 5 .u8 [] (Nat.le_refl _) (by simp))
  clear hb ho hl hreads eN
  go_enter Try.func18, Try.ntmps18
  go_wp2_with (at_builtin; go_must (refine print_append_row (w0 := w) w.heap.size rfl _ _ 24 5 .u8 1 rfl Try.underlying24 info5 (by decide) (.slice (some ⟨w.heap.size, 0, none⟩) 0 0) [] xs A xs.length c rfl rfl HO.out (HR.out.below ((Below.refl _ _).alloc (Nat.le_refl _) _)) ((Below.refl _ w).alloc (Nat.le_refl _) _) (by simp) (by have := HL.out; simp; omega) ?_; intro v1 w1 hown hbel hgrow hlie; obtain ⟨A1, n1, cap1, rfl⟩ := own_form hown; have H6 := Lib.hid hown; have H7 := Lib.hid hbel; clear hown hlie hgrow hbel))
  go_ret
  exact ⟨_, rfl, H6.out, H7.out⟩
end Go.Proofs.Ytehdhmhpmkkneaa
/- Layer 13: what finger.Write puts, in plain words; rows of exports and parameters as the walks read them. -/
namespace Go.Proofs.Ytehdhmhpmkkneaa
open Go.RowKit Go.Proofs.YtehdhmhpmkkneaaW.PrintWords Go.Proofs.Ytehdhmhpmkkneaa.PAll
/-- A parameter's bytes, an export's, a list's. -/
def parB (p : S119) : List Int := cnt p.f0.toNat ++ cnt (if p.f1 = true then 1 else 0)
def headB (x : S80) : List Int := (cnt x.f0.size ++ bytesOf x.f0) ++ cnt x.f1.toNat ++ cnt x.f2.toNat ++ cnt (sgn x.f3) ++ cnt x.f4.length
def expB (x : S80) : List Int := headB x ++ x.f4.flatMap parB
def expsB (l : List S80) : List Int := cnt l.length ++ l.flatMap expB
theorem plain_add (b off k : Nat) : (⟨b, off, none⟩ : Addr).add k = ⟨b, off + k, none⟩ := WideShapes.add_plain _ _ _
theorem row119 {w : World} {A : Option Addr} {xs : List S119} (h : Kd.C k119 w A xs.length xs) (k : Nat) (hk : k < xs.length) :
    ∃ b off, A = some ⟨b, off, none⟩ ∧ b < w.heap.size ∧ w.cell? ⟨b, off + k * 2, none⟩ = some (.int .i64 xs[k].f0) ∧ w.cell? ⟨b, off + k * 2 + 1, none⟩ = some (.bool xs[k].f1) := by
  obtain ⟨ad, rfl, d0, _⟩ := at_T119 h (0 : Int) (by omega) (by omega)
  obtain ⟨b, off, rfl⟩ := plain_of d0
  obtain ⟨ad, e0, c0, c1⟩ := at_T119 h (k : Int) (by omega) (by omega)
  injection e0 with e0
  subst e0
  simp only [Int.toNat_natCast] at c0 c1
  rw [plain_add] at c0 c1
  have ex : rd_T119 xs (k : Int) = xs[k] := by simp [rd_T119, hk]
  rw [ex] at c0 c1
  exact ⟨b, off, rfl, World.block_lt_of_cell? _ _ c0, c0, c1⟩
theorem row80 {w : World} {A : Option Addr} {xs : List S80} (h : Kd.C k80 w A xs.length xs) (k : Nat) (hk : k < xs.length) :
    ∃ b off A4 c4, A = some ⟨b, off, none⟩ ∧ b < w.heap.size ∧ w.cell? ⟨b, off + k * 5, none⟩ = some (.string xs[k].f0) ∧ w.cell? ⟨b, off + k * 5 + 1, none⟩ = some (.int .i64 xs[k].f1) ∧ w.cell? ⟨b, off + k * 5 + 2, none⟩ = some (.int .i64 xs[k].f2) ∧
      w.cell? ⟨b, off + k * 5 + 3, none⟩ = some (.int .i32 xs[k].f3) ∧ w.cell? ⟨b, off + k * 5 + 4, none⟩ = some (.slice A4 xs[k].f4.length c4) ∧ xs[k].f4.length ≤ c4 ∧ Kd.C k119 w A4 xs[k].f4.length xs[k].f4 := by
  obtain ⟨ad, _, _, rfl, d0, _⟩ := at_T80 h (0 : Int) (by omega) (by omega)
  obtain ⟨b, off, rfl⟩ := plain_of d0
  obtain ⟨ad, A4, c4, e0, c0, c1, c2, c3, c4', l4, g4⟩ := at_T80 h (k : Int) (by omega) (by omega)
  injection e0 with e0
  subst e0
  simp only [Int.toNat_natCast] at c0 c1 c2 c3 c4'
  rw [plain_add] at c0 c1 c2 c3 c4'
  have ex : rd_T80 xs (k : Int) = xs[k] := by simp [rd_T80, hk]
  rw [ex] at c0 c1 c2 c3 c4' l4 g4
  exact ⟨b, off, A4, c4, rfl, World.block_lt_of_cell? _ _ c0, c0, c1, c2, c3, c4', l4, g4⟩
/-- A block that the writer's call leaves alone. -/
theorem blk_mv {w w2 : World} {g : Nat} {v v2 : Value} (m2 : Mv w w2 g v v2) {N : Nat} {o : Obj} (h : w.heap[N]? = some o) (hg : N ≠ g) (hv : some N ≠ v.ownBlock) : w2.heap[N]? = some o :=
  (m2.block N (blk_lt h) hg hv).trans h
/-- A prefix of what is to be put is no longer than the whole. -/
theorem flat_take {α : Type} (f : α → List Int) (l : List α) (k : Nat) (hk : k < l.length) : ((l.take k).flatMap f).length + (f l[k]).length ≤ (l.flatMap f).length := by
  have e : l = l.take k ++ (l[k] :: l.drop (k + 1)) := by rw [← List.drop_eq_getElem_cons hk, List.take_append_drop]
  have : (l.flatMap f).length = ((l.take k).flatMap f).length + ((f l[k]).length + ((l.drop (k + 1)).flatMap f).length) := by
    conv => lhs; rw [e]
    rw [List.flatMap_append, List.flatMap_cons, List.length_append, List.length_append]
  omega
theorem flat_snoc {α : Type} (f : α → List Int) (l : List α) (k : Nat) (hk : k < l.length) : (l.take (k + 1)).flatMap f = (l.take k).flatMap f ++ f l[k] := by
  rw [List.take_succ_eq_append_getElem hk, List.flatMap_append]
  simp
end Go.Proofs.Ytehdhmhpmkkneaa
/- Layer 13: the walk of finger.Write. -/
namespace Go.Proofs.Ytehdhmhpmkkneaa
open Go.RowKit Go.Proofs.YtehdhmhpmkkneaaW.PrintWords Go.Proofs.Ytehdhmhpmkkneaa.PAll
/-- A row that came in is read still. -/
theorem cell_old {w0 w : World} (hb : Below w0.heap.size w0 w) {b off : Nat} {v : Value} (hlt : b < w0.heap.size) (h : w0.cell? ⟨b, off, none⟩ = some v) : w.cell? ⟨b, off, none⟩ = some v :=
  (hb.cell (p := ⟨b, off, none⟩) hlt).trans h
/-- Where a new block lies: it is neither the writer's nor its row. -/
theorem new_ne {B : Nat} {w : World} {g : Nat} {v : Value} {xs : List Int} (h : Wr B w g v xs) : w.heap.size ≠ g ∧ some w.heap.size ≠ v.ownBlock := by
  refine ⟨fun e => ?_, fun e => ?_⟩
  · have := h.lt; omega
  · have := own_lt h.2.2 _ e.symm; omega
/-- Not the writer's block, nor its row, then or later. -/
theorem ne_later {w w2 : World} {g : Nat} {v v2 : Value} (m : Mv w w2 g v v2) {N : Nat} (hN : N < w.heap.size) (hv : some N ≠ v.ownBlock) : some N ≠ v2.ownBlock := by
  rcases m.lies with e | ⟨b, e, hb⟩
  · rw [e]; exact hv
  · rw [e]; intro e2; injection e2 with e2; omega
set_option maxHeartbeats 1000000 in
set_option maxRecDepth 100000 in
theorem fwrite (w0 : World) (g : Nat) (v : Value) (xs : List Int) (l : List S80) (A : Option Addr) (c : Nat) (w : World) (h : Wr w0.heap.size w g v xs) (hb : Below w0.heap.size w0 w) (hr : Kd.C k80 w0 A l.length l) (hok : ∀ x ∈ l, Ok80 x)
    (hT : xs.length + (expsB l).length ≤ 1000000000) :
    Calls Try.prog 22 #[.pointer (some ⟨g, 0, none⟩), .slice A l.length c] w fun e w' => e = .returned (.tuple #[]) ∧ ∃ v', Wr w0.heap.size w' g v' (xs ++ expsB l) ∧ Mv w w' g v v' := by
  have HW := Lib.hid h
  have HB0 := Lib.hid hb
  have HR := Lib.hid hr
  have OK := Lib.hid hok
  have HT := Lib.hid hT
  have hl63 : l.length ≤ 9223372036854775807 := hr.2.1
  have HX : Hid (xs.length + (cnt l.length).length + (l.flatMap expB).length ≤ 1000000000) := Lib.hid (by unfold expsB at hT; rw [List.length_append] at hT; omega)
  clear h hb hr hok hT
  go_enter Try.func22, Try.ntmps22
  go_wp2_with fail
  refine (wcount w0.heap.size g v xs l.length _ HW.out (by have := HX.out; omega) hl63).mono ?_
  rintro e w1 ⟨rfl, v1, h1, m1⟩
  have H1 := Lib.hid h1
  have M1 := Lib.hid m1
  clear h1 m1
  have HBB : ∀ (w2 : World) (v2 : Value), Mv w w2 g v v2 → Below w0.heap.size w0 w2 := fun _ _ m => m.below HB0.out HB0.out.size HW.out.2.1 HW.out.base
  have BB := Lib.hid HBB
  clear HBB
  go_wp2
  go_loopw [14] (fun r14 wr => ∃ (k : Nat) (u : Value), k ≤ l.length ∧ r14 = .int .i64 k ∧ Hid (Wr w0.heap.size wr g u (xs ++ cnt l.length ++ (l.take k).flatMap expB)) ∧ Hid (Mv w wr g v u)) (fun r14 _ => l.length - (intOf r14).toNat)
  case atStart => exact ⟨0, v1, by omega, rfl, Lib.hid (by rw [List.take_zero, List.flatMap_nil, List.append_nil]; exact H1.out), M1⟩
  case round =>
    obtain ⟨k, u, hk, rfl, H2, M2⟩ := hrel
    by_cases hlt : k < l.length
    rotate_left
    · go_wp2
      go_end0
      refine ⟨rfl, u, ?_, M2.out⟩
      have h2 := H2.out
      rw [List.take_of_length_le (by omega), List.append_assoc] at h2
      exact h2
    obtain ⟨b, off, A4, c4, rfl, hbl, x0, x1, x2, x3, x4, l4, g4⟩ := row80 HR.out k hlt
    have bw := Lib.hid (BB.out _ _ M2.out)
    have q0 := cell_old bw.out hbl x0
    have q1 := cell_old bw.out hbl x1
    have q2 := cell_old bw.out hbl x2
    have q3 := cell_old bw.out hbl x3
    have q4 := cell_old bw.out hbl x4
    have okx := OK.out l[k] (List.getElem_mem hlt)
    have FT := Lib.hid (flat_take expB l k hlt)
    have FS := Lib.hid (flat_snoc expB l k hlt)
    generalize l[k] = x at *
    obtain ⟨f0, f1, f2, f3, f4⟩ := x
    simp only at q0 q1 q2 q3 q4 x0 x1 x2 x3 x4 l4 g4
    obtain ⟨o0, o1, o2, o3, o4, o5⟩ := okx
    simp only at o0 o1 o2 o3 o4 o5
    have G4 := Lib.hid g4
    have O1 := Lib.hid (bd64 o1).2
    have O2 := Lib.hid (bd64 o2).2
    have O3 := Lib.hid (bd32 o3)
    have O5 := Lib.hid o5
    have l63 : f4.length ≤ 9223372036854775807 := g4.2.1
    obtain ⟨ys, Y⟩ : ∃ ys, Hid (ys = xs ++ cnt l.length ++ (l.take k).flatMap expB) := ⟨_, Lib.hid rfl⟩
    have HY : Hid (ys.length + (expB ⟨f0, f1, f2, f3, f4⟩).length ≤ 1000000000) := Lib.hid (by rw [Y.out]; have := FT.out; have := HX.out; simp only [List.length_append] at *; omega)
    have HZ : Hid (ys.length + (headB ⟨f0, f1, f2, f3, f4⟩).length + (f4.flatMap parB).length ≤ 1000000000) := Lib.hid (by have := HY.out; have e : expB ⟨f0, f1, f2, f3, f4⟩ = headB ⟨f0, f1, f2, f3, f4⟩ ++ f4.flatMap parB := rfl; rw [e, List.length_append] at this; omega)
    have HD : Hid (ys.length + ((cnt f0.size).length + f0.size + (cnt f1.toNat).length + (cnt f2.toNat).length + (cnt (sgn f3)).length + (cnt f4.length).length) ≤ 1000000000) := Lib.hid (by have := HZ.out; unfold headB at this; simp only [List.length_append, bytesOf_length] at this; omega)
    rw [← Y.out] at H2
    obtain ⟨wo, Wo⟩ : ∃ wo : World, Hid (wo = wr.alloc (.cells #[.string f0, .int .i64 f1, .int .i64 f2, .int .i32 f3, .slice A4 f4.length c4] 80)) := ⟨_, Lib.hid rfl⟩
    have ba : Below wr.heap.size wr (wr.alloc (.cells #[.string f0, .int .i64 f1, .int .i64 f2, .int .i32 f3, .slice A4 f4.length c4] 80)) := (Below.refl _ _).alloc (Nat.le_refl _) _
    have H3 := Lib.hid (H2.out.below ba)
    have M3 := Lib.hid (Mv.of_below ba g u)
    have K3 := Lib.hid (heap_alloc_new wr (.cells #[.string f0, .int .i64 f1, .int .i64 f2, .int .i32 f3, .slice A4 f4.length c4] 80))
    have NG := Lib.hid (new_ne H2.out).1
    have E3 := Lib.hid (new_ne H2.out).2
    clear ba x0 x1 x2 x3 x4 g4 o0 o1 o2 o3 o4 o5 Wo
    go_wp2_with fail
    refine (wtext w0.heap.size g u ys f0 _ H3.out (by have := HD.out; omega) (by have := HD.out; omega)).mono ?_
    rintro e w4 ⟨rfl, v4, h4, m4⟩
    have K4 := Lib.hid (blk_mv m4 K3.out NG.out E3.out)
    have E4 := Lib.hid (ne_later m4 (blk_lt K3.out) E3.out)
    have H4 := Lib.hid h4
    have M4 := Lib.hid m4
    clear h4 m4
    have c4 := blk_cell K4.out 1
    simp only [List.getElem?_toArray, List.getElem?_cons_succ, List.getElem?_cons_zero] at c4
    go_wp2_with fail
    refine (wcountI w0.heap.size g v4 _ f1 _ H4.out (by have := HD.out; simp only [List.length_append, bytesOf_length]; omega) O1.out).mono ?_
    rintro e w5 ⟨rfl, v5, h5, m5⟩
    have K5 := Lib.hid (blk_mv m5 K4.out NG.out E4.out)
    have E5 := Lib.hid (ne_later m5 (blk_lt K4.out) E4.out)
    have H5 := Lib.hid h5
    have M5 := Lib.hid m5
    clear h5 m5
    have c5 := blk_cell K5.out 2
    simp only [List.getElem?_toArray, List.getElem?_cons_succ, List.getElem?_cons_zero] at c5
    go_wp2_with fail
    refine (wcountI w0.heap.size g v5 _ f2 _ H5.out (by have := HD.out; simp only [List.length_append, bytesOf_length]; omega) O2.out).mono ?_
    rintro e w6 ⟨rfl, v6, h6, m6⟩
    have K6 := Lib.hid (blk_mv m6 K5.out NG.out E5.out)
    have E6 := Lib.hid (ne_later m6 (blk_lt K5.out) E5.out)
    have H6 := Lib.hid h6
    have M6 := Lib.hid m6
    clear h6 m6
    have c6 := blk_cell K6.out 3
    simp only [List.getElem?_toArray, List.getElem?_cons_succ, List.getElem?_cons_zero] at c6
    go_wp2_with fail
    refine (wnumber w0.heap.size g v6 _ f3 _ H6.out (by have := HD.out; simp only [List.length_append, bytesOf_length]; omega) O3.out.1 O3.out.2).mono ?_
    rintro e w7 ⟨rfl, v7, h7, m7⟩
    have K7 := Lib.hid (blk_mv m7 K6.out NG.out E6.out)
    have E7 := Lib.hid (ne_later m7 (blk_lt K6.out) E6.out)
    have H7 := Lib.hid h7
    have M7 := Lib.hid m7
    clear h7 m7
    have c7 := blk_cell K7.out 4
    simp only [List.getElem?_toArray, List.getElem?_cons_succ, List.getElem?_cons_zero] at c7
    go_wp2_with fail
    refine (wcount w0.heap.size g v7 _ f4.length _ H7.out (by have := HD.out; simp only [List.length_append, bytesOf_length]; omega) l63).mono ?_
    rintro e w8 ⟨rfl, v8, h8, m8⟩
    have K8 := Lib.hid (blk_mv m8 K7.out NG.out E7.out)
    have E8 := Lib.hid (ne_later m8 (blk_lt K7.out) E7.out)
    have H8 := Lib.hid h8
    have M8 := Lib.hid m8
    clear h8 m8
    have c8 := blk_cell K8.out 4
    simp only [List.getElem?_toArray, List.getElem?_cons_succ, List.getElem?_cons_zero] at c8
    have H9 : Hid (Wr w0.heap.size w8 g v8 (ys ++ headB ⟨f0, f1, f2, f3, f4⟩)) := Lib.hid (by have h := H8.out; simp only [List.append_assoc] at h; simpa only [headB, List.append_assoc] using h)
    have M9 := Lib.hid (M2.out.trans (M3.out.trans (M4.out.trans (M5.out.trans (M6.out.trans (M7.out.trans M8.out))))))
    clear q0 q1 q2 q3 q4 c4 c5 c6 c7 H3 H4 H5 H6 H7 H8 M3 M4 M5 M6 M7 M8 K3 K4 K5 K6 K7 E3 E4 E5 E6 E7 E8 bw
    go_wp2
    obtain ⟨wo, rfl⟩ : ∃ wo : World, wo = wr := ⟨_, rfl⟩
    go_loopw [42] (fun r42 w2 => ∃ (j : Nat) (u2 : Value), j ≤ f4.length ∧ r42 = .int .i64 j ∧ Hid (Wr w0.heap.size w2 g u2 (ys ++ headB ⟨f0, f1, f2, f3, f4⟩ ++ (f4.take j).flatMap parB)) ∧ Hid (Mv w w2 g v u2)) (fun r42 _ => f4.length - (intOf r42).toNat)
    case atStart => exact ⟨0, v8, by omega, rfl, Lib.hid (by rw [List.take_zero, List.flatMap_nil, List.append_nil]; exact H9.out), M9⟩
    case round =>
      obtain ⟨j, u2, hj, rfl, J1, J2⟩ := hrel
      by_cases hjl : j < f4.length
      · obtain ⟨b2, off2, rfl, hbl2, y0, y1⟩ := row119 G4.out j hjl
        have bw2 := Lib.hid (BB.out _ _ J2.out)
        have z0 := cell_old bw2.out hbl2 y0
        have z1 := cell_old bw2.out hbl2 y1
        have okp := O5.out f4[j] (List.getElem_mem hjl)
        have FT2 := Lib.hid (flat_take parB f4 j hjl)
        have FS2 := Lib.hid (flat_snoc parB f4 j hjl)
        generalize f4[j] = pp at *
        obtain ⟨p0, p1⟩ := pp
        simp only at z0 z1
        have OP := Lib.hid (bd64 okp).2
        have PB : Hid ((parB ⟨p0, p1⟩).length = (cnt p0.toNat).length + (cnt (if p1 = true then 1 else 0)).length) := Lib.hid (by show (cnt p0.toNat ++ cnt (if p1 = true then 1 else 0)).length = _; rw [List.length_append])
        have HP : Hid (ys.length + (headB ⟨f0, f1, f2, f3, f4⟩).length + ((f4.take j).flatMap parB).length + ((cnt p0.toNat).length + (cnt (if p1 = true then 1 else 0)).length) ≤ 1000000000) := Lib.hid (by have := HZ.out; have := FT2.out; have := PB.out; omega)
        have ba : Below wr.heap.size wr (wr.alloc (.cells #[.int .i64 p0, .bool p1] 119)) := (Below.refl _ _).alloc (Nat.le_refl _) _
        have H3 := Lib.hid (J1.out.below ba)
        have M3 := Lib.hid (Mv.of_below ba g u2)
        have K3 := Lib.hid (heap_alloc_new wr (.cells #[.int .i64 p0, .bool p1] 119))
        have NG2 := Lib.hid (new_ne J1.out).1
        have E3 := Lib.hid (new_ne J1.out).2
        clear ba y0 y1 okp
        go_wp2_with fail
        refine (wcountI w0.heap.size g u2 _ p0 _ H3.out (by have := HP.out; simp only [List.length_append]; omega) OP.out).mono ?_
        rintro e w4 ⟨rfl, v4, h4, m4⟩
        have K4 := Lib.hid (blk_mv m4 K3.out NG2.out E3.out)
        have H4 := Lib.hid h4
        have M4 := Lib.hid m4
        clear h4 m4
        have c4 := blk_cell K4.out 1
        simp only [List.getElem?_toArray, List.getElem?_cons_succ, List.getElem?_cons_zero] at c4
        cases p1
        · simp only [Bool.false_eq_true, if_false] at HP PB
          go_wp2_with fail
          refine (wcountI w0.heap.size g v4 _ 0 _ H4.out (by have := HP.out; simp only [List.length_append]; omega) (by omega)).mono ?_
          rintro e w5 ⟨rfl, v5, h5, m5⟩
          have H5 := Lib.hid h5
          have M5 := Lib.hid m5
          clear h5 m5
          go_wp2
          go_roundw
          case rel =>
            refine ⟨j + 1, v5, by omega, by go_num, Lib.hid ?_, Lib.hid (J2.out.trans (M3.out.trans (M4.out.trans M5.out)))⟩
            have h := H5.out
            rw [FS2.out]
            simp only [List.append_assoc] at h ⊢
            exact h
          case measure => simp [intOf]; omega
        · simp only [if_true] at HP PB
          go_wp2_with fail
          refine (wcountI w0.heap.size g v4 _ 1 _ H4.out (by have := HP.out; simp only [List.length_append]; omega) (by omega)).mono ?_
          rintro e w5 ⟨rfl, v5, h5, m5⟩
          have H5 := Lib.hid h5
          have M5 := Lib.hid m5
          clear h5 m5
          go_wp2
          go_roundw
          case rel =>
            refine ⟨j + 1, v5, by omega, by go_num, Lib.hid ?_, Lib.hid (J2.out.trans (M3.out.trans (M4.out.trans M5.out)))⟩
            have h := H5.out
            rw [FS2.out]
            simp only [List.append_assoc] at h ⊢
            exact h
          case measure => simp [intOf]; omega
      · go_wp2
        go_roundw
        case rel =>
          refine ⟨k + 1, u2, by omega, by go_num, Lib.hid ?_, J2⟩
          have h := J1.out
          rw [List.take_of_length_le (by omega), Y.out] at h
          rw [FS.out]
          have e : expB ⟨f0, f1, f2, f3, f4⟩ = headB ⟨f0, f1, f2, f3, f4⟩ ++ f4.flatMap parB := rfl
          rw [e]
          simp only [List.append_assoc] at h ⊢
          exact h
        case measure => simp [intOf]; omega
end Go.Proofs.Ytehdhmhpmkkneaa
/- The document's Count, Number, Text, Bytes and Same (printed): what they answer, in plain words, and as contracts. -/
namespace Go.Proofs.Ytehdhmhpmkkneaa
open Go.RowKit Go.Proofs.YtehdhmhpmkkneaaW.PrintWords Go.Proofs.Ytehdhmhpmkkneaa.PAll
theorem refCount_loop : ∀ (j m : Nat) (acc : List Int), m < 128 ^ (j + 1) → m ≤ 9223372036854775807 → acc.length + j < 1000000 → pascalineref12_Count.l0 (j + 1) (m : Int) acc = some (acc ++ cnt m) := by
  intro j
  induction j with
  | zero =>
    intro m acc h hm ha
    have h1 : m < 128 := by simpa using h
    simp only [pascalineref12_Count.l0]
    rw [if_neg (by omega), if_pos (by omega), cnt_low h1]
    congr 3
    omega
  | succ j ih =>
    intro m acc h hm ha
    rw [pascalineref12_Count.l0]
    by_cases h1 : m < 128
    · rw [if_neg (by omega), if_pos (by omega), cnt_low h1]
      congr 3
      omega
    · rw [if_pos (by omega), if_pos (by omega)]
      have e1 : wrap64 (Int.tdiv (m : Int) 128) = ((m / 128 : Nat) : Int) := by
        rw [Int.tdiv_eq_ediv_of_nonneg (by omega)]
        unfold wrap64
        omega
      have e2 : wrap64 (Int.tmod (m : Int) 128 + 128) % 256 = ((m % 128 + 128 : Nat) : Int) := by
        rw [Int.tmod_eq_emod_of_nonneg (by omega)]
        unfold wrap64
        omega
      rw [e1, e2, ih (m / 128) _ (by rw [Nat.pow_succ] at h; omega) (by omega) (by rw [List.length_append]; simp only [List.length_cons, List.length_nil]; omega), cnt_high h1]
      simp
theorem refCount (n : Int) (h : n ≤ 9223372036854775807) : pascalineref12_Count.f 10 n = some (cnt n.toNat) := by
  have key : ∀ m : Nat, m ≤ 9223372036854775807 → pascalineref12_Count.j0 10 (m : Int) = some (cnt m) := by
    intro m hm
    show pascalineref12_Count.l0 9 (m : Int) [] = _
    exact refCount_loop 8 m [] (by omega) hm (by simp)
  unfold pascalineref12_Count.f
  by_cases h0 : n < 0
  · rw [if_pos h0]
    have e : n.toNat = 0 := by omega
    rw [e]
    exact key 0 (by omega)
  · rw [if_neg h0]
    have e : n = (n.toNat : Int) := by omega
    have := key n.toNat (by omega)
    rwa [← e] at this
theorem refNumber (n : Int) (h0 : -2147483648 ≤ n) (h1 : n ≤ 2147483647) : pascalineref12_Number.f 10 n = some (cnt (sgn n)) := by
  unfold pascalineref12_Number.f sgn
  by_cases h : n < 0
  · rw [if_pos h, if_pos h]
    have e : wrap64 (wrap64 (-2 * wrap64 n) - 1) = -2 * n - 1 := by unfold wrap64; omega
    rw [e, refCount _ (by omega)]
    rfl
  · rw [if_neg h, if_neg h]
    have e : wrap64 (2 * wrap64 n) = 2 * n := by unfold wrap64; omega
    rw [e, refCount _ (by omega)]
    rfl
theorem refText (s : ByteArray) (h : s.size ≤ 1000000000) : pascalineref12_Text.f 10 s = some (cnt s.size ++ bytesOf s) := by
  unfold pascalineref12_Text.f
  rw [refCount _ (by omega)]
  simp only [Option.bind_some]
  have h9 := cnt_len9 (n := s.size) (by omega)
  rw [if_pos (by simp; omega)]
  rfl
theorem refBytes (n : Int) (h0 : 0 ≤ n) (h1 : n ≤ 4294967295) : pascalineref01_Bytes.f 5 n = some (wrd n) := by
  unfold pascalineref01_Bytes.f
  have w1 : ∀ i : Int, 0 ≤ i → i < 4 → wrap64 (i + 1) = i + 1 := by intro i _ _; unfold wrap64; omega
  have step : ∀ (k : Nat) (m i : Int) (acc : List Int), 0 ≤ m → m ≤ 4294967295 → 0 ≤ i → i < 4 → acc.length < 10 → pascalineref01_Bytes.l0 (k + 1) m acc i = pascalineref01_Bytes.l0 k (m / 256) (acc ++ [m % 256]) (i + 1) := by
    intro k m i acc a b c d e
    simp only [pascalineref01_Bytes.l0]
    rw [if_pos d, if_pos (by omega), w1 i c d, Int.tdiv_eq_ediv_of_nonneg a, Int.tmod_eq_emod_of_nonneg a, Int.emod_emod_of_dvd _ (by decide), Int.emod_eq_of_lt (by omega) (by omega)]
  rw [step 4 n 0 [] h0 h1 (by decide) (by decide) (by simp), step 3 _ _ _ (by omega) (by omega) (by decide) (by decide) (by simp), step 2 _ _ _ (by omega) (by omega) (by decide) (by decide) (by simp), step 1 _ _ _ (by omega) (by omega) (by decide) (by decide) (by simp)]
  simp only [pascalineref01_Bytes.l0]
  rw [if_neg (by decide)]
  unfold wrd
  simp only [List.nil_append, List.cons_append]
  congr 5 <;> omega
end Go.Proofs.Ytehdhmhpmkkneaa
/- The document's Count, Number, Text, Bytes and Same as contracts over rows of the call's own. -/
namespace Go.Proofs.Ytehdhmhpmkkneaa
open Go.RowKit Go.Proofs.YtehdhmhpmkkneaaW.PrintWords Go.Proofs.Ytehdhmhpmkkneaa.PAll
theorem refSame_loop (xs ys : List Int) (hl : xs.length = ys.length) (hm : xs.length ≤ 1000000000000) : ∀ (d k : Nat) (i : Nat), i + d = xs.length → d < k → pascalineref01_Same.l0 k xs ys (i : Int) = some (decide (xs.drop i = ys.drop i)) := by
  intro d
  induction d with
  | zero =>
    intro k i hi hk
    obtain ⟨k, rfl⟩ : ∃ m, k = m + 1 := ⟨k - 1, by omega⟩
    rw [pascalineref01_Same.l0, if_neg (by omega), List.drop_of_length_le (by omega), List.drop_of_length_le (by omega)]
    rfl
  | succ d ih =>
    intro k i hi hk
    obtain ⟨k, rfl⟩ : ∃ m, k = m + 1 := ⟨k - 1, by omega⟩
    have w1 : wrap64 ((i : Int) + 1) = ((i + 1 : Nat) : Int) := by unfold wrap64; omega
    have hx : i < xs.length := by omega
    have hy : i < ys.length := by omega
    rw [pascalineref01_Same.l0, if_pos (by omega), if_pos (by omega), if_pos (by omega), w1, ih k (i + 1) (by omega) (by omega)]
    have e1 : rd xs (i : Int) = xs[i] := by simp [rd, hx]
    have e2 : rd ys (i : Int) = ys[i] := by simp [rd, hy]
    rw [e1, e2, List.drop_eq_getElem_cons hx, List.drop_eq_getElem_cons hy]
    by_cases h : xs[i] = ys[i]
    · rw [if_pos h]; simp only [List.cons.injEq, h, true_and]
    · rw [if_neg h]; simp only [List.cons.injEq, h, false_and, decide_false]
theorem refSame (xs ys : List Int) (hm : xs.length ≤ 1000000000000) : pascalineref01_Same.f (xs.length + 1) xs ys = some (decide (xs = ys)) := by
  unfold pascalineref01_Same.f
  by_cases h : xs.length = ys.length
  · rw [if_pos (by omega)]
    have := refSame_loop xs ys h hm xs.length (xs.length + 1) 0 (by omega) (by omega)
    simpa using this
  · rw [if_neg (by omega)]
    have : ¬ xs = ys := fun e => h (by rw [e])
    simp [this]
/-- What is owned is read. -/
theorem reads_own {w : World} {B : Nat} {v : Value} {xs : List Int} (h : w.ownsRow B 5 1 v xs.length (nums .u8 xs)) : ∃ A c, v = .slice A xs.length c ∧ xs.length ≤ c ∧ Kd.C (Kd.int .u8) w A xs.length xs := by
  obtain ⟨A, c, rfl, hr⟩ := own_reads h
  exact ⟨A, c, rfl, own_le h, Kd.C_of_reads (d := (0 : Int)) (h1 := fun _ => rfl) hr⟩
theorem rsame (B B' : Nat) (v u : Value) (xs ys : List Int) (w : World) (hm : xs.length ≤ 1000000000) (hx : w.ownsRow B 5 1 v xs.length (nums .u8 xs)) (hy : w.ownsRow B' 5 1 u ys.length (nums .u8 ys)) :
    Calls Try.prog 17 #[v, u] w fun e w' => e = .returned (.bool (decide (xs = ys))) ∧ Drawn0 w w' := by
  obtain ⟨A, c, rfl, hc, hr⟩ := reads_own hx
  obtain ⟨A', c', rfl, hc', hr'⟩ := reads_own hy
  exact pascalineref01_Same.calls (xs.length + 1) A c xs A' c' ys _ w hr hc hr' hc' (refSame xs ys (by omega))
end Go.Proofs.Ytehdhmhpmkkneaa
/- Layer 13: the document's Bytes, More and Key (printed), and finger.More, Sum: what they answer, in plain words. -/
namespace Go.Proofs.Ytehdhmhpmkkneaa
open Go.RowKit Go.Proofs.YtehdhmhpmkkneaaW.PrintWords Go.Proofs.Ytehdhmhpmkkneaa.PAll
theorem refCountK {k : Nat} (hk : 10 ≤ k) (n : Int) (h : n ≤ 9223372036854775807) : pascalineref12_Count.f k n = some (cnt n.toNat) := at_rounds (g := fun k => pascalineref12_Count.f k n) (fun j => pascalineref12_Count.mono n j) hk (refCount n h)
theorem refNumberK {k : Nat} (hk : 10 ≤ k) (n : Int) (h0 : -2147483648 ≤ n) (h1 : n ≤ 2147483647) : pascalineref12_Number.f k n = some (cnt (sgn n)) := at_rounds (g := fun k => pascalineref12_Number.f k n) (fun j => pascalineref12_Number.mono n j) hk (refNumber n h0 h1)
theorem refTextK {k : Nat} (hk : 10 ≤ k) (s : ByteArray) (h : s.size ≤ 1000000000) : pascalineref12_Text.f k s = some (cnt s.size ++ bytesOf s) := at_rounds (g := fun k => pascalineref12_Text.f k s) (fun j => pascalineref12_Text.mono s j) hk (refText s h)
theorem wrap_succ (i : Nat) (h : i < 9223372036854775807) : wrap64 ((i : Int) + 1) = ((i + 1 : Nat) : Int) := by unfold wrap64; omega
theorem refPars (l : List S80) (i : Nat) (s : ByteArray) (f1 f2 f3 : Int) (ps : List S119) (hi : i < 9223372036854775807) (hp : ps.length ≤ 9223372036854775807) (ok : ∀ p ∈ ps, Ok119 p) : ∀ (d k j : Nat) (acc : List Int), j + d = ps.length → 10 ≤ k → acc.length + (ps.flatMap parB).length ≤ 10000000000 + ((ps.take j).flatMap parB).length →
    pascalineref13_Bytes.l1 (k + d + 1) l acc (i : Int) (j : Int) s f1 f2 f3 ps = pascalineref13_Bytes.l0 k l (acc ++ (ps.drop j).flatMap parB) ((i + 1 : Nat) : Int) := by
  intro d
  induction d with
  | zero =>
    intro k j acc hj hk hl
    rw [pascalineref13_Bytes.l1, if_neg (by omega), wrap_succ i hi, List.drop_of_length_le (by omega)]
    simp
  | succ d ih =>
    intro k j acc hj hk hl
    have hjl : j < ps.length := by omega
    have ft := flat_take parB ps j hjl
    have fs := flat_snoc parB ps j hjl
    have e1 : rd_T119 ps (j : Int) = ps[j] := by simp [rd_T119, hjl]
    have okp : Ok119 ps[j] := ok _ (List.getElem_mem hjl)
    have eB : parB ps[j] = cnt ps[j].f0.toNat ++ cnt (if ps[j].f1 = true then 1 else 0) := rfl
    have lB : (parB ps[j]).length = (cnt ps[j].f0.toNat).length + 1 := by
      rw [eB, List.length_append]
      split
      · rw [cnt_low (n := 1) (by omega)]; rfl
      · rw [cnt_low (n := 0) (by omega)]; rfl
    rw [pascalineref13_Bytes.l1, if_pos (by omega), if_pos (by omega), e1, refCountK (by omega) _ (bd64 okp).2]
    simp only [Option.bind_some]
    rw [if_pos (by omega), wrap_succ j (by omega)]
    have hd : (ps.drop j).flatMap parB = parB ps[j] ++ (ps.drop (j + 1)).flatMap parB := by
      rw [List.drop_eq_getElem_cons hjl, List.flatMap_cons]
    rw [hd]
    have hl2 : ∀ z : Int, (acc ++ cnt ps[j].f0.toNat ++ [z]).length + (ps.flatMap parB).length ≤ 10000000000 + ((ps.take (j + 1)).flatMap parB).length := by
      intro z
      rw [fs]
      simp only [List.length_append, List.length_cons, List.length_nil]
      omega
    by_cases hb : ps[j].f1 = true
    · rw [if_pos hb, if_pos (by simp only [List.length_append]; omega), show k + (d + 1) = k + d + 1 from rfl, ih k (j + 1) _ (by omega) hk (hl2 1), eB, if_pos hb, cnt_low (n := 1) (by omega)]
      simp only [List.append_assoc]
      rfl
    · rw [if_neg hb, if_pos (by simp only [List.length_append]; omega), show k + (d + 1) = k + d + 1 from rfl, ih k (j + 1) _ (by omega) hk (hl2 0), eB, if_neg hb, cnt_low (n := 0) (by omega)]
      simp only [List.append_assoc]
      rfl
/-- The rounds that a list takes. -/
def rounds80 : List S80 → Nat
  | [] => 11
  | x :: r => x.f4.length + 2 + rounds80 r
theorem rounds80_ge : ∀ l : List S80, 11 ≤ rounds80 l
  | [] => Nat.le_refl _
  | _ :: r => by have := rounds80_ge r; simp only [rounds80]; omega
theorem refExps (l : List S80) (hl : l.length < 9223372036854775807) (ok : ∀ x ∈ l, Ok80 x) (hs : ∀ x ∈ l, x.f0.size ≤ 1000000000) : ∀ (r i : Nat) (acc : List Int), i + r = l.length → acc.length + (l.flatMap expB).length ≤ 1000000000 + ((l.take i).flatMap expB).length →
    pascalineref13_Bytes.l0 (rounds80 (l.drop i)) l acc (i : Int) = some (acc ++ (l.drop i).flatMap expB) := by
  intro r
  induction r with
  | zero =>
    intro i acc hi ha
    have e : l.drop i = [] := List.drop_of_length_le (by omega)
    rw [e]
    show pascalineref13_Bytes.l0 (10 + 1) l acc (i : Int) = _
    rw [pascalineref13_Bytes.l0, if_neg (by omega)]
    simp
  | succ r ih =>
    intro i acc hi ha
    have hil : i < l.length := by omega
    have ft := flat_take expB l i hil
    have fs := flat_snoc expB l i hil
    have e1 : rd_T80 l (i : Int) = l[i] := by simp [rd_T80, hil]
    have hd : l.drop i = l[i] :: l.drop (i + 1) := List.drop_eq_getElem_cons hil
    have hr := rounds80_ge (l.drop (i + 1))
    obtain ⟨o0, o1, o2, o3, o4, o5⟩ := ok _ (List.getElem_mem hil)
    have hs0 := hs _ (List.getElem_mem hil)
    rw [hd]
    have eB : expB l[i] = headB l[i] ++ l[i].f4.flatMap parB := rfl
    have eH : headB l[i] = (cnt l[i].f0.size ++ bytesOf l[i].f0) ++ cnt l[i].f1.toNat ++ cnt l[i].f2.toNat ++ cnt (sgn l[i].f3) ++ cnt l[i].f4.length := rfl
    have lB := congrArg List.length eB
    have lH := congrArg List.length eH
    simp only [List.length_append] at lB lH
    have o4' : l[i].f4.length ≤ 9223372036854775807 := by have := o4; unfold maxLen at this; omega
    show pascalineref13_Bytes.l0 (l[i].f4.length + 2 + rounds80 (l.drop (i + 1))) l acc (i : Int) = _
    rw [show l[i].f4.length + 2 + rounds80 (l.drop (i + 1)) = (rounds80 (l.drop (i + 1)) + l[i].f4.length + 1) + 1 by omega]
    rw [pascalineref13_Bytes.l0, if_pos (by omega), if_pos (by omega), e1, refTextK (by omega) _ hs0]
    simp only [Option.bind_some]
    rw [if_pos (by simp only [List.length_append] at *; omega), refCountK (by omega) _ (bd64 o1).2]
    simp only [Option.bind_some]
    rw [if_pos (by simp only [List.length_append] at *; omega), refCountK (by omega) _ (bd64 o2).2]
    simp only [Option.bind_some]
    rw [if_pos (by simp only [List.length_append] at *; omega), refNumberK (by omega) _ (bd32 o3).1 (bd32 o3).2]
    simp only [Option.bind_some]
    rw [if_pos (by simp only [List.length_append] at *; omega), refCountK (by omega) _ (by omega)]
    simp only [Option.bind_some, Int.toNat_natCast]
    rw [if_pos (by simp only [List.length_append] at *; omega)]
    have hp := refPars l i l[i].f0 l[i].f1 l[i].f2 l[i].f3 l[i].f4 (by omega) o4' o5 l[i].f4.length (rounds80 (l.drop (i + 1))) 0 (acc ++ (cnt l[i].f0.size ++ bytesOf l[i].f0) ++ cnt l[i].f1.toNat ++ cnt l[i].f2.toNat ++ cnt (sgn l[i].f3) ++ cnt l[i].f4.length) (by omega) (by omega) (by simp only [List.length_append] at *; simp only [List.take_zero, List.flatMap_nil, List.length_nil]; omega)
    rw [Int.natCast_zero] at hp
    rw [hp, List.drop_zero, ih (i + 1) _ (by omega) (by rw [fs]; simp only [List.length_append] at *; omega), List.flatMap_cons, eB, eH]
    simp only [List.append_assoc]
theorem refBytes13 (l : List S80) (ok : ∀ x ∈ l, Ok80 x) (hl : l.length < 9223372036854775807) (hT : (expsB l).length ≤ 1000000000) (hs : ∀ x ∈ l, x.f0.size ≤ 1000000000) : pascalineref13_Bytes.f (rounds80 l) l = some (expsB l) := by
  unfold pascalineref13_Bytes.f
  have hr := rounds80_ge l
  rw [refCountK (by omega) _ (by omega)]
  simp only [Option.bind_some, Int.toNat_natCast]
  unfold expsB at hT
  rw [List.length_append] at hT
  have h := refExps l hl ok hs l.length 0 (cnt l.length) (by omega) (by simp only [List.take_zero, List.flatMap_nil, List.length_nil]; omega)
  rw [Int.natCast_zero, List.drop_zero] at h
  exact h
end Go.Proofs.Ytehdhmhpmkkneaa
/- Layer 13: sums and keys: contracts. -/
namespace Go.Proofs.Ytehdhmhpmkkneaa
open Go.RowKit Go.Proofs.YtehdhmhpmkkneaaW.PrintWords Go.Proofs.Ytehdhmhpmkkneaa.PAll
def fstep (s b : Int) : Int := ((Go.bits .xor .u32 s (b % 4294967296)) * 16777619) % 4294967296
/-- The sum of bytes behind a sum. -/
def fnv (s : Int) (l : List Int) : Int := l.foldl fstep s
theorem more_eq (l : List Int) : ∀ (k : Nat) (s i : Int), finger_More.l0 k s l (l.length : Int) i = pascalineref13_More.l0 k s l i
  | 0, _, _ => rfl
  | k + 1, s, i => by
    simp only [finger_More.l0, pascalineref13_More.l0]
    by_cases h : i < (l.length : Int)
    · by_cases h0 : 0 ≤ i
      · simp only [h, h0, if_true]
        exact more_eq l k _ _
      · simp only [h0, if_false, h, if_true]
    · simp only [h, if_false]
theorem more_fnv (l : List Int) (hl : l.length ≤ 140737488351232) : ∀ (d k i : Nat) (s : Int), i + d = l.length → d < k → pascalineref13_More.l0 k s l (i : Int) = some (fnv s (l.drop i)) := by
  intro d
  induction d with
  | zero =>
    intro k i s hi hk
    obtain ⟨k, rfl⟩ : ∃ m, k = m + 1 := ⟨k - 1, by omega⟩
    rw [pascalineref13_More.l0, if_neg (by omega), List.drop_of_length_le (by omega)]
    rfl
  | succ d ih =>
    intro k i s hi hk
    obtain ⟨k, rfl⟩ : ∃ m, k = m + 1 := ⟨k - 1, by omega⟩
    have hil : i < l.length := by omega
    have e1 : rd l (i : Int) = l[i] := by simp [rd, hil]
    rw [pascalineref13_More.l0, if_pos (by omega), if_pos (by omega), e1, wrap_succ i (by omega), ih k (i + 1) _ (by omega) (by omega), List.drop_eq_getElem_cons hil]
    rfl
theorem refMore {k : Nat} (s : Int) (l : List Int) (hl : l.length ≤ 140737488351232) (hk : l.length < k) : pascalineref13_More.f k s l = some (fnv s l) := by
  have h := more_fnv l hl l.length k 0 s (by omega) hk
  rw [Int.natCast_zero, List.drop_zero] at h
  exact h
theorem finSum {k : Nat} (l : List Int) (hl : l.length ≤ 140737488351232) (hk : l.length < k) : finger_Sum.f k l = some (fnv 2166136261 l) := by
  unfold finger_Sum.f finger_More.f
  rw [more_eq]
  have h := refMore (k := k) 2166136261 l hl hk
  unfold pascalineref13_More.f at h
  rw [h]
  rfl
/-- What a key is of. -/
def keyB (s : ByteArray) (l : List S80) : List Int := (cnt s.size ++ bytesOf s) ++ expsB l
def keyOf80 (s : ByteArray) (l : List S80) : Int := fnv 2166136261 (keyB s l)
theorem refKey (s : ByteArray) (l : List S80) (ok : ∀ x ∈ l, Ok80 x) (hl : l.length < 9223372036854775807) (hT : (keyB s l).length ≤ 1000000000) (hs : ∀ x ∈ l, x.f0.size ≤ 1000000000) (hs0 : s.size ≤ 1000000000) :
    ∃ k, pascalineref13_Key.f k s l = some (keyOf80 s l) := by
  have hT2 : (keyB s l).length = (cnt s.size ++ bytesOf s).length + (expsB l).length := by unfold keyB; rw [List.length_append]
  obtain ⟨k, hk⟩ : ∃ k, k = max (rounds80 l) ((keyB s l).length + 1) := ⟨_, rfl⟩
  have hr := rounds80_ge l
  refine ⟨k, ?_⟩
  unfold pascalineref13_Key.f
  rw [refTextK (by omega) s hs0]
  simp only [Option.bind_some]
  rw [at_rounds (g := fun k => pascalineref13_Bytes.f k l) (fun j => pascalineref13_Bytes.mono l j) (show rounds80 l ≤ k by omega) (refBytes13 l ok hl (by omega) hs)]
  simp only [Option.bind_some]
  rw [if_pos (by omega), refMore _ _ (by show (keyB s l).length ≤ _; omega) (by show (keyB s l).length < _; omega)]
  rfl
theorem fsum (B : Nat) (v : Value) (xs : List Int) (w : World) (hm : xs.length ≤ 1000000000) (hx : w.ownsRow B 5 1 v xs.length (nums .u8 xs)) :
    Calls Try.prog 80 #[v] w fun e w' => e = .returned (.int .u32 (fnv 2166136261 xs)) ∧ Drawn0 w w' := by
  obtain ⟨A, c, rfl, hc, hr⟩ := reads_own hx
  exact finger_Sum.calls (xs.length + 1) A c xs _ w hr hc (finSum xs (by omega) (by omega))
theorem wr_newB (B : Nat) (w : World) (h : B ≤ w.heap.size) : Wr B (w.alloc (.cells #[.slice none 0 0] 26)) w.heap.size (.slice none 0 0) [] :=
  ⟨heap_alloc_new w _, h, own_nil _ _ _ _⟩
theorem wr_new' (w : World) : Wr w.heap.size (w.alloc (.cells #[.slice none 0 0] 26)) w.heap.size (.slice none 0 0) [] :=
  ⟨heap_alloc_new w _, Nat.le_refl _, own_nil _ _ _ _⟩
set_option maxHeartbeats 400000 in
set_option maxRecDepth 100000 in
theorem fkey (s : ByteArray) (l : List S80) (A : Option Addr) (c : Nat) (w : World) (hr : Kd.C k80 w A l.length l) (hok : ∀ x ∈ l, Ok80 x) (hT : (keyB s l).length ≤ 1000000000) (hs0 : s.size ≤ 1000000000) :
    Calls Try.prog 24 #[.string s, .slice A l.length c] w fun e w' => e = .returned (.int .u32 (keyOf80 s l)) ∧ Below w.heap.size w w' := by
  have HR := Lib.hid hr
  have OK := Lib.hid hok
  have hT2 : (keyB s l).length = (cnt s.size ++ bytesOf s).length + (expsB l).length := by unfold keyB; rw [List.length_append]
  have HT : Hid ((cnt s.size ++ bytesOf s).length + (expsB l).length ≤ 1000000000) := Lib.hid (by omega)
  have HS := Lib.hid hs0
  have HW := Lib.hid (wr_new' w)
  clear hr hok hT hs0 hT2
  go_enter Try.func24, Try.ntmps24
  go_wp2_with fail
  refine (wtext w.heap.size w.heap.size _ [] s _ HW.out (by simp) HS.out).mono ?_
  rintro e w1 ⟨rfl, v1, h1, m1⟩
  have H1 := Lib.hid h1
  have M1 := Lib.hid m1
  have ba : Below w.heap.size w (w.alloc (.cells #[.slice none 0 0] 26)) := (Below.refl _ _).alloc (Nat.le_refl _) _
  have B1 := Lib.hid (m1.below ba (by simp) (Nat.le_refl _) (fun k hk => by simp [Value.ownBlock] at hk))
  clear h1 m1 ba
  go_wp2_with fail
  refine (fwrite w w.heap.size v1 _ l A c w1 H1.out B1.out HR.out OK.out (by have := HT.out; simp only [List.nil_append]; omega)).mono ?_
  rintro e w2 ⟨rfl, v2, h2, m2⟩
  have H2 := Lib.hid h2
  have B2 := Lib.hid (m2.below B1.out B1.out.size (Nat.le_refl _) H1.out.base)
  clear h2 m2
  go_wp2_with fail
  refine (wbytes w.heap.size w.heap.size v2 _ w2 H2.out (by have := HT.out; simp only [List.nil_append, List.length_append] at *; omega)).mono ?_
  rintro e w3 ⟨u3, rfl, ho3, b3⟩
  have O3 := Lib.hid ho3
  have B3 := Lib.hid b3
  obtain ⟨A3, n3, c3, rfl⟩ := own_form ho3
  clear ho3 b3
  go_wp2_with fail
  refine (fsum w2.heap.size _ _ w3 (by have := HT.out; simp only [List.nil_append, List.length_append] at *; omega) O3.out).mono ?_
  rintro e w4 ⟨rfl, d4⟩
  have B4 := Lib.hid d4.below
  clear d4
  go_wp2
  go_ret
  have s2 := B2.out.size
  have s3 := B3.out.size
  refine ⟨?_, B2.out.trans ((B3.out.mono s2).trans (B4.out.mono (by omega)))⟩
  have hf : keyOf80 s l = fnv 2166136261 (cnt s.size ++ (bytesOf s ++ expsB l)) := by unfold keyOf80 keyB; rw [List.append_assoc]
  rw [hf]
  rfl
end Go.Proofs.Ytehdhmhpmkkneaa
/- Layer 13: the walk of the law FingerKeys. -/
namespace Go.Proofs.Ytehdhmhpmkkneaa
open Go.RowKit Go.Proofs.YtehdhmhpmkkneaaW.PrintWords Go.Proofs.Ytehdhmhpmkkneaa.PAll
/-- A list that the laws try. -/
def Small (l : List S80) : Prop := l.length ≤ 60 ∧ ∀ x ∈ l, x.f0.size ≤ 200 ∧ x.f4.length ≤ 60
theorem parB_len (p : S119) (ok : Ok119 p) : (parB p).length ≤ 18 := by
  have h1 := cnt_len9 (n := p.f0.toNat) (by have := (bd64 ok).2; omega)
  have h2 := cnt_len9 (n := if p.f1 = true then 1 else 0) (by split <;> omega)
  show (cnt p.f0.toNat ++ cnt (if p.f1 = true then 1 else 0)).length ≤ 18
  rw [List.length_append]
  omega
theorem flat_len {α : Type} (f : α → List Int) (m : Nat) : ∀ l : List α, (∀ x ∈ l, (f x).length ≤ m) → (l.flatMap f).length ≤ m * l.length
  | [], _ => by simp
  | x :: r, h => by
    have h1 := h x (List.mem_cons_self ..)
    have h2 := flat_len f m r (fun y hy => h y (List.mem_cons_of_mem _ hy))
    rw [List.flatMap_cons, List.length_append, List.length_cons, Nat.mul_succ]
    omega
theorem expB_len (x : S80) (ok : Ok80 x) (h0 : x.f0.size ≤ 200) (h4 : x.f4.length ≤ 60) : (expB x).length ≤ 2000 := by
  obtain ⟨o0, o1, o2, o3, o4, o5⟩ := ok
  have a := cnt_len9 (n := x.f0.size) (by omega)
  have b := cnt_len9 (n := x.f1.toNat) (by have := (bd64 o1).2; omega)
  have c := cnt_len9 (n := x.f2.toNat) (by have := (bd64 o2).2; omega)
  have d := cnt_len9 (n := sgn x.f3) (by unfold sgn; have := bd32 o3; split <;> omega)
  have e := cnt_len9 (n := x.f4.length) (by omega)
  have f := flat_len parB 18 x.f4 (fun p hp => parB_len p (o5 p hp))
  show (((cnt x.f0.size ++ bytesOf x.f0) ++ cnt x.f1.toNat ++ cnt x.f2.toNat ++ cnt (sgn x.f3) ++ cnt x.f4.length) ++ x.f4.flatMap parB).length ≤ 2000
  simp only [List.length_append, bytesOf_length]
  omega
theorem expsB_len (l : List S80) (ok : ∀ x ∈ l, Ok80 x) (h : Small l) : (expsB l).length ≤ 200000 := by
  have a := cnt_len9 (n := l.length) (by have := h.1; omega)
  have f := flat_len expB 2000 l (fun x hx => expB_len x (ok x hx) (h.2 x hx).1 (h.2 x hx).2)
  have := h.1
  unfold expsB
  rw [List.length_append]
  omega
theorem keyB_len (s : ByteArray) (l : List S80) (ok : ∀ x ∈ l, Ok80 x) (h : Small l) (hs : s.size ≤ 200) : (keyB s l).length ≤ 300000 := by
  have a := cnt_len9 (n := s.size) (by omega)
  have b := expsB_len l ok h
  unfold keyB
  simp only [List.length_append, bytesOf_length]
  omega
end Go.Proofs.Ytehdhmhpmkkneaa
