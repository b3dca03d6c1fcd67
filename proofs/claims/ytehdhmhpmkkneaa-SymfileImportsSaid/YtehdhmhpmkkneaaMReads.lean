/- The texts Ta, Tb, Tc, Td, Te, Tf, Tg, one behind the other. -/
import Derived.Test.YtehdhmhpmkkneaaMBase
import Derived.RegionTactic
import Derived.Test.YtehdhmhpmkkneaaMKey
import Derived.Deep.RegionLaw
/- Layer 12: the document's reader, which goes by value: walks of fail, Byte, Left. -/
namespace Go.Proofs.Ytehdhmhpmkkneaa
open Go.RowKit Go.Proofs.YtehdhmhpmkkneaaW.PrintWords Go.Proofs.YtehdhmhpmkkneaaW.PrintMore Go.Proofs.Ytehdhmhpmkkneaa.PAll

/-- A reader by value that reads s; its bytes lie in w. -/
def IsV (w : World) (v : Value) (s : RS) : Prop :=
  ∃ A n c, v = .agg #[.slice A n c, .int .i64 s.err] ∧ ReadsInt w .u8 A n s.xs ∧ n ≤ c ∧ AllB s.xs ∧ n ≤ 140737488351232
theorem IsV.bytes {w : World} {v : Value} {s : RS} (h : IsV w v s) : AllB s.xs := by obtain ⟨_, _, _, _, _, _, h, _⟩ := h; exact h
theorem IsV.len {w : World} {v : Value} {s : RS} (h : IsV w v s) : s.xs.length ≤ 140737488351232 := by obtain ⟨_, _, _, _, hr, _, _, h⟩ := h; rw [hr.1]; exact h
theorem IsV.below {w w' : World} {v : Value} {s : RS} (h : IsV w v s) (b : Below w.heap.size w w') : IsV w' v s := by
  obtain ⟨A, n, c, e, hr, hx⟩ := h
  exact ⟨A, n, c, e, hr.below b, hx⟩

/-- Behind a call of that reader: the reader that it hands back, and what it took. -/
def VPost (w0 w : World) (s : RS) (u : Value) (e : Ending) (w' : World) : Prop := ∃ v', e = .returned (.tuple #[v', u]) ∧ IsV w0 v' s ∧ Below w.heap.size w w'

theorem b1 (w : World) (o : Obj) : Below w.heap.size w (w.alloc o) := (Below.refl _ _).alloc (Nat.le_refl _) _
theorem b2 (w : World) (o o' : Obj) : Below w.heap.size w ((w.alloc o).alloc o') := (b1 w o).alloc (by simp) _
theorem b3 (w : World) (o o' o2 : Obj) : Below w.heap.size w (((w.alloc o).alloc o').alloc o2) := (b2 w o o').alloc (by simp; omega) _
/-- Two cells of a new block are stored. -/
theorem set2 {w w1 : World} (h : Below w.heap.size w w1) {g : Nat} (hg : w.heap.size ≤ g) (a b : Value) : Below w.heap.size w ((w1.setCell ⟨g, 0, none⟩ a).setCell ⟨g, 1, none⟩ b) :=
  (h.setCell (p := ⟨g, 0, none⟩) hg _).setCell (p := ⟨g, 1, none⟩) hg _

set_option maxHeartbeats 400000 in
set_option maxRecDepth 100000 in
theorem vfail (w0 w : World) (v : Value) (s : RS) (x : Int) (h : IsV w0 v s) :
    Calls Try.prog 104 #[v, .int .i64 x] w fun e w' => ∃ v', e = .returned v' ∧ IsV w0 v' (failS s x) ∧ Below w.heap.size w w' := by
  obtain ⟨A, n, c, rfl, hr, hx⟩ := h
  have HR := Lib.hid hr
  have HX := Lib.hid hx
  clear hr hx
  by_cases he : s.err = 0
  · have e1 : failS s x = ⟨s.xs, x⟩ := by unfold failS; rw [if_pos he]
    rw [e1]
    have E1 : (s.err == 0) = true := beq_iff_eq.2 he
    clear e1 he
    go_enter Try.func104, Try.ntmps104
    go_wp2
    refine bodyPost_ret (results_cell_row rfl _ _ (w.heap.size + 1) 48 #[.slice A n c, .int .i64 x] (0, 0) _ rfl (by simpa using heap_alloc_new (w.alloc (.cells #[.slice A n c, .int .i64 x] 48)) (.cells #[.slice A n c, .int .i64 x] 48)) Try.underlying48 rfl (by kernel_rfl)) rfl ?_
    exact ⟨_, rfl, ⟨A, n, c, rfl, HR.out, HX.out⟩, b2 _ _ _⟩
  · have e1 : failS s x = s := by unfold failS; rw [if_neg he]
    rw [e1]
    have E1 : (s.err == 0) = false := beq_eq_false_iff_ne.2 he
    clear e1 he
    go_enter Try.func104, Try.ntmps104
    go_wp2
    refine bodyPost_ret (results_cell_row rfl _ _ (w.heap.size + 1) 48 #[.slice A n c, .int .i64 s.err] (0, 0) _ rfl (by simpa using heap_alloc_new (w.alloc (.cells #[.slice A n c, .int .i64 s.err] 48)) (.cells #[.slice A n c, .int .i64 s.err] 48)) Try.underlying48 rfl (by kernel_rfl)) rfl ?_
    exact ⟨_, rfl, ⟨A, n, c, rfl, HR.out, HX.out⟩, b2 _ _ _⟩

set_option maxHeartbeats 400000 in
set_option maxRecDepth 100000 in
theorem vleft (w0 w : World) (v : Value) (s : RS) (h : IsV w0 v s) :
    Calls Try.prog 33 #[v] w fun e w' => e = .returned (.int .i64 (leftS s)) ∧ Below w.heap.size w w' := by
  obtain ⟨A, n, c, rfl, hr, hx⟩ := h
  obtain rfl := hr.1
  unfold leftS
  clear hr hx
  by_cases he : s.err = 0
  · rw [if_pos he]
    have E1 : (s.err != 0) = false := by rw [he]; rfl
    clear he
    go_enter Try.func33, Try.ntmps33
    go_wp2
    go_ret
    exact ⟨rfl, b1 _ _⟩
  · rw [if_neg he]
    have E1 : (s.err != 0) = true := bne_iff_ne.2 he
    clear he
    go_enter Try.func33, Try.ntmps33
    go_wp2
    go_ret
    exact ⟨rfl, b1 _ _⟩

set_option maxHeartbeats 400000 in
set_option maxRecDepth 100000 in
theorem vbyte (w0 w : World) (v : Value) (s : RS) (h : IsV w0 v s) (hb : Below w0.heap.size w0 w) :
    Calls Try.prog 103 #[v] w (VPost w0 w (byteS s).2 (.int .u8 (byteS s).1)) := by
  have HV := Lib.hid h
  have HB := Lib.hid hb
  obtain ⟨A, n, c, rfl, hr, hx⟩ := h
  have hlen := hr.1
  by_cases hz : s.err ≠ 0 ∨ n = 0
  · have e1 : byteS s = (0, failS s 120) := by
      unfold byteS failS
      by_cases he : s.err = 0
      · rw [if_pos he, if_pos he]
        have : s.xs = [] := List.eq_nil_of_length_eq_zero (by rcases hz with h | h; exact absurd he h; omega)
        rw [this]
      · rw [if_neg he, if_neg he]
    rw [e1]
    clear e1 hlen hr hx hb
    by_cases he : s.err = 0
    · have hn : n = 0 := by rcases hz with h | h; exact absurd he h; exact h
      subst hn
      have E1 : (s.err != 0) = false := by rw [he]; rfl
      clear he hz
      go_enter Try.func103, Try.ntmps103
      go_wp2_with fail
      refine (vfail w0 _ _ s 120 HV.out).mono ?_
      rintro e w1 ⟨v', rfl, iv, bw⟩
      obtain ⟨A1, n1, c1, rfl, hr1, hx1⟩ := iv
      have hb2 : w1.heap[w.heap.size + 1]? = some (.cells #[.slice none 0 0, .int .i64 0] 48 (0, 0)) := blk_below (by simpa using heap_alloc_new (w.alloc (.cells #[.slice A 0 c, .int .i64 s.err] 48)) (.cells #[.slice none 0 0, .int .i64 0] 48)) bw
      have c0 := blk_cell hb2 0
      have cc1 := blk_cell hb2 1
      simp only [List.getElem?_toArray, List.getElem?_cons_zero, List.getElem?_cons_succ] at c0 cc1
      have z0 := blk_frozen hb2 0
      have z1 := blk_frozen hb2 1
      have HB2 := Lib.hid hb2
      have HR1 := Lib.hid hr1
      have HX1 := Lib.hid hx1
      have BW := Lib.hid ((b2 w (.cells #[.slice A 0 c, .int .i64 s.err] 48) (.cells #[.slice none 0 0, .int .i64 0] 48)).trans (bw.mono (by simp; omega)))
      clear hb2 hr1 hx1 bw
      go_wp2
      refine bodyPost_ret (results_ct rfl _ _ (w.heap.size + 1) 48 #[.slice A1 n1 c1, .int .i64 (failS s 120).err] (0, 0) _ rfl (blk_put (blk_put HB2.out 0 _ rfl) 1 _ rfl) Try.underlying48 rfl (by kernel_rfl)) rfl ?_
      exact ⟨_, rfl, ⟨A1, n1, c1, rfl, HR1.out, HX1.out⟩, set2 BW.out (by omega) _ _⟩
    · have E1 : (s.err != 0) = true := bne_iff_ne.2 he
      clear he hz
      go_enter Try.func103, Try.ntmps103
      go_wp2_with fail
      refine (vfail w0 _ _ s 120 HV.out).mono ?_
      rintro e w1 ⟨v', rfl, iv, bw⟩
      obtain ⟨A1, n1, c1, rfl, hr1, hx1⟩ := iv
      have hb2 : w1.heap[w.heap.size + 1]? = some (.cells #[.slice none 0 0, .int .i64 0] 48 (0, 0)) := blk_below (by simpa using heap_alloc_new (w.alloc (.cells #[.slice A n c, .int .i64 s.err] 48)) (.cells #[.slice none 0 0, .int .i64 0] 48)) bw
      have c0 := blk_cell hb2 0
      have cc1 := blk_cell hb2 1
      simp only [List.getElem?_toArray, List.getElem?_cons_zero, List.getElem?_cons_succ] at c0 cc1
      have z0 := blk_frozen hb2 0
      have z1 := blk_frozen hb2 1
      have HB2 := Lib.hid hb2
      have HR1 := Lib.hid hr1
      have HX1 := Lib.hid hx1
      have BW := Lib.hid ((b2 w (.cells #[.slice A n c, .int .i64 s.err] 48) (.cells #[.slice none 0 0, .int .i64 0] 48)).trans (bw.mono (by simp; omega)))
      clear hb2 hr1 hx1 bw
      go_wp2
      refine bodyPost_ret (results_ct rfl _ _ (w.heap.size + 1) 48 #[.slice A1 n1 c1, .int .i64 (failS s 120).err] (0, 0) _ rfl (blk_put (blk_put HB2.out 0 _ rfl) 1 _ rfl) Try.underlying48 rfl (by kernel_rfl)) rfl ?_
      exact ⟨_, rfl, ⟨A1, n1, c1, rfl, HR1.out, HX1.out⟩, set2 BW.out (by omega) _ _⟩
  · have he : s.err = 0 := by by_cases h : s.err = 0; exact h; exact absurd (.inl h) hz
    have hn : 0 < n := by by_cases h : n = 0; exact absurd (.inr h) hz; omega
    obtain ⟨xs, er⟩ := s
    simp only at he hlen hr hx
    subst he
    cases xs with
    | nil => simp at hlen; omega
    | cons b r =>
      obtain ⟨ad, rfl, hcl⟩ := hr.2.2 hn
      have x0 := hcl 0 hn
      obtain ⟨bk, off, spot⟩ := ad
      obtain rfl : spot = none := by simpa [Addr.add] using World.cell?_spot x0
      have hbl : bk < w0.heap.size := by
        have := World.block_lt_of_cell? _ _ x0
        simpa [Addr.add] using this
      rw [WideShapes.add_plain] at x0
      simp only [Nat.add_zero] at x0
      have hsz := hb.size
      have hbw : bk < w.heap.size := by omega
      have xw : w.cell? ⟨bk, off, none⟩ = some (.int .u8 b) := (hb.cell (p := ⟨bk, off, none⟩) hbl).trans x0
      by_cases hc1 : c = 1
      · subst hc1
        obtain rfl : n = 1 := by have := hx.1; omega
        have hr0 : r = [] := List.eq_nil_of_length_eq_zero (by simpa using hlen)
        subst hr0
        clear hr hx hcl hlen hz x0 hbl hsz HV hb hn
        show Calls Try.prog 103 _ w (VPost w0 w ⟨[], 0⟩ (.int .u8 b))
        go_enter Try.func103, Try.ntmps103
        go_wp2
        refine bodyPost_ret (results_ct rfl _ _ (w.heap.size + 1) 48 #[.slice (some ⟨bk, off, none⟩) 0 0, .int .i64 0] (0, 0) _ rfl (by simpa using heap_alloc_new (w.alloc (.cells #[.slice (some ⟨bk, off, none⟩) 0 0, .int .i64 0] 48)) (.cells #[.slice (some ⟨bk, off, none⟩) 0 0, .int .i64 0] 48)) Try.underlying48 rfl (by kernel_rfl)) rfl ?_
        exact ⟨_, rfl, ⟨_, _, _, rfl, ⟨rfl, by omega, fun h => by omega⟩, by omega, fun x hxm => (by cases hxm), by omega⟩, b2 _ _ _⟩
      · have HI : Hid (IsV w0 (.agg #[.slice (some ⟨bk, off + 1, none⟩) (n - 1) (c - 1), .int .i64 0]) ⟨r, 0⟩) := Lib.hid (by
          refine ⟨_, _, _, rfl, ⟨by show r.length = n - 1; simp at hlen; omega, by have := hr.2.1; omega, fun _ => ⟨_, rfl, fun j hj => ?_⟩⟩, by have := hx.1; omega, fun x hxm => hx.2.1 x (by simp [hxm]), by have := hx.2.2; omega⟩
          have := hcl (j + 1) (by omega)
          rw [WideShapes.add_plain] at this ⊢
          rw [show off + 1 + j = off + (j + 1) by omega]
          simpa using this)
        have hn1 : 1 ≤ n := hn
        have hnc : n ≤ c := hx.1
        have hc2 : 1 < c := by omega
        clear hr hx hcl hlen hz x0 hbl hsz HV hb hc1
        show Calls Try.prog 103 _ w (VPost w0 w ⟨r, 0⟩ (.int .u8 b))
        go_enter Try.func103, Try.ntmps103
        go_wp2
        refine bodyPost_ret (results_ct rfl _ _ (w.heap.size + 1) 48 #[.slice (some ⟨bk, off + 1, none⟩) (n - 1) (c - 1), .int .i64 0] (0, 0) _ rfl (by simpa using heap_alloc_new (w.alloc (.cells #[.slice (some ⟨bk, off + 1, none⟩) (n - 1) (c - 1), .int .i64 0] 48)) (.cells #[.slice (some ⟨bk, off + 1, none⟩) (n - 1) (c - 1), .int .i64 0] 48)) Try.underlying48 rfl (by kernel_rfl)) rfl ?_
        exact ⟨_, rfl, HI.out, b2 _ _ _⟩
end Go.Proofs.Ytehdhmhpmkkneaa

/- Layer 12: the document's reader: the walk of TakeCount. -/
namespace Go.Proofs.Ytehdhmhpmkkneaa
open Go.RowKit Go.Proofs.YtehdhmhpmkkneaaW.PrintWords Go.Proofs.YtehdhmhpmkkneaaW.PrintMore Go.Proofs.Ytehdhmhpmkkneaa.PAll

theorem take_walk (j : Nat) (hj : j ≤ 8) (n b : Int) (n0 : 0 ≤ n) (n1 : n < 2 ^ (7 * j)) (b0 : 0 ≤ b) (b1 : b ≤ 255) :
    wrap64 (n + wrap64 (b % 128 * 2 ^ (7 * j))) = n + b % 128 * 2 ^ (7 * j) ∧ 0 ≤ n + b % 128 * 2 ^ (7 * j) ∧ n + b % 128 * 2 ^ (7 * j) ≤ 9223372036854775807 ∧ n + b % 128 * 2 ^ (7 * j) < 2 ^ (7 * (j + 1)) := by
  have hp0 : (0 : Int) < 2 ^ (7 * j) := by exact_mod_cast Nat.two_pow_pos _
  have hmul0 : 0 ≤ b % 128 * 2 ^ (7 * j) := Int.mul_nonneg (by omega) (Int.le_of_lt hp0)
  have hv := (u64_or7 j hj n b n0 n1 b0 b1).2
  have h63 : (2 : Int) ^ (7 * (j + 1)) ≤ 2 ^ 63 := by exact_mod_cast Nat.pow_le_pow_right (by decide) (by omega : 7 * (j + 1) ≤ 63)
  generalize b % 128 * 2 ^ (7 * j) = p at *
  have e2 : wrap64 p = p := by unfold wrap64; omega
  rw [e2]
  have e3 : wrap64 (n + p) = n + p := by unfold wrap64; omega
  exact ⟨e3, by omega, by omega, hv⟩

section
attribute [local go_sem] max2_mx max_two
set_option maxHeartbeats 1000000 in
set_option maxRecDepth 100000 in
theorem vcount_good (w0 w : World) (v : Value) (s : RS) (m : Int) (hm1 : m ≤ 9223372036854775807) (h : IsV w0 v s) (hb : Below w0.heap.size w0 w) (he : s.err = 0) :
    Calls Try.prog 83 #[v, .int .i64 m] w (VPost w0 w (countS m s).2 (.int .i64 (countS m s).1)) := by
  have hC : countS m s = fin m (cntGo s.xs 0 0) := by unfold countS; rw [if_pos he]
  have HC := Lib.hid hC.symm
  have e0 : s = ⟨s.xs, 0⟩ := by rw [← he]
  rw [e0] at h
  have V0 := Lib.hid h
  have HB := Lib.hid hb
  obtain ⟨A, n, c, rfl, _, _⟩ := h
  clear e0
  generalize countS m s = q at *
  obtain ⟨qn, qs⟩ := q
  simp only at V0 ⊢
  have HM := Lib.hid hm1
  have HS := Lib.hid hb.size
  obtain ⟨R0, hR0⟩ : ∃ r, r = w.heap.size := ⟨_, rfl⟩
  have HR0 := Lib.hid hR0
  have HRS : Hid (w.heap.size ≤ R0 + 1) := Lib.hid (by omega)
  clear hb hC hm1
  go_enter Try.func83, Try.ntmps83
  go_wp2
  rw [← hR0]
  clear hR0
  go_loopw [5, 6, 7, 8, 9, 10] (fun r5 r6 r7 r8 _ _ wr => ∃ (j : Nat) (nn M : Int) (xs : List Int) (A : Option Addr) (n c : Nat), r5 = .int .i64 0 ∧ r6 = .int .i64 nn ∧ r7 = .int .i64 M ∧ r8 = .int .i64 j ∧ j ≤ 9 ∧ 0 ≤ nn ∧ Hid (nn < 2 ^ (7 * j)) ∧ Hid (j ≤ 8 → M = 2 ^ (7 * j)) ∧ Hid (IsV w0 (.agg #[.slice A n c, .int .i64 0]) ⟨xs, 0⟩) ∧ Hid (wr.heap[R0]? = some (.cells #[.slice A n c, .int .i64 0] 48 (0, 0))) ∧ Hid (wr.heap[R0 + 1]? = some (.cells #[.slice none 0 0, .int .i64 0] 48 (0, 0))) ∧ Hid (Below w.heap.size w wr) ∧ Hid (fin m (cntGo xs j nn) = (qn, qs)))
    (fun _ _ _ r8 _ _ _ => (10 - intOf r8).toNat)
  case atStart =>
    refine ⟨0, 0, 1, s.xs, A, n, c, rfl, rfl, rfl, rfl, by omega, by omega, Lib.hid (by simp), Lib.hid (fun _ => rfl), V0, Lib.hid ?_, Lib.hid ?_, Lib.hid (b2 _ _ _), HC⟩
    · rw [HR0.out]
      have h := heap_alloc_new w (.cells #[.slice A n c, .int .i64 0] 48)
      exact blk_below h (b1 _ _)
    · rw [HR0.out]
      simpa using heap_alloc_new (w.alloc (.cells #[.slice A n c, .int .i64 0] 48)) (.cells #[.slice none 0 0, .int .i64 0] 48)
  case round =>
    obtain ⟨j, nn, M, xs, A, n, c, rfl, rfl, rfl, rfl, hj, hn0, HN, HMM, HVr, H0, H1, HBr, HF⟩ := hrel
    have c0 := blk_cell H0.out 0
    have c1 := blk_cell H0.out 1
    simp only [List.getElem?_toArray, List.getElem?_cons_zero, List.getElem?_cons_succ] at c0 c1
    cases xs with
    | nil =>
      have hq : (0, (⟨[], 120⟩ : RS)) = (qn, qs) := HF.out
      injection hq with h1 h2
      subst h1 h2
      have C : Hid (∀ w, Below w0.heap.size w0 w → Calls Try.prog 103 #[.agg #[.slice A n c, .int .i64 0]] w (VPost w0 w ⟨[], 120⟩ (.int .u8 0))) := Lib.hid (fun w hB => vbyte w0 w _ ⟨[], 0⟩ HVr.out hB)
      go_wp2_with fail
      refine (C.out _ (HB.out.trans (HBr.out.mono HS.out))).mono ?_
      rintro e w1 ⟨v1, rfl, iv, bw⟩
      obtain ⟨A1, n1, k1, rfl, iw⟩ := id iv
      have IV := Lib.hid iv
      have BW := Lib.hid (HBr.out.trans (bw.mono HBr.out.size))
      have G0 := Lib.hid (blk_below H0.out bw)
      have G1 := Lib.hid (blk_below H1.out bw)
      have L1 := blk_lt G0.out
      have L2 := blk_lt G1.out
      have cc0 := blk_cell G0.out 0
      have cc1 := blk_cell G0.out 1
      have z0 := blk_frozen G0.out 0
      have z1 := blk_frozen G0.out 1
      have dd0 := blk_cell G1.out 0
      have dd1 := blk_cell G1.out 1
      have y0 := blk_frozen G1.out 0
      have y1 := blk_frozen G1.out 1
      simp only [List.getElem?_toArray, List.getElem?_cons_zero, List.getElem?_cons_succ] at cc0 cc1 dd0 dd1
      have F0 : Hid (((w1.setCell ⟨R0, 0, none⟩ (.slice A1 n1 k1)).setCell ⟨R0, 1, none⟩ (.int .i64 120)).heap[R0]? = some (.cells #[.slice A1 n1 k1, .int .i64 120] 48 (0, 0))) := Lib.hid (blk_put (blk_put G0.out 0 _ rfl) 1 _ rfl)
      have F1 : Hid (((w1.setCell ⟨R0, 0, none⟩ (.slice A1 n1 k1)).setCell ⟨R0, 1, none⟩ (.int .i64 120)).heap[R0 + 1]? = some (.cells #[.slice none 0 0, .int .i64 0] 48 (0, 0))) := Lib.hid (blk_far (blk_far G1.out (by simp) _) (by simp) _)
      have FB : Hid (Below w.heap.size w ((w1.setCell ⟨R0, 0, none⟩ (.slice A1 n1 k1)).setCell ⟨R0, 1, none⟩ (.int .i64 120))) := Lib.hid (set2 BW.out (by rw [HR0.out]; exact Nat.le_refl _) _ _)
      clear iv iw bw C H0 H1 c0 c1
      go_wp2
      refine bodyPost_ret (results_ct rfl _ _ (R0 + 1) 48 #[.slice A1 n1 k1, .int .i64 120] (0, 0) _ rfl (blk_below (blk_put (blk_put F1.out 0 _ rfl) 1 _ rfl) (b1 _ _)) Try.underlying48 rfl (by kernel_rfl)) rfl ?_
      exact ⟨_, rfl, IV.out, below_alloc (set2 FB.out HRS.out _ _) _⟩
    | cons b r =>
      have hbb := HVr.out.bytes b (List.mem_cons_self ..)
      obtain ⟨b0, bb1⟩ := hbb
      have C : Hid (∀ w, Below w0.heap.size w0 w → Calls Try.prog 103 #[.agg #[.slice A n c, .int .i64 0]] w (VPost w0 w ⟨r, 0⟩ (.int .u8 b))) := Lib.hid (fun w hB => vbyte w0 w _ ⟨b :: r, 0⟩ HVr.out hB)
      go_wp2_with fail
      refine (C.out _ (HB.out.trans (HBr.out.mono HS.out))).mono ?_
      rintro e w1 ⟨v1, rfl, iv, bw⟩
      obtain ⟨A1, n1, k1, rfl, iw⟩ := id iv
      have IV := Lib.hid iv
      have BW := Lib.hid (HBr.out.trans (bw.mono HBr.out.size))
      have G0 := Lib.hid (blk_below H0.out bw)
      have G1 := Lib.hid (blk_below H1.out bw)
      have L1 := blk_lt G0.out
      have L2 := blk_lt G1.out
      have cc0 := blk_cell G0.out 0
      have cc1 := blk_cell G0.out 1
      have z0 := blk_frozen G0.out 0
      have z1 := blk_frozen G0.out 1
      have dd0 := blk_cell G1.out 0
      have dd1 := blk_cell G1.out 1
      have y0 := blk_frozen G1.out 0
      have y1 := blk_frozen G1.out 1
      simp only [List.getElem?_toArray, List.getElem?_cons_zero, List.getElem?_cons_succ] at cc0 cc1 dd0 dd1
      have F0 : Hid (((w1.setCell ⟨R0, 0, none⟩ (.slice A1 n1 k1)).setCell ⟨R0, 1, none⟩ (.int .i64 0)).heap[R0]? = some (.cells #[.slice A1 n1 k1, .int .i64 0] 48 (0, 0))) := Lib.hid (blk_put (blk_put G0.out 0 _ rfl) 1 _ rfl)
      have F1 : Hid (((w1.setCell ⟨R0, 0, none⟩ (.slice A1 n1 k1)).setCell ⟨R0, 1, none⟩ (.int .i64 0)).heap[R0 + 1]? = some (.cells #[.slice none 0 0, .int .i64 0] 48 (0, 0))) := Lib.hid (blk_far (blk_far G1.out (by simp) _) (by simp) _)
      have FB : Hid (Below w.heap.size w ((w1.setCell ⟨R0, 0, none⟩ (.slice A1 n1 k1)).setCell ⟨R0, 1, none⟩ (.int .i64 0))) := Lib.hid (set2 BW.out (by rw [HR0.out]; exact Nat.le_refl _) _ _)
      clear iv iw bw C H0 H1 c0 c1
      by_cases h9 : j = 9 ∨ (0 < j ∧ b = 0)
      · have hq : (0, (⟨r, 121⟩ : RS)) = (qn, qs) := by
          have h := HF.out
          rw [cntGo, if_pos h9] at h
          exact h
        injection hq with h1 h2
        subst h1 h2
        by_cases hj9 : j = 9
        · subst hj9
          clear h9
          go_wp2_with fail
          refine (vfail w0 _ _ ⟨r, 0⟩ 121 IV.out).mono ?_
          rintro e w2 ⟨v2, rfl, iv2, bw2⟩
          have iv3 : IsV w0 v2 ⟨r, 121⟩ := iv2
          obtain ⟨A2, n2, k2, rfl, iw2⟩ := id iv3
          have IV2 := Lib.hid iv3
          have G2 := Lib.hid (blk_below (blk_below F1.out (b1 _ _)) bw2)
          have B2 := Lib.hid ((below_alloc FB.out _).trans (bw2.mono (below_alloc FB.out _).size))
          have d0 := blk_cell G2.out 0
          have d1 := blk_cell G2.out 1
          have x0 := blk_frozen G2.out 0
          have x1 := blk_frozen G2.out 1
          simp only [List.getElem?_toArray, List.getElem?_cons_zero, List.getElem?_cons_succ] at d0 d1
          clear iv2 iv3 iw2 bw2
          go_wp2
          refine bodyPost_ret (results_ct rfl _ _ (R0 + 1) 48 #[.slice A2 n2 k2, .int .i64 121] (0, 0) _ rfl (blk_put (blk_put G2.out 0 _ rfl) 1 _ rfl) Try.underlying48 rfl (by kernel_rfl)) rfl ?_
          exact ⟨_, rfl, IV2.out, set2 B2.out HRS.out _ _⟩
        · have hj8 : j ≤ 8 := by omega
          have hj0 : 0 < j := by omega
          have BE : (b == 0) = true := by rcases h9 with h | ⟨_, h⟩; exact absurd h hj9; simp [h]
          clear h9 hj9 hj
          go_wp2_with fail
          refine (vfail w0 _ _ ⟨r, 0⟩ 121 IV.out).mono ?_
          rintro e w2 ⟨v2, rfl, iv2, bw2⟩
          have iv3 : IsV w0 v2 ⟨r, 121⟩ := iv2
          obtain ⟨A2, n2, k2, rfl, iw2⟩ := id iv3
          have IV2 := Lib.hid iv3
          have G2 := Lib.hid (blk_below (blk_below F1.out (b1 _ _)) bw2)
          have B2 := Lib.hid ((below_alloc FB.out _).trans (bw2.mono (below_alloc FB.out _).size))
          have d0 := blk_cell G2.out 0
          have d1 := blk_cell G2.out 1
          have x0 := blk_frozen G2.out 0
          have x1 := blk_frozen G2.out 1
          simp only [List.getElem?_toArray, List.getElem?_cons_zero, List.getElem?_cons_succ] at d0 d1
          clear iv2 iv3 iw2 bw2
          go_wp2
          refine bodyPost_ret (results_ct rfl _ _ (R0 + 1) 48 #[.slice A2 n2 k2, .int .i64 121] (0, 0) _ rfl (blk_put (blk_put G2.out 0 _ rfl) 1 _ rfl) Try.underlying48 rfl (by kernel_rfl)) rfl ?_
          exact ⟨_, rfl, IV2.out, set2 B2.out HRS.out _ _⟩
      · have hj8 : j ≤ 8 := by omega
        obtain ⟨KV, v0, v63, hv⟩ := take_walk j hj8 nn b hn0 HN.out b0 bb1
        rw [← HMM.out hj8] at KV v0 v63 hv
        have HF2 : Hid (fin m (if b < 128 then (nn + b % 128 * M, ⟨r, 0⟩) else cntGo r (j + 1) (nn + b % 128 * M)) = (qn, qs)) := Lib.hid (by
          have h := HF.out
          rwa [cntGo, if_neg h9, ← HMM.out hj8] at h)
        have VL := Lib.hid hv
        have BE : 0 < j → (b == 0) = false := fun h => beq_eq_false_iff_ne.2 (fun e => h9 (.inr ⟨h, e⟩))
        have HM2 : Hid (j + 1 ≤ 8 → wrap64 (M * 128) = 2 ^ (7 * (j + 1))) := Lib.hid (fun h => by
          have e : (2 : Int) ^ (7 * (j + 1)) = 2 ^ (7 * j) * 128 := by rw [show 7 * (j + 1) = 7 * j + 7 by omega, Int.pow_add]; rfl
          have h56 : (2 : Int) ^ (7 * (j + 1)) ≤ 2 ^ 56 := by exact_mod_cast Nat.pow_le_pow_right (by decide) (by omega : 7 * (j + 1) ≤ 56)
          have hp0 : (0 : Int) < 2 ^ (7 * (j + 1)) := by exact_mod_cast Nat.two_pow_pos _
          rw [HMM.out hj8, ← e]
          unfold wrap64
          omega)
        clear hv HF h9
        generalize hvv : nn + b % 128 * M = vv at *
        generalize hmm : wrap64 (M * 128) = M2 at *
        clear hvv
        by_cases hb128 : b < 128
        · have hq : fin m (vv, ⟨r, 0⟩) = (qn, qs) := by have h := HF2.out; rwa [if_pos hb128] at h
          have VN : Hid (0 ≤ vv) := Lib.hid v0
          by_cases hvm : vv > mx m 0
          · have hq2 : (0, (⟨r, 121⟩ : RS)) = (qn, qs) := by
              unfold fin at hq
              rw [if_pos rfl, ← mx_eq, if_pos hvm] at hq
              exact hq
            injection hq2 with h1 h2
            subst h1 h2
            clear hq hj HF2
            by_cases hj0 : 0 < j
            · have BE' := BE hj0
              clear BE
              go_wp2_with fail
              refine (vfail w0 _ _ ⟨r, 0⟩ 121 IV.out).mono ?_
              rintro e w2 ⟨v2, rfl, iv2, bw2⟩
              have iv3 : IsV w0 v2 ⟨r, 121⟩ := iv2
              obtain ⟨A2, n2, k2, rfl, iw2⟩ := id iv3
              have IV2 := Lib.hid iv3
              have G2 := Lib.hid (blk_below (blk_below F1.out (b1 _ _)) bw2)
              have B2 := Lib.hid ((below_alloc FB.out _).trans (bw2.mono (below_alloc FB.out _).size))
              have d0 := blk_cell G2.out 0
              have d1 := blk_cell G2.out 1
              have x0 := blk_frozen G2.out 0
              have x1 := blk_frozen G2.out 1
              simp only [List.getElem?_toArray, List.getElem?_cons_zero, List.getElem?_cons_succ] at d0 d1
              clear iv2 iv3 iw2 bw2
              go_wp2
              refine bodyPost_ret (results_ct rfl _ _ (R0 + 1) 48 #[.slice A2 n2 k2, .int .i64 121] (0, 0) _ rfl (blk_put (blk_put G2.out 0 _ rfl) 1 _ rfl) Try.underlying48 rfl (by kernel_rfl)) rfl ?_
              exact ⟨_, rfl, IV2.out, set2 B2.out HRS.out _ _⟩
            · have hj00 : j = 0 := by omega
              subst hj00
              clear BE
              go_wp2_with fail
              refine (vfail w0 _ _ ⟨r, 0⟩ 121 IV.out).mono ?_
              rintro e w2 ⟨v2, rfl, iv2, bw2⟩
              have iv3 : IsV w0 v2 ⟨r, 121⟩ := iv2
              obtain ⟨A2, n2, k2, rfl, iw2⟩ := id iv3
              have IV2 := Lib.hid iv3
              have G2 := Lib.hid (blk_below (blk_below F1.out (b1 _ _)) bw2)
              have B2 := Lib.hid ((below_alloc FB.out _).trans (bw2.mono (below_alloc FB.out _).size))
              have d0 := blk_cell G2.out 0
              have d1 := blk_cell G2.out 1
              have x0 := blk_frozen G2.out 0
              have x1 := blk_frozen G2.out 1
              simp only [List.getElem?_toArray, List.getElem?_cons_zero, List.getElem?_cons_succ] at d0 d1
              clear iv2 iv3 iw2 bw2
              go_wp2
              refine bodyPost_ret (results_ct rfl _ _ (R0 + 1) 48 #[.slice A2 n2 k2, .int .i64 121] (0, 0) _ rfl (blk_put (blk_put G2.out 0 _ rfl) 1 _ rfl) Try.underlying48 rfl (by kernel_rfl)) rfl ?_
              exact ⟨_, rfl, IV2.out, set2 B2.out HRS.out _ _⟩
          · have hq2 : (vv, (⟨r, 0⟩ : RS)) = (qn, qs) := by
              unfold fin at hq
              rw [if_pos rfl, ← mx_eq, if_neg hvm] at hq
              exact hq
            injection hq2 with h1 h2
            subst h1 h2
            have hvm' : vv ≤ mx m 0 := by omega
            clear hq hj HF2 hvm
            by_cases hj0 : 0 < j
            · have BE' := BE hj0
              clear BE
              go_wp2
              refine bodyPost_ret (results_ct rfl _ _ (R0 + 1) 48 #[.slice A1 n1 k1, .int .i64 0] (0, 0) _ rfl (blk_below (blk_put (blk_put F1.out 0 _ rfl) 1 _ rfl) (b1 _ _)) Try.underlying48 rfl (by kernel_rfl)) rfl ?_
              exact ⟨_, rfl, IV.out, below_alloc (set2 FB.out HRS.out _ _) _⟩
            · have hj00 : j = 0 := by omega
              subst hj00
              clear BE
              go_wp2
              refine bodyPost_ret (results_ct rfl _ _ (R0 + 1) 48 #[.slice A1 n1 k1, .int .i64 0] (0, 0) _ rfl (blk_below (blk_put (blk_put F1.out 0 _ rfl) 1 _ rfl) (b1 _ _)) Try.underlying48 rfl (by kernel_rfl)) rfl ?_
              exact ⟨_, rfl, IV.out, below_alloc (set2 FB.out HRS.out _ _) _⟩
        · have HF3 : Hid (fin m (cntGo r (j + 1) vv) = (qn, qs)) := Lib.hid (by have h := HF2.out; rwa [if_neg hb128] at h)
          clear HF2 hj
          by_cases hj0 : 0 < j
          · have BE' := BE hj0
            clear BE
            go_wp2
            go_roundw
            case rel => exact ⟨j + 1, vv, M2, r, A1, n1, k1, rfl, by first | rfl | rw [KV], by first | rfl | rw [hmm], by go_num, by omega, v0, VL, HM2, IV, Lib.hid (blk_below F0.out (b1 _ _)), Lib.hid (blk_below F1.out (b1 _ _)), Lib.hid (below_alloc FB.out _), HF3⟩
            case measure => simp [intOf]; omega
          · have hj00 : j = 0 := by omega
            subst hj00
            clear BE
            go_wp2
            go_roundw
            case rel => exact ⟨0 + 1, vv, M2, r, A1, n1, k1, rfl, by first | rfl | rw [KV], by first | rfl | rw [hmm], by go_num, by omega, v0, VL, HM2, IV, Lib.hid (blk_below F0.out (b1 _ _)), Lib.hid (blk_below F1.out (b1 _ _)), Lib.hid (below_alloc FB.out _), HF3⟩
            case measure => simp [intOf]
end

set_option maxHeartbeats 1000000 in
set_option maxRecDepth 100000 in
theorem vcount_bad (w0 w : World) (v : Value) (s : RS) (m : Int) (h : IsV w0 v s) (hb : Below w0.heap.size w0 w) (he : s.err ≠ 0) :
    Calls Try.prog 83 #[v, .int .i64 m] w (VPost w0 w (countS m s).2 (.int .i64 (countS m s).1)) := by
  rw [countS_bad he]
  have HB := Lib.hid hb
  have e1 : byteS s = (0, s) := byteS_bad he
  have C : Hid (∀ w, Below w0.heap.size w0 w → Calls Try.prog 103 #[v] w (VPost w0 w s (.int .u8 0))) := Lib.hid (fun w hB => by
    have := vbyte w0 w v s h hB
    rwa [e1] at this)
  obtain ⟨A, n, c, rfl, _, _⟩ := h
  obtain ⟨R0, hR0⟩ : ∃ r, r = w.heap.size := ⟨_, rfl⟩
  have HR0 := Lib.hid hR0
  have HRS : Hid (w.heap.size ≤ R0 + 1) := Lib.hid (by omega)
  have HS := Lib.hid hb.size
  have E1 : (s.err != 0) = true := bne_iff_ne.2 he
  have g0 := blk_below (heap_alloc_new w (.cells #[.slice A n c, .int .i64 s.err] 48)) (b1 _ (.cells #[.slice none 0 0, .int .i64 0] 48))
  have g1 : ((w.alloc (.cells #[.slice A n c, .int .i64 s.err] 48)).alloc (.cells #[.slice none 0 0, .int .i64 0] 48)).heap[w.heap.size + 1]? = some (.cells #[.slice none 0 0, .int .i64 0] 48 (0, 0)) := by simpa using heap_alloc_new (w.alloc (.cells #[.slice A n c, .int .i64 s.err] 48)) (.cells #[.slice none 0 0, .int .i64 0] 48)
  rw [← hR0] at g0 g1
  have W0 := Lib.hid (b2 w (.cells #[.slice A n c, .int .i64 s.err] 48) (.cells #[.slice none 0 0, .int .i64 0] 48))
  have H0 := Lib.hid g0
  have H1 := Lib.hid g1
  clear hb he e1 g0 g1
  go_enter Try.func83, Try.ntmps83
  go_wp2
  refine wp_loop_rounds 1 ?_
  rw [rounds_succ]
  rw [← hR0]
  clear hR0
  have c0 := blk_cell H0.out 0
  have c1 := blk_cell H0.out 1
  simp only [List.getElem?_toArray, List.getElem?_cons_zero, List.getElem?_cons_succ] at c0 c1
  go_wp2_with fail
  refine (C.out _ (HB.out.trans (W0.out.mono HS.out))).mono ?_
  rintro e w1 ⟨v1, rfl, iv, bw⟩
  obtain ⟨A1, n1, k1, rfl, iw⟩ := id iv
  have IV := Lib.hid iv
  have BW := Lib.hid (W0.out.trans (bw.mono W0.out.size))
  have G0 := Lib.hid (blk_below H0.out bw)
  have G1 := Lib.hid (blk_below H1.out bw)
  have L1 := blk_lt G0.out
  have L2 := blk_lt G1.out
  have cc0 := blk_cell G0.out 0
  have cc1 := blk_cell G0.out 1
  have z0 := blk_frozen G0.out 0
  have z1 := blk_frozen G0.out 1
  have dd0 := blk_cell G1.out 0
  have dd1 := blk_cell G1.out 1
  have y0 := blk_frozen G1.out 0
  have y1 := blk_frozen G1.out 1
  simp only [List.getElem?_toArray, List.getElem?_cons_zero, List.getElem?_cons_succ] at cc0 cc1 dd0 dd1
  have F1 : Hid (((w1.setCell ⟨R0, 0, none⟩ (.slice A1 n1 k1)).setCell ⟨R0, 1, none⟩ (.int .i64 s.err)).heap[R0 + 1]? = some (.cells #[.slice none 0 0, .int .i64 0] 48 (0, 0))) := Lib.hid (blk_far (blk_far G1.out (by simp) _) (by simp) _)
  have FB : Hid (Below w.heap.size w ((w1.setCell ⟨R0, 0, none⟩ (.slice A1 n1 k1)).setCell ⟨R0, 1, none⟩ (.int .i64 s.err))) := Lib.hid (set2 BW.out (by rw [HR0.out]; exact Nat.le_refl _) _ _)
  clear iv iw bw C H0 H1 W0 c0 c1
  go_wp2
  refine bodyPost_ret (results_ct rfl _ _ (R0 + 1) 48 #[.slice A1 n1 k1, .int .i64 s.err] (0, 0) _ rfl (blk_below (blk_put (blk_put F1.out 0 _ rfl) 1 _ rfl) (b1 _ _)) Try.underlying48 rfl (by kernel_rfl)) rfl ?_
  exact ⟨_, rfl, IV.out, below_alloc (set2 FB.out HRS.out _ _) _⟩

theorem vcount (w0 w : World) (v : Value) (s : RS) (m : Int) (hm1 : m ≤ 9223372036854775807) (h : IsV w0 v s) (hb : Below w0.heap.size w0 w) :
    Calls Try.prog 83 #[v, .int .i64 m] w (VPost w0 w (countS m s).2 (.int .i64 (countS m s).1)) := by
  by_cases he : s.err = 0
  · exact vcount_good w0 w v s m hm1 h hb he
  · exact vcount_bad w0 w v s m h hb he
end Go.Proofs.Ytehdhmhpmkkneaa

/- Layer 12: the document's reader: the walks of TakeNumber and TakeText. -/
namespace Go.Proofs.Ytehdhmhpmkkneaa
open Go.RowKit Go.Proofs.YtehdhmhpmkkneaaW.PrintWords Go.Proofs.YtehdhmhpmkkneaaW.PrintMore Go.Proofs.Ytehdhmhpmkkneaa.PAll

/-- The heap behind the box of the reader and the cell of the result. -/
theorem boxed (w : World) (a b : Obj) : ((w.alloc a).alloc b).heap[w.heap.size + 1]? = some b := by simpa using heap_alloc_new (w.alloc a) b

set_option maxHeartbeats 1000000 in
set_option maxRecDepth 100000 in
theorem vnumber (w0 w : World) (v : Value) (s : RS) (h : IsV w0 v s) (hb : Below w0.heap.size w0 w) :
    Calls Try.prog 85 #[v] w (VPost w0 w (numS s).2 (.int .i32 (numS s).1)) := by
  have hbd := countS_bd 4294967295 s h.bytes
  have C : Hid (∀ w, Below w0.heap.size w0 w → Calls Try.prog 83 #[v, .int .i64 4294967295] w (VPost w0 w (countS 4294967295 s).2 (.int .i64 (countS 4294967295 s).1))) := Lib.hid (fun w hB => vcount w0 w v s 4294967295 (by omega) h hB)
  have hN : numS s = (if (countS 4294967295 s).1 % 2 = 1 then -(((countS 4294967295 s).1 + 1) / 2) else (countS 4294967295 s).1 / 2, (countS 4294967295 s).2) := rfl
  rw [hN]
  have HB := Lib.hid hb
  have HS := Lib.hid hb.size
  obtain ⟨A, m, c, rfl, _, _⟩ := h
  clear hN hb
  generalize countS 4294967295 s = q at *
  obtain ⟨n, t⟩ := q
  simp only at hbd C
  simp only
  obtain ⟨n0, n1, n2⟩ := hbd
  have n3 : n ≤ 4294967295 := by omega
  clear n1 n2
  have X1 := Lib.hid (boxed w (.cells #[.slice A m c, .int .i64 s.err] 48) (.cells #[.slice none 0 0, .int .i64 0] 48))
  have X2 := Lib.hid (b2 w (.cells #[.slice A m c, .int .i64 s.err] 48) (.cells #[.slice none 0 0, .int .i64 0] 48))
  by_cases h1 : n % 2 = 1
  · rw [if_pos h1]
    have KT : wrap32 (wrap64 (-(Int.tdiv (n + 1) 2))) = -((n + 1) / 2) := by
      rw [Int.tdiv_eq_ediv_of_nonneg (by omega)]
      unfold wrap64 wrap32
      omega
    have H1 := Lib.hid h1
    go_enter Try.func85, Try.ntmps85
    go_wp2_with fail
    refine (C.out _ (HB.out.trans (X2.out.mono HS.out))).mono ?_
    rintro e w1 ⟨v1, rfl, iv, bw⟩
    obtain ⟨A1, n1, k1, rfl, iw⟩ := id iv
    have IV := Lib.hid iv
    have BW := Lib.hid (X2.out.trans (bw.mono X2.out.size))
    have G1 := Lib.hid (blk_below X1.out bw)
    have L2 := blk_lt G1.out
    have dd0 := blk_cell G1.out 0
    have dd1 := blk_cell G1.out 1
    have y0 := blk_frozen G1.out 0
    have y1 := blk_frozen G1.out 1
    simp only [List.getElem?_toArray, List.getElem?_cons_zero, List.getElem?_cons_succ] at dd0 dd1
    clear iv iw bw C X1 X2
    go_wp2
    refine bodyPost_ret (results_ct rfl _ _ (w.heap.size + 1) 48 #[.slice A1 n1 k1, .int .i64 t.err] (0, 0) _ rfl (blk_below (blk_put (blk_put G1.out 0 _ rfl) 1 _ rfl) (b1 _ _)) Try.underlying48 rfl (by kernel_rfl)) rfl ?_
    refine ⟨_, ?_, IV.out, below_alloc (set2 BW.out (by omega) _ _) _⟩
    first | rfl | (rw [← KT]; rfl)
  · rw [if_neg h1]
    have h0 : n % 2 = 0 := by omega
    have KT : wrap32 (n / 2) = n / 2 := by unfold wrap32; omega
    have H1 := Lib.hid h1
    go_enter Try.func85, Try.ntmps85
    go_wp2_with fail
    refine (C.out _ (HB.out.trans (X2.out.mono HS.out))).mono ?_
    rintro e w1 ⟨v1, rfl, iv, bw⟩
    obtain ⟨A1, n1, k1, rfl, iw⟩ := id iv
    have IV := Lib.hid iv
    have BW := Lib.hid (X2.out.trans (bw.mono X2.out.size))
    have G1 := Lib.hid (blk_below X1.out bw)
    have L2 := blk_lt G1.out
    have dd0 := blk_cell G1.out 0
    have dd1 := blk_cell G1.out 1
    have y0 := blk_frozen G1.out 0
    have y1 := blk_frozen G1.out 1
    simp only [List.getElem?_toArray, List.getElem?_cons_zero, List.getElem?_cons_succ] at dd0 dd1
    clear iv iw bw C X1 X2
    go_wp2
    refine bodyPost_ret (results_ct rfl _ _ (w.heap.size + 1) 48 #[.slice A1 n1 k1, .int .i64 t.err] (0, 0) _ rfl (blk_below (blk_put (blk_put G1.out 0 _ rfl) 1 _ rfl) (b1 _ _)) Try.underlying48 rfl (by kernel_rfl)) rfl ?_
    refine ⟨_, ?_, IV.out, below_alloc (set2 BW.out (by omega) _ _) _⟩
    first | rfl | (rw [← KT]; rfl)

set_option maxHeartbeats 1000000 in
set_option maxRecDepth 100000 in
theorem vtext (w0 w : World) (v : Value) (s : RS) (m : Int) (hm1 : m ≤ 9223372036854775807) (h : IsV w0 v s) (hb : Below w0.heap.size w0 w) :
    Calls Try.prog 84 #[v, .int .i64 m] w (VPost w0 w (textS m s).2 (.string (textS m s).1)) := by
  have hbd := countS_bd m s h.bytes
  have C : Hid (∀ w, Below w0.heap.size w0 w → Calls Try.prog 83 #[v, .int .i64 m] w (VPost w0 w (countS m s).2 (.int .i64 (countS m s).1))) := Lib.hid (fun w hB => vcount w0 w v s m hm1 h hB)
  have hT : textS m s = if (countS m s).2.err = 0 then (if (countS m s).1 > (countS m s).2.xs.length then (ByteArray.empty, ⟨(countS m s).2.xs, 120⟩) else (strOfNums ((countS m s).2.xs.take (countS m s).1.toNat), ⟨(countS m s).2.xs.drop (countS m s).1.toNat, 0⟩)) else (ByteArray.empty, (countS m s).2) := rfl
  have HB := Lib.hid hb
  have HS := Lib.hid hb.size
  obtain ⟨A, l, c, rfl, _, _⟩ := h
  clear hb
  generalize countS m s = q at *
  obtain ⟨n, t⟩ := q
  simp only at hbd C hT
  have HT := Lib.hid hT
  obtain ⟨n0, _, n1⟩ := hbd
  have X1 := Lib.hid (boxed w (.cells #[.slice A l c, .int .i64 s.err] 48) (.cells #[.slice none 0 0, .int .i64 0] 48))
  have X2 := Lib.hid (b2 w (.cells #[.slice A l c, .int .i64 s.err] 48) (.cells #[.slice none 0 0, .int .i64 0] 48))
  clear hT
  by_cases he : t.err = 0
  · have E2 : (t.err != 0) = false := by rw [he]; rfl
    by_cases hn : n > t.xs.length
    · have hT : textS m s = (ByteArray.empty, ⟨t.xs, 120⟩) := by rw [HT.out, if_pos he, if_pos hn]
      rw [hT]
      have hf : failS t 120 = ⟨t.xs, 120⟩ := by unfold failS; rw [if_pos he]
      have HF := Lib.hid hf
      clear hT he hf
      go_enter Try.func84, Try.ntmps84
      go_wp2_with fail
      refine (C.out _ (HB.out.trans (X2.out.mono HS.out))).mono ?_
      rintro e w1 ⟨v1, rfl, iv, bw⟩
      obtain ⟨A1, n1, k1, rfl, iw⟩ := id iv
      obtain ⟨iw1, iw2, iw3, iw4⟩ := iw
      have IV := Lib.hid iv
      have BW := Lib.hid (X2.out.trans (bw.mono X2.out.size))
      have G1 := Lib.hid (blk_below X1.out bw)
      have L2 := blk_lt G1.out
      have dd0 := blk_cell G1.out 0
      have dd1 := blk_cell G1.out 1
      have y0 := blk_frozen G1.out 0
      have y1 := blk_frozen G1.out 1
      simp only [List.getElem?_toArray, List.getElem?_cons_zero, List.getElem?_cons_succ] at dd0 dd1
      obtain rfl := iw1.1
      have FW : Hid (∀ w, Calls Try.prog 104 #[.agg #[.slice A1 t.xs.length k1, .int .i64 t.err], .int .i64 120] w fun e w' => ∃ v', e = .returned v' ∧ IsV w0 v' ⟨t.xs, 120⟩ ∧ Below w.heap.size w w') := Lib.hid (fun w => by have h := vfail w0 w _ t 120 IV.out; rwa [HF.out] at h)
      clear iv bw C X1 X2 iw1 iw2 iw3 iw4
      go_wp2_with fail
      refine (FW.out _).mono ?_
      rintro e w2 ⟨v2, rfl, iv2, bw2⟩
      obtain ⟨A2, n2, k2, rfl, iw2⟩ := id iv2
      have IV2 := Lib.hid iv2
      have G2 := Lib.hid (blk_below (blk_below G1.out (b1 _ _)) bw2)
      have B2 := Lib.hid ((below_alloc BW.out _).trans (bw2.mono (below_alloc BW.out _).size))
      have d0 := blk_cell G2.out 0
      have d1 := blk_cell G2.out 1
      have x0 := blk_frozen G2.out 0
      have x1 := blk_frozen G2.out 1
      simp only [List.getElem?_toArray, List.getElem?_cons_zero, List.getElem?_cons_succ] at d0 d1
      clear iv2 iw2 bw2
      go_wp2
      refine bodyPost_ret (results_ct rfl _ _ (w.heap.size + 1) 48 #[.slice A2 n2 k2, .int .i64 120] (0, 0) _ rfl (blk_put (blk_put G2.out 0 _ rfl) 1 _ rfl) Try.underlying48 rfl (by kernel_rfl)) rfl ?_
      exact ⟨_, rfl, IV2.out, set2 B2.out (by omega) _ _⟩
    · have hT : textS m s = (strOfNums (t.xs.take n.toNat), ⟨t.xs.drop n.toNat, 0⟩) := by rw [HT.out, if_pos he, if_neg hn]
      rw [hT]
      have hn' : n ≤ t.xs.length := by omega
      clear hT hn
      go_enter Try.func84, Try.ntmps84
      go_wp2_with fail
      refine (C.out _ (HB.out.trans (X2.out.mono HS.out))).mono ?_
      rintro e w1 ⟨v1, rfl, iv, bw⟩
      obtain ⟨A1, n1, k1, rfl, iw⟩ := id iv
      obtain ⟨iw1, iw2, iw3, iw4⟩ := iw
      have IV := Lib.hid iv
      have BW := Lib.hid (X2.out.trans (bw.mono X2.out.size))
      have G1 := Lib.hid (blk_below X1.out bw)
      have L2 := blk_lt G1.out
      have dd0 := blk_cell G1.out 0
      have dd1 := blk_cell G1.out 1
      have y0 := blk_frozen G1.out 0
      have y1 := blk_frozen G1.out 1
      simp only [List.getElem?_toArray, List.getElem?_cons_zero, List.getElem?_cons_succ] at dd0 dd1
      obtain rfl := iw1.1
      obtain ⟨hs1, hr1, _⟩ := print_take_int (P := Try.prog) (k := .u8) 24 5 Try.underlying24 (i := info5'.choose) info5'.choose_spec.1 info5'.choose_spec.2 A1 k1 t.xs n n0 hn' iw2
      obtain ⟨A3, hs2, hr2, hk2⟩ := print_cut_int (P := Try.prog) (k := .u8) 24 5 Try.underlying24 (i := info5'.choose) info5'.choose_spec.1 info5'.choose_spec.2 A1 k1 t.xs n n0 hn' iw2
      have R1 := Lib.hid (hr1 w0 iw1)
      have IV2 : Hid (IsV w0 (.agg #[.slice A3 (t.xs.drop n.toNat).length (k1 - n.toNat), .int .i64 0]) ⟨t.xs.drop n.toNat, 0⟩) := Lib.hid ⟨_, _, _, rfl, hr2 w0 iw1, by simp; omega, fun x hx => iw3 x (List.mem_of_mem_drop hx), by simp; omega⟩
      have HR : Hid (∀ X, ReadsInt (w1.alloc X) .u8 A1 (t.xs.take n.toNat).length (t.xs.take n.toNat)) := Lib.hid (fun X => R1.out.below (HB.out.trans (below_alloc BW.out _ |>.mono HS.out)))
      generalize t.xs.take n.toNat = T1 at *
      generalize t.xs.drop n.toNat = T2 at *
      have hc1 : ∀ X, (convert 24 9 (.slice A1 T1.length k1)).run Try.prog (w1.alloc X) = .ok (.string (strOfNums T1)) (w1.alloc X) := fun X => string_of_reads Try.underlying24 Try.underlying5 Try.underlying9 (HR.out X)
      generalize T1.length = L1 at *
      generalize T2.length = L2' at *
      clear iv bw C X1 X2 iw1 iw3 iw4 hr1 hr2 hk2
      go_wp2
      refine bodyPost_ret (results_ct rfl _ _ (w.heap.size + 1) 48 #[.slice A3 L2' (k1 - n.toNat), .int .i64 0] (0, 0) _ rfl (blk_below (blk_put (blk_put G1.out 0 _ rfl) 1 _ rfl) (b1 _ _)) Try.underlying48 rfl (by kernel_rfl)) rfl ?_
      exact ⟨_, rfl, IV2.out, below_alloc (set2 BW.out (by omega) _ _) _⟩
  · have E2 : (t.err != 0) = true := bne_iff_ne.2 he
    have hT : textS m s = (ByteArray.empty, t) := by rw [HT.out, if_neg he]
    rw [hT]
    clear hT he
    go_enter Try.func84, Try.ntmps84
    go_wp2_with fail
    refine (C.out _ (HB.out.trans (X2.out.mono HS.out))).mono ?_
    rintro e w1 ⟨v1, rfl, iv, bw⟩
    obtain ⟨A1, n1, k1, rfl, iw⟩ := id iv
    obtain ⟨iw1, iw2, iw3, iw4⟩ := iw
    have IV := Lib.hid iv
    have BW := Lib.hid (X2.out.trans (bw.mono X2.out.size))
    have G1 := Lib.hid (blk_below X1.out bw)
    have L2 := blk_lt G1.out
    have dd0 := blk_cell G1.out 0
    have dd1 := blk_cell G1.out 1
    have y0 := blk_frozen G1.out 0
    have y1 := blk_frozen G1.out 1
    simp only [List.getElem?_toArray, List.getElem?_cons_zero, List.getElem?_cons_succ] at dd0 dd1
    clear iv bw C X1 X2 iw1 iw2 iw3 iw4
    go_wp2
    refine bodyPost_ret (results_ct rfl _ _ (w.heap.size + 1) 48 #[.slice A1 n1 k1, .int .i64 t.err] (0, 0) _ rfl (blk_below (blk_put (blk_put G1.out 0 _ rfl) 1 _ rfl) (b1 _ _)) Try.underlying48 rfl (by kernel_rfl)) rfl ?_
    exact ⟨_, rfl, IV.out, below_alloc (set2 BW.out (by omega) _ _) _⟩
end Go.Proofs.Ytehdhmhpmkkneaa

/- Layer 13: what is read of a fingerprint's bytes, in plain words. -/
namespace Go.Proofs.Ytehdhmhpmkkneaa
open Go.RowKit Go.Proofs.YtehdhmhpmkkneaaW.PrintWords Go.Proofs.YtehdhmhpmkkneaaW.PrintMore Go.Proofs.Ytehdhmhpmkkneaa.PAll

/-- One parameter. -/
def parS (s : RS) : S119 × RS := (⟨(countS 4096 s).1, (countS 1 (countS 4096 s).2).1 == 1⟩, (countS 1 (countS 4096 s).2).2)
/-- So many parameters, behind those that are there. -/
def parsGo : Nat → List S119 → RS → List S119 × RS
  | 0, ps, s => (ps, s)
  | k + 1, ps, s => parsGo k (ps ++ [(parS s).1]) (parS s).2
/-- The reader behind an export's first four fields. -/
def hd1 (s : RS) : RS := (textS 32 s).2
def hd2 (s : RS) : RS := (countS 8 (hd1 s)).2
def hd3 (s : RS) : RS := (countS 4096 (hd2 s)).2
def hd4 (s : RS) : RS := (numS (hd3 s)).2
def hd5 (s : RS) : RS := (countS 16 (hd4 s)).2
/-- One export. -/
def exS (s : RS) : S80 × RS :=
  (⟨(textS 32 s).1, (countS 8 (hd1 s)).1, (countS 4096 (hd2 s)).1, (numS (hd3 s)).1, (parsGo (countS 16 (hd4 s)).1.toNat [] (hd5 s)).1⟩, (parsGo (countS 16 (hd4 s)).1.toNat [] (hd5 s)).2)
/-- So many exports, behind those that are there. -/
def exsGo : Nat → List S80 → RS → List S80 × RS
  | 0, l, s => (l, s)
  | k + 1, l, s => if (exS s).2.err = 0 then exsGo k (l ++ [(exS s).1]) (exS s).2 else ([], (exS s).2)
def readS (s : RS) : List S80 × RS := exsGo (countS 4096 s).1.toNat [] (countS 4096 s).2

/-- Where something was wrong the reader stays as it is. -/
theorem countS_stop (m : Int) {s : RS} (h : s.err ≠ 0) : (countS m s).2 = s := by rw [countS_bad h]
theorem textS_stop (m : Int) {s : RS} (h : s.err ≠ 0) : (textS m s).2 = s := by
  unfold textS
  rw [countS_bad h]
  simp only
  rw [if_neg h]
theorem numS_stop {s : RS} (h : s.err ≠ 0) : (numS s).2 = s := by
  show (countS 4294967295 s).2 = s
  exact countS_stop _ h
theorem parS_stop {s : RS} (h : s.err ≠ 0) : (parS s).2 = s := by
  unfold parS
  simp only
  rw [countS_stop 4096 h, countS_stop 1 h]
theorem parsGo_stop : ∀ (k : Nat) (ps : List S119) {s : RS}, s.err ≠ 0 → (parsGo k ps s).2 = s
  | 0, _, _, _ => rfl
  | k + 1, ps, s, h => by
    rw [parsGo, parsGo_stop k _ (by rw [parS_stop h]; exact h), parS_stop h]
theorem parsGo_len : ∀ (k : Nat) (ps : List S119) (s : RS), (parsGo k ps s).1.length = ps.length + k
  | 0, _, _ => rfl
  | k + 1, ps, s => by
    rw [parsGo, parsGo_len k, List.length_append]
    simp
    omega
end Go.Proofs.Ytehdhmhpmkkneaa

/- Layer 13: the walk of finger.Read. -/
namespace Go.Proofs.Ytehdhmhpmkkneaa
open Go.RowKit Go.Proofs.YtehdhmhpmkkneaaW.PrintWords Go.Proofs.YtehdhmhpmkkneaaW.PrintMore Go.Proofs.Ytehdhmhpmkkneaa.PAll

theorem info119 : (Try.prog.info? 119).map (fun i => (i.zero, i.size, i.bytes)) = some (some (.agg #[.int .i64 0, .bool false]), 2, 16) := by kernel_rfl
theorem info80 : (Try.prog.info? 80).map (fun i => (i.zero, i.size, i.bytes)) = some (some (.agg #[.string ⟨#[]⟩, .int .i64 0, .int .i64 0, .int .i32 0, .slice none 0 0]), 5, 64) := by kernel_rfl

/-- Behind Read: the list lies in new rows; the reader has moved on. -/
def ReadPost (w0 w : World) (g : Nat) (l : List S80) (s : RS) (e : Ending) (w' : World) : Prop :=
  ∃ v, e = .returned v ∧ Kd.R k80 80 w' w.heap.size (fun k => w.heap.size ≤ k) v l ∧ IsR w0 w' g s ∧ Below w0.heap.size w0 w' ∧ KeepBut w w' g none

/-- A world that has changed in the reader's block and in new ones. -/
structure Mid (w0 w W : World) (g : Nat) (s : RS) : Prop where
  rd : IsR w0 W g s
  low : Below w0.heap.size w0 W
  keep : KeepBut w W g none
theorem Mid.size {w0 w W : World} {g : Nat} {s : RS} (h : Mid w0 w W g s) : w.heap.size ≤ W.heap.size := h.keep.1
theorem Mid.base {w0 w W : World} {g : Nat} {s : RS} (h : Mid w0 w W g s) : w0.heap.size ≤ g := by
  obtain ⟨_, _, _, _, _, hg, _⟩ := h.rd
  exact hg
theorem Mid.lt {w0 w W : World} {g : Nat} {s : RS} (h : Mid w0 w W g s) : g < W.heap.size := by
  obtain ⟨_, _, _, _, hb, _⟩ := h.rd
  exact blk_lt hb
/-- A call of the reader. -/
theorem Mid.call {w0 w W : World} {g : Nat} {s s' : RS} {i : Nat} {args : Array Value} {v : Value} (h : Mid w0 w W g s)
    (hc : IsR w0 W g s → Below w0.heap.size w0 W → Calls Try.prog i args W (RPost w0 W g v s')) :
    Calls Try.prog i args W fun e W' => e = .returned v ∧ Mid w0 w W' g s' ∧ KeepBut W W' g none := by
  refine (hc h.rd h.low).mono ?_
  rintro e W' ⟨rfl, i1, b1, k1⟩
  exact ⟨rfl, ⟨i1, b1, keep_trans h.keep k1⟩, k1⟩
theorem IsR.blk {w0 W W' : World} {g : Nat} {s : RS} (h : IsR w0 W g s) (e : W'.heap[g]? = W.heap[g]?) : IsR w0 W' g s := by
  unfold IsR at *
  rw [e]
  exact h
theorem Mid.alloc {w0 w W : World} {g : Nat} {s : RS} (h : Mid w0 w W g s) (o : Obj) : Mid w0 w (W.alloc o) g s := by
  refine ⟨h.rd.blk ?_, h.low.alloc h.low.size _, keep_alloc h.keep o⟩
  exact (b1 W o).block g h.lt
theorem Mid.drawn {w0 w W : World} {g : Nat} {s : RS} (h : Mid w0 w W g s) (n : Nat) : Mid w0 w (W.drewN n) g s := ⟨h.rd, pw_below_drewN h.low n, h.keep⟩
theorem Mid.drew {w0 w W : World} {g : Nat} {s : RS} (h : Mid w0 w W g s) : Mid w0 w W.drew g s := ⟨h.rd, h.low.drew, h.keep⟩
/-- A store into a new block. -/
theorem Mid.set {w0 w W : World} {g : Nat} {s : RS} (h : Mid w0 w W g s) {b j : Nat} (hb : w.heap.size ≤ b) (hg : g < w.heap.size) (u : Value) : Mid w0 w (W.setCell ⟨b, j, none⟩ u) g s := by
  have := h.base
  refine ⟨h.rd.blk (Below.heap_setCell W ⟨b, j, none⟩ u g (by show g ≠ b; omega)), h.low.setCell (by show w0.heap.size ≤ b; omega) _, keep_far h.keep hb u⟩
/-- A row of the call's own has grown. -/
theorem Mid.grown {w0 w W W' : World} {g : Nat} {s : RS} (h : Mid w0 w W g s) {r : Option Nat} (hr : ∀ k, r = some k → w.heap.size ≤ k) (hg : g < w.heap.size) (hw : W.grownBy W' r) : Mid w0 w W' g s := by
  have hb := h.base
  refine ⟨h.rd.blk (hw.block g h.lt (fun e => by have := hr g e.symm; omega)), h.low.grown hw h.low.size (fun k e => by have := hr k e; omega), ?_⟩
  refine h.keep.trans (KeepBut.of_grown hw g) ?_
  rcases r with _ | k
  · exact .inl rfl
  · exact .inr ⟨k, rfl, hr k rfl⟩


set_option maxHeartbeats 4000000 in
set_option maxRecDepth 100000 in
theorem fread (w0 w : World) (g : Nat) (s : RS) (h : IsR w0 w g s) (hb : Below w0.heap.size w0 w) :
    Calls Try.prog 29 #[.pointer (some ⟨g, 0, none⟩)] w (ReadPost w0 w g (readS s).1 (readS s).2) := by
  have M0 : Hid (Mid w0 w w g s) := Lib.hid ⟨h, hb, KeepBut.refl _ _ _⟩
  have HG := Lib.hid M0.out.lt
  have hbd := countS_bd 4096 s h.bytes
  obtain ⟨n, hn⟩ : ∃ n : Nat, (countS 4096 s).1 = (n : Int) := ⟨(countS 4096 s).1.toNat, by omega⟩
  have hn2 : n ≤ 4096 := by omega
  have HRS : Hid (exsGo n [] (countS 4096 s).2 = readS s) := Lib.hid (by unfold readS; rw [hn]; rfl)
  have HNN := Lib.hid hn
  clear h hb hbd
  go_enter Try.func29, Try.ntmps29
  go_wp2_with fail
  refine (M0.out.call (fun hi hb => ccount w0 w g s 4096 (by omega) hi hb)).mono ?_
  rintro e w1 ⟨rfl, m1, _⟩
  rw [hn]
  clear hn
  generalize (countS 4096 s).2 = s1 at *
  generalize readS s = q at *
  obtain ⟨ql, qs⟩ := q
  simp only
  have M1 := Lib.hid m1
  clear m1 M0 HNN
  go_wp2
  go_loopw [2, 3, 4, 7] (fun r2 r3 _ r7 wr => ∃ (k : Nat) (v : Value) (l : List S80) (s : RS), k ≤ n ∧ l.length ≤ k ∧ r2 = .slice none 0 0 ∧ r3 = v ∧ r7 = .int .i64 k ∧ Hid (Mid w0 w wr g s) ∧ Hid (Kd.R k80 80 wr w.heap.size (fun k => w.heap.size ≤ k) v l) ∧ Hid (exsGo (n - k) l s = (ql, qs)))
    (fun _ _ _ r7 _ => n - (intOf r7).toNat)
  case atStart => exact ⟨0, _, [], s1, by omega, by simp, rfl, rfl, rfl, M1, Lib.hid (Kd.R_nil _ _ _ _ _), HRS⟩
  case round =>
    obtain ⟨k, v, l, s, hk, hl, rfl, rfl, rfl, M2, RO, HE⟩ := hrel
    by_cases hlt : k < n
    rotate_left
    · have hk0 : n - k = 0 := by omega
      have HE2 := HE.out
      rw [hk0] at HE2
      have e0 : (l, s) = (ql, qs) := HE2
      injection e0 with e1 e2
      subst e1 e2
      clear HE2 hk0
      obtain ⟨A, c, rfl, _⟩ := Kd.R_reads RO.out
      go_wp2
      go_ret
      exact ⟨_, rfl, RO.out, M2.out.rd, M2.out.low, M2.out.keep⟩
    obtain ⟨d, hd⟩ : ∃ d, n - k = d + 1 := ⟨n - k - 1, by omega⟩
    have HE2 : Hid ((if (exS s).2.err = 0 then exsGo d (l ++ [(exS s).1]) (exS s).2 else ([], (exS s).2)) = (ql, qs)) := Lib.hid (by
      have h := HE.out
      rw [hd] at h
      exact h)
    have HD : Hid (n - (k + 1) = d) := Lib.hid (by omega)
    clear HE hd
    obtain ⟨AO, cO, rfl, _⟩ := Kd.R_reads RO.out
    go_wp2_with fail
    refine (M2.out.call (fun hi hb => ctext w0 _ g s 32 (by omega) hi hb)).mono ?_
    rintro e w2 ⟨rfl, m3, k3⟩
    have RO2 := Lib.hid (Kd.R_keep RO.out k3 (fun k hk => by have := HG.out; omega))
    have M3 := Lib.hid m3
    clear m3 k3
    go_wp2_with fail
    refine (M3.out.call (fun hi hb => ccount w0 _ g _ 8 (by omega) hi hb)).mono ?_
    rintro e w3 ⟨rfl, m4, k4⟩
    have RO3 := Lib.hid (Kd.R_keep RO2.out k4 (fun k hk => by have := HG.out; omega))
    have M4 := Lib.hid m4
    clear m4 k4
    go_wp2_with fail
    refine (M4.out.call (fun hi hb => ccount w0 _ g _ 4096 (by omega) hi hb)).mono ?_
    rintro e w4 ⟨rfl, m5, k5⟩
    have RO4 := Lib.hid (Kd.R_keep RO3.out k5 (fun k hk => by have := HG.out; omega))
    have M5 := Lib.hid m5
    clear m5 k5
    go_wp2_with fail
    refine (M5.out.call (fun hi hb => cnumber w0 _ g _ hi hb)).mono ?_
    rintro e w5 ⟨rfl, m6, k6⟩
    have RO5 := Lib.hid (Kd.R_keep RO4.out k6 (fun k hk => by have := HG.out; omega))
    have M6 := Lib.hid m6
    clear m6 k6 RO RO2 RO3 RO4 M2 M3 M4 M5
    have hbd := countS_bd 16 (hd4 s) M6.out.rd.bytes
    obtain ⟨np, hnp⟩ : ∃ n : Nat, (countS 16 (hd4 s)).1 = (n : Int) := ⟨(countS 16 (hd4 s)).1.toNat, by omega⟩
    have hnp2 : np ≤ 16 := by omega
    have HX : Hid (exS s = (⟨(textS 32 s).1, (countS 8 (hd1 s)).1, (countS 4096 (hd2 s)).1, (numS (hd3 s)).1, (parsGo np [] (hd5 s)).1⟩, (parsGo np [] (hd5 s)).2)) := Lib.hid (by unfold exS; rw [hnp]; rfl)
    have e1 : (textS 32 s).2 = hd1 s := rfl
    have e2 : (countS 8 (hd1 s)).2 = hd2 s := rfl
    have e3 : (countS 4096 (hd2 s)).2 = hd3 s := rfl
    have e4 : (numS (hd3 s)).2 = hd4 s := rfl
    have e5 : (countS 16 (hd4 s)).2 = hd5 s := rfl
    rw [e1, e2, e3, e4] at M6
    rw [e1, e2, e3]
    clear hbd
    have C5 : Hid (∀ W, Mid w0 w W g (hd4 s) → Calls Try.prog 40 #[.pointer (some ⟨g, 0, none⟩), .int .i64 16] W fun e W' => e = .returned (.int .i64 np) ∧ Mid w0 w W' g (hd5 s) ∧ KeepBut W W' g none) := Lib.hid (fun W hm => by
      have := hm.call (fun hi hb => ccount w0 W g (hd4 s) 16 (by omega) hi hb)
      rwa [hnp, e5] at this)
    generalize (textS 32 s).1 = f0 at *
    generalize (countS 8 (hd1 s)).1 = f1 at *
    generalize (countS 4096 (hd2 s)).1 = f2 at *
    generalize (numS (hd3 s)).1 = f3 at *
    generalize exS s = x at *
    generalize hd5 s = t5 at *
    generalize hd4 s = t4 at *
    clear e1 e2 e3 e4 e5 hnp
    obtain ⟨T, hT⟩ : ∃ T, T = w5.heap.size := ⟨_, rfl⟩
    go_wp2_with fail
    rw [← hT]
    refine (C5.out _ (M6.out.alloc _)).mono ?_
    rintro e w6 ⟨rfl, m7, k7⟩
    have HTG : Hid (w.heap.size ≤ T) := Lib.hid (by have := M6.out.size; omega)
    have HT0 : Hid (w6.heap[T]? = some (.cells #[.string f0, .int .i64 f1, .int .i64 f2, .int .i32 f3, .slice none 0 0] 80 (0, 0))) := Lib.hid (k7.blk (by rw [hT]; exact heap_alloc_new _ _) (by have := HG.out; have := HTG.out; omega) (by simp))
    have RO6 : Hid (Kd.R k80 80 w6 w.heap.size (fun k => w.heap.size ≤ k ∧ k < T) (.slice AO l.length cO) l) := Lib.hid (Kd.R_keep (Kd.R_alloc (Kd.R_mono (Kd.R_bound RO5.out) (fun k hk => ⟨hk.1, by have := hk.2.2.1; omega⟩)) _) k7 (fun k hk => by have := HG.out; omega))
    have M7 := Lib.hid m7
    generalize hy : parsGo np [] t5 = y at HX
    have HY := Lib.hid hy
    obtain ⟨yp, ys⟩ := y
    clear m7 k7 hT RO5 M6 C5 hy
    obtain ⟨wo, rfl⟩ : ∃ wo : World, wo = wr := ⟨_, rfl⟩
    go_wp2
    go_loopw [20] (fun r20 wr => ∃ (j : Nat) (A4 : Option Addr) (c4 : Nat) (ps : List S119) (u : RS), j ≤ np ∧ ps.length ≤ j ∧ r20 = .int .i64 j ∧ Hid (Mid w0 w wr g u) ∧ Hid (wr.heap[T]? = some (.cells #[.string f0, .int .i64 f1, .int .i64 f2, .int .i32 f3, .slice A4 ps.length c4] 80 (0, 0))) ∧ Hid (Kd.R k119 119 wr w.heap.size (fun k => T < k) (.slice A4 ps.length c4) ps) ∧ Hid (Kd.R k80 80 wr w.heap.size (fun k => w.heap.size ≤ k ∧ k < T) (.slice AO l.length cO) l) ∧ Hid (parsGo (np - j) ps u = (yp, ys)))
      (fun r20 _ => np - (intOf r20).toNat)
    case atStart => exact ⟨0, none, 0, [], t5, by omega, by simp, rfl, M7, HT0, Lib.hid (Kd.R_nil _ _ _ _ _), RO6, HY⟩
    case round =>
      obtain ⟨j, A4, c4, ps, u, hj, hps, rfl, M8, HT8, RP, RO8, HPS⟩ := hrel
      clear M7 HT0 RO6 HY
      by_cases hjl : j < np
      · obtain ⟨dj, hdj⟩ : ∃ d, np - j = d + 1 := ⟨np - j - 1, by omega⟩
        have HP2 : Hid (parsGo dj (ps ++ [(parS u).1]) (parS u).2 = (yp, ys)) := Lib.hid (by
          have h := HPS.out
          rw [hdj] at h
          exact h)
        have HDJ : Hid (np - (j + 1) = dj) := Lib.hid (by omega)
        clear HPS hdj
        have c4x := blk_cell HT8.out 4
        simp only [List.getElem?_toArray, List.getElem?_cons_zero, List.getElem?_cons_succ] at c4x
        have HTNG : Hid (T ≠ g) := Lib.hid (by have := HG.out; have := HTG.out; omega)
        have ex : parS u = (⟨(countS 4096 u).1, (countS 1 (countS 4096 u).2).1 == 1⟩, (countS 1 (countS 4096 u).2).2) := rfl
        rw [ex] at HP2
        simp only at HP2
        have CA : Hid (∀ W, Mid w0 w W g u → Calls Try.prog 40 #[.pointer (some ⟨g, 0, none⟩), .int .i64 4096] W fun e W' => e = .returned (.int .i64 (countS 4096 u).1) ∧ Mid w0 w W' g (countS 4096 u).2 ∧ KeepBut W W' g none) := Lib.hid (fun W hm => hm.call (fun hi hb => ccount w0 W g u 4096 (by omega) hi hb))
        have CB : Hid (∀ W, Mid w0 w W g (countS 4096 u).2 → Calls Try.prog 40 #[.pointer (some ⟨g, 0, none⟩), .int .i64 1] W fun e W' => e = .returned (.int .i64 (countS 1 (countS 4096 u).2).1) ∧ Mid w0 w W' g (countS 1 (countS 4096 u).2).2 ∧ KeepBut W W' g none) := Lib.hid (fun W hm => hm.call (fun hi hb => ccount w0 W g _ 1 (by omega) hi hb))
        clear ex
        generalize (countS 1 (countS 4096 u).2).1 = pb at *
        generalize (countS 1 (countS 4096 u).2).2 = u2 at *
        generalize (countS 4096 u).1 = pa at *
        generalize (countS 4096 u).2 = u1 at *
        go_wp2
        go_region_law (first
          | (go_simp; go_at_call_of 40 (Value.int IntKind.i64 4096); refine (CA.out _ (by first | exact M8.out | exact M8.out.drew | exact M8.out.drawn _)).mono ?_; rintro e wa ⟨rfl, ma, ka⟩; have MA := Lib.hid ma; have TA := Lib.hid (ka.blk HT8.out HTNG.out (by simp)); have PA := Lib.hid (Kd.R_keep (w1 := wa) (by first | exact RP.out | exact Kd.R_drew RP.out) ka (fun k hk => by have := HG.out; have := HTG.out; omega)); have OA := Lib.hid (Kd.R_keep (w1 := wa) (by first | exact RO8.out | exact Kd.R_drew RO8.out) ka (fun k hk => by have := HG.out; omega)); have ca := blk_cell TA.out 4; simp only [List.getElem?_toArray, List.getElem?_cons_zero, List.getElem?_cons_succ] at ca; have la := blk_lt TA.out; clear ma ka)
          | (go_simp; go_at_call_of 40 (Value.int IntKind.i64 1); refine (CB.out _ (by first | exact MA.out | exact MA.out.drew | exact MA.out.drawn _)).mono ?_; rintro e wb ⟨rfl, mb, kb⟩; have MB := Lib.hid mb; have TB := Lib.hid (kb.blk TA.out HTNG.out (by simp)); have PB := Lib.hid (Kd.R_keep (w1 := wb) (by first | exact PA.out | exact Kd.R_drew PA.out) kb (fun k hk => by have := HG.out; have := HTG.out; omega)); have OB := Lib.hid (Kd.R_keep (w1 := wb) (by first | exact OA.out | exact Kd.R_drew OA.out) kb (fun k hk => by have := HG.out; omega)); have cb := blk_cell TB.out 4; simp only [List.getElem?_toArray, List.getElem?_cons_zero, List.getElem?_cons_succ] at cb; have lb := blk_lt TB.out; clear mb kb)
          | (refine Kd.R_append_step k119 w.heap.size (by rfl) (.tmp 23) (.tmp 30) 78 119 (.agg #[.int .i64 0, .bool false]) 16 rfl Try.underlying78 info119 rfl (by decide) (by decide) (.slice A4 ps.length c4) ps ⟨pa, pb == 1⟩ [.int .i64 pa, .bool (pb == 1)] (fun k => T < k) (fun _ => False) (by simp [Act.eval]) (by simp [Act.eval]) (k119_mkM _ _ _ ⟨pa, pb == 1⟩) (fun _ h => h.elim) (fun k hk => by have := blk_lt TB.out; omega) PB.out (Below.refl _ _) MB.out.size (by omega) ?_; intro v1 wc hown hbel hgrow hlie; have TC := Lib.hid (blk_grown TB.out hgrow (fun e => by have := PB.out.1 T e.symm; omega)); have MC := Lib.hid (MB.out.grown (fun k e => by have := PB.out.1 k e; have := HTG.out; omega) HG.out hgrow); have OC := Lib.hid (Kd.R_grown OB.out hgrow (fun k hk e => by have := PB.out.1 k e.symm; omega)); have PC := Lib.hid hown; obtain ⟨A5, c5, ev, _⟩ := Kd.R_reads hown; obtain ⟨m5, hm5⟩ : ∃ m, m = (ps ++ [(⟨pa, pb == 1⟩ : S119)]).length := ⟨_, rfl⟩; rw [← hm5] at ev; subst ev; have HM5 := Lib.hid hm5; have cc := blk_cell TC.out 4; simp only [List.getElem?_toArray, List.getElem?_cons_zero, List.getElem?_cons_succ] at cc; have zc := blk_frozen TC.out 4; clear hown hbel hgrow hlie hm5))
        all_goals
          go_wp2
          go_roundw
          case rel =>
            refine ⟨j + 1, A5, c5, ps ++ [⟨pa, pb == 1⟩], u2, by omega, by rw [List.length_append]; simp; omega, by go_num, Lib.hid (MC.out.set HTG.out HG.out _), Lib.hid ?_, Lib.hid ?_, Lib.hid (Kd.R_far OC.out (fun k hk => by show k ≠ T; omega) _), Lib.hid (by rw [HDJ.out]; exact HP2.out)⟩
            · rw [← HM5.out]; exact blk_put TC.out 4 _ rfl
            · rw [← HM5.out]; exact Kd.R_far PC.out (fun k hk => by show k ≠ T; omega) _
          case measure => simp [intOf]; omega
      · have hnj : np - j = 0 := by omega
        have HP2 := HPS.out
        rw [hnj] at HP2
        have e0 : (ps, u) = (yp, ys) := HP2
        injection e0 with e1 e2
        subst e1 e2
        clear HPS HP2 hnj
        have ce : Hid (∀ W, Mid w0 w W g u → Calls Try.prog 31 #[.pointer (some ⟨g, 0, none⟩)] W fun e W' => e = .returned (.int .i64 u.err) ∧ Mid w0 w W' g u ∧ KeepBut W W' g none) := Lib.hid (fun W hm => hm.call (fun hi hb => cerr w0 W g u hi hb))
        have HTNG : Hid (T ≠ g) := Lib.hid (by have := HG.out; have := HTG.out; omega)
        by_cases hue : u.err = 0
        · have HE3 : Hid (exsGo (n - (k + 1)) (l ++ [x.1]) u = (ql, qs)) := Lib.hid (by
            have h := HE2.out
            rw [HX.out] at h
            simp only at h
            rw [if_pos hue] at h
            rw [HD.out, HX.out]
            exact h)
          have hu2 : (u.err != 0) = false := by rw [hue]; rfl
          clear hue
          go_wp2_with fail
          refine (ce.out _ M8.out).mono ?_
          rintro e wd ⟨rfl, md, kd⟩
          have MD := Lib.hid md
          have TD := Lib.hid (kd.blk HT8.out HTNG.out (by simp))
          have PD := Lib.hid (Kd.R_keep RP.out kd (fun k hk => by have := HG.out; have := HTG.out; omega))
          have OD := Lib.hid (Kd.R_keep RO8.out kd (fun k hk => by have := HG.out; omega))
          have LD := blk_lt TD.out
          have q0 := blk_cell TD.out 0
          have q1 := blk_cell TD.out 1
          have q2 := blk_cell TD.out 2
          have q3 := blk_cell TD.out 3
          have q4 := blk_cell TD.out 4
          simp only [List.getElem?_toArray, List.getElem?_cons_zero, List.getElem?_cons_succ] at q0 q1 q2 q3 q4
          have OD' := Lib.hid (Kd.R_mono OD.out (fun k hk => hk.1))
          have hokp : Hid (∀ k, T < k → w.heap.size ≤ k ∧ some k ≠ (Value.slice AO l.length cO).ownBlock) := Lib.hid (fun k hk => ⟨by have := HTG.out; omega, fun e => by have := (OD.out.1 k e.symm).2; omega⟩)
          clear md kd
          go_wp2_with (at_builtin; go_must (refine Kd.R_append k80 w.heap.size rfl _ _ 35 80 (.agg #[.string ⟨#[]⟩, .int .i64 0, .int .i64 0, .int .i32 0, .slice none 0 0]) 64 rfl Try.underlying35 info80 rfl (by decide) (by decide) (.slice AO l.length cO) l ⟨f0, f1, f2, f3, ps⟩ [.string f0, .int .i64 f1, .int .i64 f2, .int .i32 f3, .slice A4 ps.length c4] (fun k => w.heap.size ≤ k) (fun k => T < k) rfl rfl (k80_mkM _ _ _ ⟨f0, f1, f2, f3, ps⟩ PD.out) hokp.out (fun k hk => Nat.le_trans MD.out.size hk) OD'.out (Below.refl _ _) MD.out.size (by omega) ?_; intro v1 we hown hbel hgrow hlie; have ME := Lib.hid (MD.out.grown (fun k e => by have := OD.out.1 k e; omega) HG.out hgrow); have OE := Lib.hid hown; clear hown hbel hgrow hlie))
          go_roundw
          case rel =>
            refine ⟨k + 1, v1, l ++ [⟨f0, f1, f2, f3, ps⟩], u, by omega, by rw [List.length_append]; simp; omega, rfl, rfl, by go_num, ME, OE, Lib.hid ?_⟩
            have h := HE3.out
            rw [HX.out] at h
            exact h
          case measure => simp [intOf]; omega
        · have HE3 : ([], u) = (ql, qs) := by
            have h := HE2.out
            rw [HX.out] at h
            simp only at h
            rwa [if_neg hue] at h
          injection HE3 with e1 e2
          subst e1 e2
          have hu2 : (u.err != 0) = true := bne_iff_ne.2 hue
          clear hue
          go_wp2_with fail
          refine (ce.out _ M8.out).mono ?_
          rintro e wd ⟨rfl, md, kd⟩
          have MD := Lib.hid md
          clear md kd
          go_wp2
          go_ret
          exact ⟨_, rfl, Kd.R_nil _ _ _ _ _, MD.out.rd, MD.out.low, MD.out.keep⟩
end Go.Proofs.Ytehdhmhpmkkneaa

/- Layer 13: the document's Take in plain words; what its calls leave. -/
namespace Go.Proofs.Ytehdhmhpmkkneaa
open Go.RowKit Go.Proofs.YtehdhmhpmkkneaaW.PrintWords Go.Proofs.YtehdhmhpmkkneaaW.PrintMore Go.Proofs.Ytehdhmhpmkkneaa.PAll

theorem cntGo_bytes : ∀ (xs : List Int) (j : Nat) (n : Int), AllB xs → AllB (cntGo xs j n).2.xs
  | [], _, _, _ => fun x hx => (by cases hx)
  | b :: r, j, n, h => by
    have hr : AllB r := fun x hx => h x (by simp [hx])
    unfold cntGo
    split
    · exact hr
    · split
      · exact hr
      · exact cntGo_bytes r _ _ hr
theorem countS_bytes (m : Int) {s : RS} (h : AllB s.xs) : AllB (countS m s).2.xs := by
  have hc := cntGo_bytes s.xs 0 0 h
  unfold countS
  split
  · unfold fin
    split
    · split
      · exact hc
      · exact hc
    · exact hc
  · exact h

/-- The document's loop: it stops where something was wrong. -/
def takeGo : Nat → List S80 → RS → List S80 × RS
  | 0, l, s => (l, s)
  | k + 1, l, s => if s.err = 0 then takeGo k (l ++ [(exS s).1]) (exS s).2 else (l, s)
theorem takeGo_stop : ∀ (k : Nat) (l : List S80) (s : RS), s.err ≠ 0 → takeGo k l s = (l, s)
  | 0, _, _, _ => rfl
  | k + 1, l, s, h => by rw [takeGo, if_neg h]
theorem exs_take : ∀ (k : Nat) (l : List S80) (s : RS), s.err = 0 → exsGo k l s = (if (takeGo k l s).2.err = 0 then (takeGo k l s).1 else [], (takeGo k l s).2)
  | 0, l, s, h => by
    show (l, s) = (if s.err = 0 then l else [], s)
    rw [if_pos h]
  | k + 1, l, s, h => by
    rw [exsGo, takeGo, if_pos h]
    by_cases he : (exS s).2.err = 0
    · rw [if_pos he, exs_take k _ _ he]
    · rw [if_neg he, takeGo_stop k _ _ he]
      simp only [if_neg he]
/-- What the document answers. -/
theorem readS_take (s : RS) : readS s = (if (takeGo (countS 4096 s).1.toNat [] (countS 4096 s).2).2.err = 0 then (takeGo (countS 4096 s).1.toNat [] (countS 4096 s).2).1 else [], (takeGo (countS 4096 s).1.toNat [] (countS 4096 s).2).2) := by
  unfold readS
  by_cases h : (countS 4096 s).2.err = 0
  · exact exs_take _ _ _ h
  · have := countS_err 4096 s h
    rw [this]
    simp only [Int.toNat_zero, exsGo, takeGo, if_neg h]

/-- The world of Take: the reader's box, the cell of the result. -/
structure Vm (w0 w W : World) (R : Nat) (A : Option Addr) (n c : Nat) (s : RS) : Prop where
  box : W.heap[R]? = some (.cells #[.slice A n c, .int .i64 s.err] 48 (0, 0))
  iv : IsV w0 (.agg #[.slice A n c, .int .i64 s.err]) s
  res : W.heap[R + 1]? = some (.cells #[.slice none 0 0, .int .i64 0] 48 (0, 0))
  low : Below w.heap.size w W
  base : w.heap.size ≤ R
theorem Vm.below {w0 w W W' : World} {R : Nat} {A : Option Addr} {n c : Nat} {s : RS} (h : Vm w0 w W R A n c s) (b : Below W.heap.size W W') : Vm w0 w W' R A n c s :=
  ⟨blk_below h.box b, h.iv, blk_below h.res b, h.low.trans (b.mono h.low.size), h.base⟩
theorem Vm.alloc {w0 w W : World} {R : Nat} {A : Option Addr} {n c : Nat} {s : RS} (h : Vm w0 w W R A n c s) (o : Obj) : Vm w0 w (W.alloc o) R A n c s := h.below (b1 W o)
theorem Vm.set {w0 w W : World} {R : Nat} {A : Option Addr} {n c : Nat} {s : RS} (h : Vm w0 w W R A n c s) {b : Nat} (hb : R + 1 < b) (j : Nat) (u : Value) : Vm w0 w (W.setCell ⟨b, j, none⟩ u) R A n c s :=
  ⟨blk_far h.box (by show R ≠ b; omega) _, h.iv, blk_far h.res (by show R + 1 ≠ b; omega) _, h.low.setCell (by show w.heap.size ≤ b; have := h.base; omega) _, h.base⟩
theorem Vm.grown {w0 w W W' : World} {R : Nat} {A : Option Addr} {n c : Nat} {s : RS} (h : Vm w0 w W R A n c s) {r : Option Nat} (hr : ∀ k, r = some k → R + 1 < k) (hw : W.grownBy W' r) : Vm w0 w W' R A n c s :=
  ⟨blk_grown h.box hw (fun e => by have := hr R e.symm; omega), h.iv, blk_grown h.res hw (fun e => by have := hr _ e.symm; omega), h.low.grown hw h.low.size (fun k e => by have := hr k e; have := h.base; omega), h.base⟩
/-- A call handed the reader back, and it is stored into its box. -/
theorem Vm.put {w0 w W : World} {R : Nat} {A A' : Option Addr} {n c n' c' : Nat} {s s' : RS} (h : Vm w0 w W R A n c s) (iv : IsV w0 (.agg #[.slice A' n' c', .int .i64 s'.err]) s') :
    Vm w0 w ((W.setCell ⟨R, 0, none⟩ (.slice A' n' c')).setCell ⟨R, 1, none⟩ (.int .i64 s'.err)) R A' n' c' s' :=
  ⟨blk_put (blk_put h.box 0 _ rfl) 1 _ rfl, iv, blk_far (blk_far h.res (by simp) _) (by simp) _, set2 h.low h.base _ _, h.base⟩
/-- Another block behind those two stores. -/
theorem two_far {W : World} {R b : Nat} {o : Array Value} {t : TypeId} (h : W.heap[b]? = some (.cells o t (0, 0))) (hb : R + 1 < b) (u v : Value) :
    ((W.setCell ⟨R, 0, none⟩ u).setCell ⟨R, 1, none⟩ v).heap[b]? = some (.cells o t (0, 0)) :=
  blk_far (blk_far h (by show b ≠ R; omega) _) (by show b ≠ R; omega) _
theorem two_R {α : Type} {d : Kd α} {e : Nat} {W : World} {base R : Nat} {ok : Nat → Prop} {x : Value} {l : List α} (h : Kd.R d e W base ok x l) (hk : ∀ k, ok k → R + 1 < k) (u v : Value) :
    Kd.R d e ((W.setCell ⟨R, 0, none⟩ u).setCell ⟨R, 1, none⟩ v) base ok x l :=
  Kd.R_far (Kd.R_far h (fun k o => by have := hk k o; show k ≠ R; omega) _) (fun k o => by have := hk k o; show k ≠ R; omega) _
end Go.Proofs.Ytehdhmhpmkkneaa

/- Layer 13: the walk of the document's Take. -/
namespace Go.Proofs.Ytehdhmhpmkkneaa
open Go.RowKit Go.Proofs.YtehdhmhpmkkneaaW.PrintWords Go.Proofs.YtehdhmhpmkkneaaW.PrintMore Go.Proofs.Ytehdhmhpmkkneaa.PAll

theorem textS_bytes (m : Int) {s : RS} (h : AllB s.xs) : AllB (textS m s).2.xs := by
  have hc := countS_bytes m h
  unfold textS
  split
  · split
    · exact hc
    · exact fun x hx => hc x (List.mem_of_mem_drop hx)
  · exact hc
theorem hd4_bytes {s : RS} (h : AllB s.xs) : AllB (hd4 s).xs := countS_bytes 4294967295 (countS_bytes 4096 (countS_bytes 8 (textS_bytes 32 h)))

/-- Behind Take: the reader, and the list in new rows. -/
def TakePost (w0 w : World) (l : List S80) (s : RS) (e : Ending) (w' : World) : Prop :=
  ∃ v' v, e = .returned (.tuple #[v', v]) ∧ IsV w0 v' s ∧ Kd.R k80 80 w' w.heap.size (fun k => w.heap.size ≤ k) v l ∧ Below w.heap.size w w'

/-- A call of the reader in Take's world. -/
theorem Vm.call {w0 w W : World} {R : Nat} {A : Option Addr} {n c : Nat} {s s' : RS} {i : Nat} {args : Array Value} {u : Value} (h : Vm w0 w W R A n c s)
    (hc : Calls Try.prog i args W (VPost w0 W s' u)) :
    Calls Try.prog i args W fun e W' => ∃ A' n' c', e = .returned (.tuple #[.agg #[.slice A' n' c', .int .i64 s'.err], u]) ∧ IsV w0 (.agg #[.slice A' n' c', .int .i64 s'.err]) s' ∧ Below W.heap.size W W' ∧ Vm w0 w W' R A n c s := by
  refine hc.mono ?_
  rintro e W' ⟨v', rfl, iv, bw⟩
  obtain ⟨A', n', c', rfl, _⟩ := id iv
  exact ⟨A', n', c', rfl, iv, bw, h.below bw⟩

set_option maxHeartbeats 8000000 in
set_option maxRecDepth 100000 in
theorem vtake (w0 w : World) (v : Value) (s : RS) (h : IsV w0 v s) (hb : Below w0.heap.size w0 w) :
    Calls Try.prog 30 #[v] w (TakePost w0 w (readS s).1 (readS s).2) := by
  have HB := Lib.hid hb
  have HS := Lib.hid hb.size
  have hbd := countS_bd 4096 s h.bytes
  obtain ⟨m, hm⟩ : ∃ n : Nat, (countS 4096 s).1 = (n : Int) := ⟨(countS 4096 s).1.toNat, by omega⟩
  have hm2 : m ≤ 4096 := by omega
  have HRS : Hid (((if (takeGo m [] (countS 4096 s).2).2.err = 0 then (takeGo m [] (countS 4096 s).2).1 else []), (takeGo m [] (countS 4096 s).2).2) = readS s) := Lib.hid (by rw [readS_take, hm]; rfl)
  have C0 : Hid (∀ W, Below w0.heap.size w0 W → Calls Try.prog 83 #[v, .int .i64 4096] W (VPost w0 W (countS 4096 s).2 (.int .i64 m))) := Lib.hid (fun W hB => by
    have := vcount w0 W v s 4096 (by omega) h hB
    rwa [hm] at this)
  have V0 := Lib.hid h
  obtain ⟨A, n, c, rfl, _, _⟩ := h
  clear hb hbd hm
  generalize (countS 4096 s).2 = s1 at *
  generalize readS s = q at *
  obtain ⟨ql, qs⟩ := q
  simp only
  obtain ⟨R, hR⟩ : ∃ r, r = w.heap.size := ⟨_, rfl⟩
  have HR := Lib.hid hR
  have x1 : ((w.alloc (.cells #[.slice A n c, .int .i64 s.err] 48)).alloc (.cells #[.slice none 0 0, .int .i64 0] 48)).heap[R]? = some (.cells #[.slice A n c, .int .i64 s.err] 48 (0, 0)) := by
    rw [hR]; exact blk_below (heap_alloc_new w _) (b1 _ _)
  have x2 : ((w.alloc (.cells #[.slice A n c, .int .i64 s.err] 48)).alloc (.cells #[.slice none 0 0, .int .i64 0] 48)).heap[R + 1]? = some (.cells #[.slice none 0 0, .int .i64 0] 48 (0, 0)) := by
    rw [hR]; exact boxed w _ _
  have VM : Hid (Vm w0 w ((w.alloc (.cells #[.slice A n c, .int .i64 s.err] 48)).alloc (.cells #[.slice none 0 0, .int .i64 0] 48)) R A n c s) := Lib.hid ⟨x1, V0.out, x2, b2 _ _ _, by omega⟩
  clear x1 x2
  go_enter Try.func30, Try.ntmps30
  go_wp2_with fail
  rw [← hR]
  clear hR
  refine (VM.out.call (C0.out _ (HB.out.trans (VM.out.low.mono HS.out)))).mono ?_
  rintro e w1 ⟨A1, n1, c1, rfl, iv, _, vm⟩
  have VM1 := Lib.hid (vm.put iv)
  have c0 := blk_cell vm.box 0
  have c1x := blk_cell vm.box 1
  have z0 := blk_frozen vm.box 0
  have z1 := blk_frozen vm.box 1
  simp only [List.getElem?_toArray, List.getElem?_cons_zero, List.getElem?_cons_succ] at c0 c1x
  clear iv vm VM C0 V0
  generalize hyy : takeGo m [] s1 = y at HRS
  have HY := Lib.hid hyy
  obtain ⟨yl, ys⟩ := y
  simp only at HRS
  clear hyy
  have RO1 : Hid (Kd.R k80 80 ((w1.setCell ⟨R, 0, none⟩ (.slice A1 n1 c1)).setCell ⟨R, 1, none⟩ (.int .i64 s1.err)) w.heap.size (fun x => R + 1 < x) (.slice none 0 0) []) := Lib.hid (Kd.R_nil _ _ _ _ _)
  go_wp2
  go_loopw [5, 6, 7, 8, 9, 10, 11] (fun r5 r6 _ _ _ _ _ wr => ∃ (k : Nat) (A : Option Addr) (n c : Nat) (l : List S80) (s : RS) (v : Value), k ≤ m ∧ l.length ≤ k ∧ r5 = v ∧ r6 = .int .i64 k ∧ Hid (Vm w0 w wr R A n c s) ∧ Hid (Kd.R k80 80 wr w.heap.size (fun x => R + 1 < x) v l) ∧ Hid (takeGo (m - k) l s = (yl, ys)))
    (fun _ r6 _ _ _ _ _ _ => m - (intOf r6).toNat)
  case atStart => exact ⟨0, A1, n1, c1, [], s1, _, by omega, by simp, rfl, rfl, VM1, RO1, HY⟩
  case round =>
    obtain ⟨k, A2, n2, c2, l, s2, v, hk, hl, rfl, rfl, VM, RO, HE⟩ := hrel
    have VX := VM.out.box
    have vc1 := blk_cell VX 1
    have vc0 := blk_cell VX 0
    simp only [List.getElem?_toArray, List.getElem?_cons_zero, List.getElem?_cons_succ] at vc0 vc1
    by_cases hgo : k < m ∧ s2.err = 0
    rotate_left
    · have HF : (l, s2) = (yl, ys) := by
        by_cases hkm : k < m
        · rw [← HE.out, takeGo_stop _ _ _ (fun e => hgo ⟨hkm, e⟩)]
        · have h0 : m - k = 0 := by omega
          rw [← HE.out, h0]
          rfl
      injection HF with e1 e2
      subst e1 e2
      by_cases hse : s2.err = 0
      · have e1 : (l, s2) = (ql, qs) := by have h := HRS.out; rwa [if_pos hse] at h
        injection e1 with e2 e3
        subst e2 e3
        have hkm : ¬ k < m := fun h => hgo ⟨h, hse⟩
        have hs0 := hse
        have hse' : (s2.err != 0) = false := by rw [hse]; rfl
        clear hgo hse
        have yc0 := blk_cell VM.out.res 0
        have yc1 := blk_cell VM.out.res 1
        have yz0 := blk_frozen VM.out.res 0
        have yz1 := blk_frozen VM.out.res 1
        simp only [List.getElem?_toArray, List.getElem?_cons_zero, List.getElem?_cons_succ] at yc0 yc1
        obtain ⟨AO, cO, rfl, _⟩ := Kd.R_reads RO.out
        go_wp2
        refine bodyPost_ret (results_ct rfl _ _ (R + 1) 48 #[.slice A2 n2 c2, .int .i64 0] (0, 0) _ rfl (blk_put (blk_put VM.out.res 0 _ rfl) 1 _ rfl) Try.underlying48 rfl (by kernel_rfl)) rfl ?_
        exact ⟨_, _, rfl, by have := VM.out.iv; rwa [hs0] at this, Kd.R_mono (Kd.R_far (Kd.R_far RO.out (fun x hx => by show x ≠ R + 1; omega) _) (fun x hx => by show x ≠ R + 1; omega) _) (fun x hx => by have := VM.out.base; omega), set2 VM.out.low (by have := VM.out.base; omega) _ _⟩
      · have e1 : ([], s2) = (ql, qs) := by have h := HRS.out; rwa [if_neg hse] at h
        injection e1 with e2 e3
        subst e2 e3
        have hse' : (s2.err != 0) = true := bne_iff_ne.2 hse
        have hse2 : (s2.err == 0) = false := beq_eq_false_iff_ne.2 hse
        clear hgo hse
        by_cases hkm : k < m
        · skip
          have yc0 := blk_cell VM.out.res 0
          have yc1 := blk_cell VM.out.res 1
          have yz0 := blk_frozen VM.out.res 0
          have yz1 := blk_frozen VM.out.res 1
          simp only [List.getElem?_toArray, List.getElem?_cons_zero, List.getElem?_cons_succ] at yc0 yc1
          go_wp2
          refine bodyPost_ret (results_ct rfl _ _ (R + 1) 48 #[.slice A2 n2 c2, .int .i64 s2.err] (0, 0) _ rfl (blk_put (blk_put VM.out.res 0 _ rfl) 1 _ rfl) Try.underlying48 rfl (by kernel_rfl)) rfl ?_
          exact ⟨_, _, rfl, VM.out.iv, Kd.R_nil _ _ _ _ _, set2 VM.out.low (by have := VM.out.base; omega) _ _⟩
        · skip
          have yc0 := blk_cell VM.out.res 0
          have yc1 := blk_cell VM.out.res 1
          have yz0 := blk_frozen VM.out.res 0
          have yz1 := blk_frozen VM.out.res 1
          simp only [List.getElem?_toArray, List.getElem?_cons_zero, List.getElem?_cons_succ] at yc0 yc1
          go_wp2
          refine bodyPost_ret (results_ct rfl _ _ (R + 1) 48 #[.slice A2 n2 c2, .int .i64 s2.err] (0, 0) _ rfl (blk_put (blk_put VM.out.res 0 _ rfl) 1 _ rfl) Try.underlying48 rfl (by kernel_rfl)) rfl ?_
          exact ⟨_, _, rfl, VM.out.iv, Kd.R_nil _ _ _ _ _, set2 VM.out.low (by have := VM.out.base; omega) _ _⟩
    obtain ⟨hkm, hse⟩ := hgo
    obtain ⟨d, hd⟩ : ∃ d, m - k = d + 1 := ⟨m - k - 1, by omega⟩
    have HE2 : Hid (takeGo d (l ++ [(exS s2).1]) (exS s2).2 = (yl, ys)) := Lib.hid (by
      have h := HE.out
      rw [hd, takeGo, if_pos hse] at h
      exact h)
    have HD : Hid (m - (k + 1) = d) := Lib.hid (by omega)
    have hse' : (s2.err == 0) = true := beq_iff_eq.2 hse
    have HSE := Lib.hid hse
    clear HE hd hse VX
    obtain ⟨AO, cO, rfl, _⟩ := Kd.R_reads RO.out
    obtain ⟨T, hT⟩ : ∃ T, T = wr.heap.size := ⟨_, rfl⟩
    have HTR : Hid (R + 1 < T) := Lib.hid (by have := blk_lt VM.out.res; omega)
    have LR := blk_lt VM.out.box
    have r1 : R ≠ T := by have := HTR.out; omega
    have r2 : T ≠ R := by have := HTR.out; omega
    have VMa := Lib.hid (VM.out.alloc (.cells #[.string ⟨#[]⟩, .int .i64 0, .int .i64 0, .int .i32 0, .slice none 0 0] 80))
    have TTa : Hid ((wr.alloc (.cells #[.string ⟨#[]⟩, .int .i64 0, .int .i64 0, .int .i32 0, .slice none 0 0] 80)).heap[T]? = some (.cells #[.string ⟨#[]⟩, .int .i64 0, .int .i64 0, .int .i32 0, .slice none 0 0] 80 (0, 0))) := Lib.hid (by rw [hT]; exact heap_alloc_new _ _)
    have ROa : Hid (Kd.R k80 80 (wr.alloc (.cells #[.string ⟨#[]⟩, .int .i64 0, .int .i64 0, .int .i32 0, .slice none 0 0] 80)) w.heap.size (fun x => R + 1 < x ∧ x < T) (.slice AO l.length cO) l) := Lib.hid (Kd.R_alloc (Kd.R_mono (Kd.R_bound RO.out) (fun x hx => ⟨hx.1, by have := hx.2.2.1; omega⟩)) _)
    have hbd := countS_bd 16 (hd4 s2) (by
      have h1 := VM.out.iv
      exact hd4_bytes h1.bytes)
    obtain ⟨np, hnp⟩ : ∃ n : Nat, (countS 16 (hd4 s2)).1 = (n : Int) := ⟨(countS 16 (hd4 s2)).1.toNat, by omega⟩
    have hnp2 : np ≤ 16 := by omega
    have HX : Hid (exS s2 = (⟨(textS 32 s2).1, (countS 8 (hd1 s2)).1, (countS 4096 (hd2 s2)).1, (numS (hd3 s2)).1, (parsGo np [] (hd5 s2)).1⟩, (parsGo np [] (hd5 s2)).2)) := Lib.hid (by unfold exS; rw [hnp]; rfl)
    have K1 : Hid (∀ v W, IsV w0 v s2 → Below w0.heap.size w0 W → Calls Try.prog 84 #[v, .int .i64 32] W (VPost w0 W (hd1 s2) (.string (textS 32 s2).1))) := Lib.hid (fun v W hi hB => vtext w0 W v s2 32 (by omega) hi hB)
    have K2 : Hid (∀ v W, IsV w0 v (hd1 s2) → Below w0.heap.size w0 W → Calls Try.prog 83 #[v, .int .i64 8] W (VPost w0 W (hd2 s2) (.int .i64 (countS 8 (hd1 s2)).1))) := Lib.hid (fun v W hi hB => vcount w0 W v _ 8 (by omega) hi hB)
    have K3 : Hid (∀ v W, IsV w0 v (hd2 s2) → Below w0.heap.size w0 W → Calls Try.prog 83 #[v, .int .i64 4096] W (VPost w0 W (hd3 s2) (.int .i64 (countS 4096 (hd2 s2)).1))) := Lib.hid (fun v W hi hB => vcount w0 W v _ 4096 (by omega) hi hB)
    have K4 : Hid (∀ v W, IsV w0 v (hd3 s2) → Below w0.heap.size w0 W → Calls Try.prog 85 #[v] W (VPost w0 W (hd4 s2) (.int .i32 (numS (hd3 s2)).1))) := Lib.hid (fun v W hi hB => vnumber w0 W v _ hi hB)
    have K5 : Hid (∀ v W, IsV w0 v (hd4 s2) → Below w0.heap.size w0 W → Calls Try.prog 83 #[v, .int .i64 16] W (VPost w0 W (hd5 s2) (.int .i64 np))) := Lib.hid (fun v W hi hB => by
      have := vcount w0 W v (hd4 s2) 16 (by omega) hi hB
      rwa [hnp] at this)
    generalize (textS 32 s2).1 = f0 at *
    generalize (countS 8 (hd1 s2)).1 = f1 at *
    generalize (countS 4096 (hd2 s2)).1 = f2 at *
    generalize (numS (hd3 s2)).1 = f3 at *
    generalize exS s2 = x at *
    generalize hd5 s2 = t5 at *
    generalize hd4 s2 = t4 at *
    generalize hd3 s2 = t3 at *
    generalize hd2 s2 = t2 at *
    generalize hd1 s2 = t1 at *
    generalize hy : parsGo np [] t5 = yy at HX
    have HYP := Lib.hid hy
    obtain ⟨yp, yu⟩ := yy
    clear hbd hnp hy RO
    go_wp2_with fail
    rw [← hT]
    clear hT VM
    refine (VMa.out.call (K1.out _ _ VMa.out.iv (HB.out.trans (VMa.out.low.mono HS.out)))).mono ?_
    rintro e w5 ⟨Ax, nx, cx, rfl, iv, bw, vm⟩
    have c0 := blk_cell vm.box 0
    have c1 := blk_cell vm.box 1
    have z0 := blk_frozen vm.box 0
    have z1 := blk_frozen vm.box 1
    simp only [List.getElem?_toArray, List.getElem?_cons_zero, List.getElem?_cons_succ] at c0 c1
    have tt := blk_below TTa.out bw
    have q0 := blk_cell tt 0
    have y0 := blk_frozen tt 0
    simp only [List.getElem?_toArray, List.getElem?_cons_zero] at q0
    have VMx := Lib.hid ((vm.put iv).set HTR.out 0 (.string f0))
    have TTx := Lib.hid (blk_put (two_far tt HTR.out (.slice Ax nx cx) (.int .i64 t1.err)) 0 (.string f0) (cs' := #[.string f0, .int .i64 0, .int .i64 0, .int .i32 0, .slice none 0 0]) rfl)
    have ROx := Lib.hid (Kd.R_far (p := ⟨T, 0, none⟩) (two_R (Kd.R_below ROa.out bw) (fun k hk => hk.1) (.slice Ax nx cx) (.int .i64 t1.err)) (fun x hx => by show x ≠ T; omega) (.string f0))
    clear iv bw vm tt VMa TTa ROa K1
    go_wp2_with fail
    refine (VMx.out.call (K2.out _ _ VMx.out.iv (HB.out.trans (VMx.out.low.mono HS.out)))).mono ?_
    rintro e w6 ⟨Ay, ny, cy, rfl, iv, bw, vm⟩
    have c0 := blk_cell vm.box 0
    have c1 := blk_cell vm.box 1
    have z0 := blk_frozen vm.box 0
    have z1 := blk_frozen vm.box 1
    simp only [List.getElem?_toArray, List.getElem?_cons_zero, List.getElem?_cons_succ] at c0 c1
    have tt := blk_below TTx.out bw
    have q0 := blk_cell tt 1
    have y0 := blk_frozen tt 1
    simp only [List.getElem?_toArray, List.getElem?_cons_zero, List.getElem?_cons_succ] at q0
    have VMy := Lib.hid ((vm.put iv).set HTR.out 1 (.int .i64 f1))
    have TTy := Lib.hid (blk_put (two_far tt HTR.out (.slice Ay ny cy) (.int .i64 t2.err)) 1 (.int .i64 f1) (cs' := #[.string f0, .int .i64 f1, .int .i64 0, .int .i32 0, .slice none 0 0]) rfl)
    have ROy := Lib.hid (Kd.R_far (p := ⟨T, 1, none⟩) (two_R (Kd.R_below ROx.out bw) (fun k hk => hk.1) (.slice Ay ny cy) (.int .i64 t2.err)) (fun x hx => by show x ≠ T; omega) (.int .i64 f1))
    clear iv bw vm tt VMx TTx ROx K2
    go_wp2_with fail
    refine (VMy.out.call (K3.out _ _ VMy.out.iv (HB.out.trans (VMy.out.low.mono HS.out)))).mono ?_
    rintro e w7 ⟨Az, nz, cz, rfl, iv, bw, vm⟩
    have c0 := blk_cell vm.box 0
    have c1 := blk_cell vm.box 1
    have z0 := blk_frozen vm.box 0
    have z1 := blk_frozen vm.box 1
    simp only [List.getElem?_toArray, List.getElem?_cons_zero, List.getElem?_cons_succ] at c0 c1
    have tt := blk_below TTy.out bw
    have q0 := blk_cell tt 2
    have y0 := blk_frozen tt 2
    simp only [List.getElem?_toArray, List.getElem?_cons_zero, List.getElem?_cons_succ] at q0
    have VMz := Lib.hid ((vm.put iv).set HTR.out 2 (.int .i64 f2))
    have TTz := Lib.hid (blk_put (two_far tt HTR.out (.slice Az nz cz) (.int .i64 t3.err)) 2 (.int .i64 f2) (cs' := #[.string f0, .int .i64 f1, .int .i64 f2, .int .i32 0, .slice none 0 0]) rfl)
    have ROz := Lib.hid (Kd.R_far (p := ⟨T, 2, none⟩) (two_R (Kd.R_below ROy.out bw) (fun k hk => hk.1) (.slice Az nz cz) (.int .i64 t3.err)) (fun x hx => by show x ≠ T; omega) (.int .i64 f2))
    clear iv bw vm tt VMy TTy ROy K3
    go_wp2_with fail
    refine (VMz.out.call (K4.out _ _ VMz.out.iv (HB.out.trans (VMz.out.low.mono HS.out)))).mono ?_
    rintro e w8 ⟨Au, nu, cu, rfl, iv, bw, vm⟩
    have c0 := blk_cell vm.box 0
    have c1 := blk_cell vm.box 1
    have z0 := blk_frozen vm.box 0
    have z1 := blk_frozen vm.box 1
    simp only [List.getElem?_toArray, List.getElem?_cons_zero, List.getElem?_cons_succ] at c0 c1
    have tt := blk_below TTz.out bw
    have q0 := blk_cell tt 3
    have y0 := blk_frozen tt 3
    simp only [List.getElem?_toArray, List.getElem?_cons_zero, List.getElem?_cons_succ] at q0
    have VMu := Lib.hid ((vm.put iv).set HTR.out 3 (.int .i32 f3))
    have TTu := Lib.hid (blk_put (two_far tt HTR.out (.slice Au nu cu) (.int .i64 t4.err)) 3 (.int .i32 f3) (cs' := #[.string f0, .int .i64 f1, .int .i64 f2, .int .i32 f3, .slice none 0 0]) rfl)
    have ROu := Lib.hid (Kd.R_far (p := ⟨T, 3, none⟩) (two_R (Kd.R_below ROz.out bw) (fun k hk => hk.1) (.slice Au nu cu) (.int .i64 t4.err)) (fun x hx => by show x ≠ T; omega) (.int .i32 f3))
    clear iv bw vm tt VMz TTz ROz K4
    go_wp2_with fail
    refine (VMu.out.call (K5.out _ _ VMu.out.iv (HB.out.trans (VMu.out.low.mono HS.out)))).mono ?_
    rintro e w9 ⟨Ao, no, co, rfl, iv, bw, vm⟩
    have c0 := blk_cell vm.box 0
    have c1 := blk_cell vm.box 1
    have z0 := blk_frozen vm.box 0
    have z1 := blk_frozen vm.box 1
    simp only [List.getElem?_toArray, List.getElem?_cons_zero, List.getElem?_cons_succ] at c0 c1
    have tt := blk_below TTu.out bw
    have VMo := Lib.hid (vm.put iv)
    have TTo := Lib.hid (two_far tt HTR.out (.slice Ao no co) (.int .i64 t5.err))
    have ROo := Lib.hid (two_R (Kd.R_below ROu.out bw) (fun k hk => hk.1) (.slice Ao no co) (.int .i64 t5.err))
    clear iv bw vm tt VMu TTu ROu K5
    obtain ⟨wo, rfl⟩ : ∃ wo : World, wo = wr := ⟨_, rfl⟩
    go_wp2
    go_loopw [9, 10, 11] (fun _ r10 _ wr => ∃ (j : Nat) (A : Option Addr) (n c : Nat) (A4 : Option Addr) (c4 : Nat) (ps : List S119) (u : RS), j ≤ np ∧ ps.length ≤ j ∧ r10 = .int .i64 j ∧ Hid (Vm w0 w wr R A n c u) ∧ Hid (wr.heap[T]? = some (.cells #[.string f0, .int .i64 f1, .int .i64 f2, .int .i32 f3, .slice A4 ps.length c4] 80 (0, 0))) ∧ Hid (Kd.R k119 119 wr w.heap.size (fun x => T < x) (.slice A4 ps.length c4) ps) ∧ Hid (Kd.R k80 80 wr w.heap.size (fun x => R + 1 < x ∧ x < T) (.slice AO l.length cO) l) ∧ Hid (parsGo (np - j) ps u = (yp, yu)))
      (fun _ r10 _ _ => np - (intOf r10).toNat)
    case atStart => exact ⟨0, Ao, no, co, none, 0, [], t5, by omega, by simp, rfl, VMo, TTo, Lib.hid (Kd.R_nil _ _ _ _ _), ROo, HYP⟩
    case round =>
      obtain ⟨j, A6, n6, c6, A4, c4, ps, u, hj, hps, rfl, VM, TT, RP, RO, HPS⟩ := hrel
      clear VMo TTo ROo HYP
      have LR := blk_lt VM.out.box
      have LT := blk_lt TT.out
      by_cases hjl : j < np
      · obtain ⟨dj, hdj⟩ : ∃ d, np - j = d + 1 := ⟨np - j - 1, by omega⟩
        have HP2 : Hid (parsGo dj (ps ++ [(parS u).1]) (parS u).2 = (yp, yu)) := Lib.hid (by
          have h := HPS.out
          rw [hdj] at h
          exact h)
        have HDJ : Hid (np - (j + 1) = dj) := Lib.hid (by omega)
        clear HPS hdj
        have ex : parS u = (⟨(countS 4096 u).1, (countS 1 (countS 4096 u).2).1 == 1⟩, (countS 1 (countS 4096 u).2).2) := rfl
        rw [ex] at HP2
        simp only at HP2
        have CA : Hid (∀ v W, IsV w0 v u → Below w0.heap.size w0 W → Calls Try.prog 83 #[v, .int .i64 4096] W (VPost w0 W (countS 4096 u).2 (.int .i64 (countS 4096 u).1))) := Lib.hid (fun v W hi hB => vcount w0 W v _ 4096 (by omega) hi hB)
        have CB : Hid (∀ v W, IsV w0 v (countS 4096 u).2 → Below w0.heap.size w0 W → Calls Try.prog 83 #[v, .int .i64 1] W (VPost w0 W (countS 1 (countS 4096 u).2).2 (.int .i64 (countS 1 (countS 4096 u).2).1))) := Lib.hid (fun v W hi hB => vcount w0 W v _ 1 (by omega) hi hB)
        clear ex
        generalize (countS 1 (countS 4096 u).2).1 = pb at *
        generalize (countS 1 (countS 4096 u).2).2 = u2 at *
        generalize (countS 4096 u).1 = pa at *
        generalize (countS 4096 u).2 = u1 at *
        have vc0 := blk_cell VM.out.box 0
        have vc1 := blk_cell VM.out.box 1
        simp only [List.getElem?_toArray, List.getElem?_cons_zero, List.getElem?_cons_succ] at vc0 vc1
        obtain ⟨P, hP⟩ : ∃ P, P = wr.heap.size := ⟨_, rfl⟩
        have HPT : Hid (T < P) := Lib.hid (by omega)
        have HPR : Hid (R + 1 < P) := Lib.hid (by have := HTR.out; omega)
        have p1 : R ≠ P := by have := HPR.out; omega
        have p2 : P ≠ R := by have := HPR.out; omega
        have p3 : T ≠ P := by omega
        have p4 : P ≠ T := by omega
        have VMa := Lib.hid (VM.out.alloc (.cells #[.int .i64 0, .bool false] 119))
        have TTa := Lib.hid (blk_below TT.out (b1 wr (.cells #[.int .i64 0, .bool false] 119)))
        have PPa : Hid ((wr.alloc (.cells #[.int .i64 0, .bool false] 119)).heap[P]? = some (.cells #[.int .i64 0, .bool false] 119 (0, 0))) := Lib.hid (by rw [hP]; exact heap_alloc_new _ _)
        have ROa := Lib.hid (Kd.R_alloc RO.out (.cells #[.int .i64 0, .bool false] 119))
        have RPa : Hid (Kd.R k119 119 (wr.alloc (.cells #[.int .i64 0, .bool false] 119)) w.heap.size (fun x => T < x ∧ x < P) (.slice A4 ps.length c4) ps) := Lib.hid (Kd.R_alloc (Kd.R_mono (Kd.R_bound RP.out) (fun x hx => ⟨hx.1, by have := hx.2.2.1; omega⟩)) _)
        go_wp2_with fail
        rw [← hP]
        clear hP VM TT RO RP
        refine (VMa.out.call (CA.out _ _ VMa.out.iv (HB.out.trans (VMa.out.low.mono HS.out)))).mono ?_
        rintro e w10 ⟨Ap, np', cp, rfl, iv, bw, vm⟩
        have c0 := blk_cell vm.box 0
        have c1 := blk_cell vm.box 1
        have z0 := blk_frozen vm.box 0
        have z1 := blk_frozen vm.box 1
        simp only [List.getElem?_toArray, List.getElem?_cons_zero, List.getElem?_cons_succ] at c0 c1
        have tt := blk_below TTa.out bw
        have pq := blk_below PPa.out bw
        have q0 := blk_cell pq 0
        have y0 := blk_frozen pq 0
        simp only [List.getElem?_toArray, List.getElem?_cons_zero] at q0
        have VMb := Lib.hid ((vm.put iv).set HPR.out 0 (.int .i64 pa))
        have TTb := Lib.hid (blk_far (p := ⟨P, 0, none⟩) (two_far tt HTR.out (.slice Ap np' cp) (.int .i64 u1.err)) p3 (.int .i64 pa))
        have PPb := Lib.hid (blk_put (two_far pq HPR.out (.slice Ap np' cp) (.int .i64 u1.err)) 0 (.int .i64 pa) (cs' := #[.int .i64 pa, .bool false]) rfl)
        have ROb := Lib.hid (Kd.R_far (p := ⟨P, 0, none⟩) (two_R (Kd.R_below ROa.out bw) (fun k hk => hk.1) (.slice Ap np' cp) (.int .i64 u1.err)) (fun x hx => by show x ≠ P; have := HPT.out; omega) (.int .i64 pa))
        have RPb := Lib.hid (Kd.R_far (p := ⟨P, 0, none⟩) (two_R (Kd.R_below RPa.out bw) (fun k hk => Nat.lt_trans HTR.out hk.1) (.slice Ap np' cp) (.int .i64 u1.err)) (fun x hx => by show x ≠ P; omega) (.int .i64 pa))
        clear iv bw vm tt pq VMa TTa PPa ROa RPa CA
        go_wp2_with fail
        refine (VMb.out.call (CB.out _ _ VMb.out.iv (HB.out.trans (VMb.out.low.mono HS.out)))).mono ?_
        rintro e w11 ⟨Ar, nr, cr, rfl, iv, bw, vm⟩
        have c0 := blk_cell vm.box 0
        have c1 := blk_cell vm.box 1
        have z0 := blk_frozen vm.box 0
        have z1 := blk_frozen vm.box 1
        simp only [List.getElem?_toArray, List.getElem?_cons_zero, List.getElem?_cons_succ] at c0 c1
        have tt := blk_below TTb.out bw
        have pq := blk_below PPb.out bw
        have q0 := blk_cell pq 0
        have q1 := blk_cell pq 1
        have y1 := blk_frozen pq 1
        have t4x := blk_cell tt 4
        have t4z := blk_frozen tt 4
        simp only [List.getElem?_toArray, List.getElem?_cons_zero, List.getElem?_cons_succ] at q0 q1 t4x
        have VMc := Lib.hid ((vm.put iv).set HPR.out 1 (.bool (pb == 1)))
        have TTc := Lib.hid (blk_far (p := ⟨P, 1, none⟩) (two_far tt HTR.out (.slice Ar nr cr) (.int .i64 u2.err)) p3 (.bool (pb == 1)))
        have ROc := Lib.hid (Kd.R_far (p := ⟨P, 1, none⟩) (two_R (Kd.R_below ROb.out bw) (fun k hk => hk.1) (.slice Ar nr cr) (.int .i64 u2.err)) (fun x hx => by show x ≠ P; have := HPT.out; omega) (.bool (pb == 1)))
        have RPc := Lib.hid (Kd.R_mono (Kd.R_far (p := ⟨P, 1, none⟩) (two_R (Kd.R_below RPb.out bw) (fun k hk => Nat.lt_trans HTR.out hk.1) (.slice Ar nr cr) (.int .i64 u2.err)) (fun x hx => by show x ≠ P; omega) (.bool (pb == 1))) (fun x hx => hx.1))
        have LTc := blk_lt tt
        clear iv bw vm tt pq VMb TTb PPb ROb RPb CB
        go_wp2_with (at_builtin; go_must (refine Kd.R_append k119 w.heap.size rfl _ _ 78 119 (.agg #[.int .i64 0, .bool false]) 16 rfl Try.underlying78 info119 rfl (by decide) (by decide) (.slice A4 ps.length c4) ps ⟨pa, pb == 1⟩ [.int .i64 pa, .bool (pb == 1)] (fun k => T < k) (fun _ => False) rfl (by show Value.slice (some ⟨w11.heap.size, 0, none⟩) 1 1 = _; simp [World.setCell]) (k119_mkM _ _ _ ⟨pa, pb == 1⟩) (fun _ h => h.elim) (fun k hk => by have := blk_lt TTc.out; omega) RPc.out (Below.refl _ _) VMc.out.low.size (by omega) ?_; intro v1 wc hown hbel hgrow hlie; have TD := Lib.hid (blk_grown TTc.out hgrow (fun e => by have := RPc.out.1 T e.symm; omega)); have MD := Lib.hid (VMc.out.grown (fun k e => by have := RPc.out.1 k e; have := HTR.out; omega) hgrow); have OD := Lib.hid (Kd.R_grown ROc.out hgrow (fun k hk e => by have := RPc.out.1 k e.symm; omega)); have PD := Lib.hid hown; obtain ⟨A5, c5, ev, _⟩ := Kd.R_reads hown; obtain ⟨m5, hm5⟩ : ∃ m, m = (ps ++ [(⟨pa, pb == 1⟩ : S119)]).length := ⟨_, rfl⟩; rw [← hm5] at ev; subst ev; have HM5 := Lib.hid hm5; have cc := blk_cell TD.out 4; simp only [List.getElem?_toArray, List.getElem?_cons_zero, List.getElem?_cons_succ] at cc; have zc := blk_frozen TD.out 4; clear hown hbel hgrow hlie hm5))
        go_roundw
        case rel =>
          refine ⟨j + 1, Ar, nr, cr, A5, c5, ps ++ [⟨pa, pb == 1⟩], u2, by omega, by rw [List.length_append]; simp; omega, by go_num, Lib.hid (MD.out.set HTR.out 4 _), Lib.hid ?_, Lib.hid ?_, Lib.hid (Kd.R_far OD.out (fun k hk => by show k ≠ T; omega) _), Lib.hid (by rw [HDJ.out]; exact HP2.out)⟩
          · rw [← HM5.out]; exact blk_put TD.out 4 _ rfl
          · rw [← HM5.out]; exact Kd.R_far PD.out (fun k hk => by show k ≠ T; omega) _
        case measure => simp [intOf]; omega
      · have hnj : np - j = 0 := by omega
        have HP2 := HPS.out
        rw [hnj] at HP2
        have e0 : (ps, u) = (yp, yu) := HP2
        injection e0 with e1 e2
        subst e1 e2
        clear HPS HP2 hnj
        have q0 := blk_cell TT.out 0
        have q1 := blk_cell TT.out 1
        have q2 := blk_cell TT.out 2
        have q3 := blk_cell TT.out 3
        have q4 := blk_cell TT.out 4
        simp only [List.getElem?_toArray, List.getElem?_cons_zero, List.getElem?_cons_succ] at q0 q1 q2 q3 q4
        have RO' := Lib.hid (Kd.R_mono RO.out (fun k hk => hk.1))
        have hokp : Hid (∀ k, T < k → R + 1 < k ∧ some k ≠ (Value.slice AO l.length cO).ownBlock) := Lib.hid (fun k hk => ⟨by have := HTR.out; omega, fun e => by have := (RO.out.1 k e.symm).2; omega⟩)
        go_wp2_with (at_builtin; go_must (refine Kd.R_append k80 w.heap.size rfl _ _ 35 80 (.agg #[.string ⟨#[]⟩, .int .i64 0, .int .i64 0, .int .i32 0, .slice none 0 0]) 64 rfl Try.underlying35 info80 rfl (by decide) (by decide) (.slice AO l.length cO) l ⟨f0, f1, f2, f3, ps⟩ [.string f0, .int .i64 f1, .int .i64 f2, .int .i32 f3, .slice A4 ps.length c4] (fun k => R + 1 < k) (fun k => T < k) rfl rfl (k80_mkM _ _ _ ⟨f0, f1, f2, f3, ps⟩ RP.out) hokp.out (fun k hk => by have := blk_lt VM.out.res; omega) RO'.out (Below.refl _ _) VM.out.low.size (by omega) ?_; intro v1 we hown hbel hgrow hlie; have ME := Lib.hid (VM.out.grown (fun k e => by have := RO.out.1 k e; omega) hgrow); have OE := Lib.hid hown; clear hown hbel hgrow hlie))
        go_roundw
        case rel =>
          refine ⟨k + 1, A6, n6, c6, l ++ [⟨f0, f1, f2, f3, ps⟩], u, v1, by omega, by rw [List.length_append]; simp; omega, rfl, by go_num, ME, OE, Lib.hid ?_⟩
          have h := HE2.out
          rw [HX.out] at h
          rw [HD.out]
          exact h
        case measure => simp [intOf]; omega
end Go.Proofs.Ytehdhmhpmkkneaa

