-- PRINTED by print.py (a twelfth state) out of the translation. Not trusted: Lean checks it.
import Derived.Test.YtehdhmhpmkkneaaPAllx0
import Derived.Test.YtehdhmhpmkkneaaMi
import Derived.Test.YtehdhmhpmkkneaaPAllx21
namespace Go.Proofs.Ytehdhmhpmkkneaa.PAll
open Go.RowKit Go.Proofs.YtehdhmhpmkkneaaW.PrintWords Go.Proofs.YtehdhmhpmkkneaaW.PrintLast Go.Proofs.YtehdhmhpmkkneaaW.PrintMore
attribute [local go_sem] max2_int min2_int max_two min_two max_three min_three max_four min_four   -- for this text's walks alone
set_option linter.unusedVariables false
set_option linter.unusedSimpArgs false

/-! ### objfile_fits: function 87 -/
def objfile_fits.j0 : Nat → Bool → ByteArray → Int → List (S93) → List Int → List (S134) → List (S131) → Int → Int → Int → Int → Int → Int → Int → Option (Bool)
  | 0, _, _, _, _, _, _, _, _, _, _, _, _, _, _ => none
  | k + 1, x48, x284000, x284001, x284002, x284003, x284004, x284005, x284006, x284007, x284008, x285000, x285001, x285002, x285003 => if x48 = true then (some false) else (if x285001 = 4 then (if x285002 = 0 then (some (x285003 == 0)) else (some false)) else (if x285001 = 3 then (some (decide (x285002 > 0))) else (if x285002 > 0 then (some true) else (if x285001 = 1 then (if x285003 ≤ x284006 then (some true) else (if x285001 = 2 then (some (decide (x285003 < x284007))) else (some false))) else (if x285001 = 2 then (some (decide (x285003 < x284007))) else (some false))))))
def objfile_fits.f (k : Nat) (a0_0 : ByteArray) (a0_1 : Int) (l0_2 : List (S93)) (l0_3 : List Int) (l0_4 : List (S134)) (l0_5 : List (S131)) (a0_6 : Int) (a0_7 : Int) (a0_8 : Int) (a1_0 : Int) (a1_1 : Int) (a1_2 : Int) (a1_3 : Int) : Option (Bool) := (objfile_words.f k a1_1).bind fun t285 => (if t285 = 0 then (objfile_fits.j0 k true a0_0 a0_1 l0_2 l0_3 l0_4 l0_5 a0_6 a0_7 a0_8 a1_0 a1_1 a1_2 a1_3) else (if a1_0 < 0 then (objfile_fits.j0 k true a0_0 a0_1 l0_2 l0_3 l0_4 l0_5 a0_6 a0_7 a0_8 a1_0 a1_1 a1_2 a1_3) else (if a1_0 > (wrap64 ((l0_3.length : Int) - t285)) then (objfile_fits.j0 k true a0_0 a0_1 l0_2 l0_3 l0_4 l0_5 a0_6 a0_7 a0_8 a1_0 a1_1 a1_2 a1_3) else (if a1_2 < 0 then (objfile_fits.j0 k true a0_0 a0_1 l0_2 l0_3 l0_4 l0_5 a0_6 a0_7 a0_8 a1_0 a1_1 a1_2 a1_3) else (if a1_2 > (l0_2.length : Int) then (objfile_fits.j0 k true a0_0 a0_1 l0_2 l0_3 l0_4 l0_5 a0_6 a0_7 a0_8 a1_0 a1_1 a1_2 a1_3) else (if a1_3 < 0 then (objfile_fits.j0 k true a0_0 a0_1 l0_2 l0_3 l0_4 l0_5 a0_6 a0_7 a0_8 a1_0 a1_1 a1_2 a1_3) else (objfile_fits.j0 k (decide (a1_3 > 16384)) a0_0 a0_1 l0_2 l0_3 l0_4 l0_5 a0_6 a0_7 a0_8 a1_0 a1_1 a1_2 a1_3)))))))
theorem objfile_fits.mono_l : ∀ k, (∀ y0 y1 y2 y3 y4 y5 y6 y7 y8 y9 y10 y11 y12 y13, LeO (objfile_fits.j0 k y0 y1 y2 y3 y4 y5 y6 y7 y8 y9 y10 y11 y12 y13) (objfile_fits.j0 (k + 1) y0 y1 y2 y3 y4 y5 y6 y7 y8 y9 y10 y11 y12 y13))
  | 0 => fun _ _ _ _ _ _ _ _ _ _ _ _ _ _ r h => by simp [objfile_fits.j0] at h
  | k + 1 => by
    have ih0 := objfile_fits.mono_l k
    · intro y0 y1 y2 y3 y4 y5 y6 y7 y8 y9 y10 y11 y12 y13
      unfold objfile_fits.j0
      repeat' first
      | (with_reducible exact ih0 _ _ _ _ _ _ _ _ _ _ _ _ _ _)
      | (with_reducible exact objfile_words.mono _ _)
      | (with_reducible exact LeO.refl _)
      | (with_reducible exact LeO.none _)
      | (with_reducible refine LeO.ite ?_ ?_)
      | (with_reducible refine LeO.bind ?_ (fun _ => ?_))
      | exact ih0 _ _ _ _ _ _ _ _ _ _ _ _ _ _
      | exact objfile_words.mono _ _
      | exact LeO.none _
      | refine LeO.ite ?_ ?_
      | refine LeO.bind ?_ (fun _ => ?_)
theorem objfile_fits.mono : ∀ a0 a1 a2 a3 a4 a5 a6 a7 a8 a9 a10 a11 a12 k, LeO (objfile_fits.f k a0 a1 a2 a3 a4 a5 a6 a7 a8 a9 a10 a11 a12) (objfile_fits.f (k + 1) a0 a1 a2 a3 a4 a5 a6 a7 a8 a9 a10 a11 a12) := by
  intro a0 a1 a2 a3 a4 a5 a6 a7 a8 a9 a10 a11 a12 k
  have ih0 := objfile_fits.mono_l k
  unfold objfile_fits.f
  repeat' first
      | (with_reducible exact ih0 _ _ _ _ _ _ _ _ _ _ _ _ _ _)
      | (with_reducible exact objfile_words.mono _ _)
      | (with_reducible exact LeO.refl _)
      | (with_reducible exact LeO.none _)
      | (with_reducible refine LeO.ite ?_ ?_)
      | (with_reducible refine LeO.bind ?_ (fun _ => ?_))
      | exact ih0 _ _ _ _ _ _ _ _ _ _ _ _ _ _
      | exact objfile_words.mono _ _
      | exact LeO.none _
      | refine LeO.ite ?_ ?_
      | refine LeO.bind ?_ (fun _ => ?_)
set_option maxHeartbeats 8000000 in
set_option maxRecDepth 100000 in
theorem objfile_fits.calls (k : Nat) (a0_0 : ByteArray) (a0_1 : Int) (A0_2 : Option Addr) (c0_2 : Nat) (l0_2 : List (S93)) (A0_3 : Option Addr) (c0_3 : Nat) (l0_3 : List Int) (A0_4 : Option Addr) (c0_4 : Nat) (l0_4 : List (S134)) (A0_5 : Option Addr) (c0_5 : Nat) (l0_5 : List (S131)) (a0_6 : Int) (a0_7 : Int) (a0_8 : Int) (a1_0 : Int) (a1_1 : Int) (a1_2 : Int) (a1_3 : Int) (r : Bool) (w : World) (hr0_2 : Kd.C k93 w A0_2 l0_2.length l0_2) (hc0_2 : l0_2.length ≤ c0_2) (hr0_3 : Kd.C (Kd.int .u32) w A0_3 l0_3.length l0_3) (hc0_3 : l0_3.length ≤ c0_3) (hr0_4 : Kd.C k134 w A0_4 l0_4.length l0_4) (hc0_4 : l0_4.length ≤ c0_4) (hr0_5 : Kd.C k131 w A0_5 l0_5.length l0_5) (hc0_5 : l0_5.length ≤ c0_5) (h : objfile_fits.f k a0_0 a0_1 l0_2 l0_3 l0_4 l0_5 a0_6 a0_7 a0_8 a1_0 a1_1 a1_2 a1_3 = some r) :
    Calls Try.prog 87 #[.agg #[.string a0_0, .int .u32 a0_1, .slice A0_2 l0_2.length c0_2, .slice A0_3 l0_3.length c0_3, .slice A0_4 l0_4.length c0_4, .slice A0_5 l0_5.length c0_5, .int .i64 a0_6, .int .i64 a0_7, .int .i64 a0_8], .agg #[.int .i64 a1_0, .int .i64 a1_1, .int .i64 a1_2, .int .i64 a1_3]] w fun e w' => e = .returned (.bool r) ∧ Below w.heap.size w w' := by
  have hu60 := Try.underlying60
  have hu134 := Try.underlying134
  have HR0_2 := Aside0.mk hr0_2
  have HC0_2 := Aside0.mk hc0_2
  clear hr0_2 hc0_2
  have HR0_3 := Aside0.mk hr0_3
  have HC0_3 := Aside0.mk hc0_3
  clear hr0_3 hc0_3
  have HR0_4 := Aside0.mk hr0_4
  have HC0_4 := Aside0.mk hc0_4
  clear hr0_4 hc0_4
  have HR0_5 := Aside0.mk hr0_5
  have HC0_5 := Aside0.mk hc0_5
  clear hr0_5 hc0_5
  have HB := Aside0.mk (Below.refl w.heap.size w)
  have H : ((objfile_words.f k a1_1).bind fun t285 => (if t285 = 0 then (objfile_fits.j0 k true a0_0 a0_1 l0_2 l0_3 l0_4 l0_5 a0_6 a0_7 a0_8 a1_0 a1_1 a1_2 a1_3) else (if a1_0 < 0 then (objfile_fits.j0 k true a0_0 a0_1 l0_2 l0_3 l0_4 l0_5 a0_6 a0_7 a0_8 a1_0 a1_1 a1_2 a1_3) else (if a1_0 > (wrap64 ((l0_3.length : Int) - t285)) then (objfile_fits.j0 k true a0_0 a0_1 l0_2 l0_3 l0_4 l0_5 a0_6 a0_7 a0_8 a1_0 a1_1 a1_2 a1_3) else (if a1_2 < 0 then (objfile_fits.j0 k true a0_0 a0_1 l0_2 l0_3 l0_4 l0_5 a0_6 a0_7 a0_8 a1_0 a1_1 a1_2 a1_3) else (if a1_2 > (l0_2.length : Int) then (objfile_fits.j0 k true a0_0 a0_1 l0_2 l0_3 l0_4 l0_5 a0_6 a0_7 a0_8 a1_0 a1_1 a1_2 a1_3) else (if a1_3 < 0 then (objfile_fits.j0 k true a0_0 a0_1 l0_2 l0_3 l0_4 l0_5 a0_6 a0_7 a0_8 a1_0 a1_1 a1_2 a1_3) else (objfile_fits.j0 k (decide (a1_3 > 16384)) a0_0 a0_1 l0_2 l0_3 l0_4 l0_5 a0_6 a0_7 a0_8 a1_0 a1_1 a1_2 a1_3)))))))) = some r := h
  clear h
  replace H := Option.bind_eq_some_iff.mp H
  obtain ⟨t285, A30, H⟩ := H
  replace H : (if t285 = 0 then (objfile_fits.j0 k true a0_0 a0_1 l0_2 l0_3 l0_4 l0_5 a0_6 a0_7 a0_8 a1_0 a1_1 a1_2 a1_3) else (if a1_0 < 0 then (objfile_fits.j0 k true a0_0 a0_1 l0_2 l0_3 l0_4 l0_5 a0_6 a0_7 a0_8 a1_0 a1_1 a1_2 a1_3) else (if a1_0 > (wrap64 ((l0_3.length : Int) - t285)) then (objfile_fits.j0 k true a0_0 a0_1 l0_2 l0_3 l0_4 l0_5 a0_6 a0_7 a0_8 a1_0 a1_1 a1_2 a1_3) else (if a1_2 < 0 then (objfile_fits.j0 k true a0_0 a0_1 l0_2 l0_3 l0_4 l0_5 a0_6 a0_7 a0_8 a1_0 a1_1 a1_2 a1_3) else (if a1_2 > (l0_2.length : Int) then (objfile_fits.j0 k true a0_0 a0_1 l0_2 l0_3 l0_4 l0_5 a0_6 a0_7 a0_8 a1_0 a1_1 a1_2 a1_3) else (if a1_3 < 0 then (objfile_fits.j0 k true a0_0 a0_1 l0_2 l0_3 l0_4 l0_5 a0_6 a0_7 a0_8 a1_0 a1_1 a1_2 a1_3) else (objfile_fits.j0 k (decide (a1_3 > 16384)) a0_0 a0_1 l0_2 l0_3 l0_4 l0_5 a0_6 a0_7 a0_8 a1_0 a1_1 a1_2 a1_3))))))) = some r := H
  have A3 := Aside0.mk A30
  clear A30
  have HC4 := Aside0.mk H
  clear H
  go_enter Try.func87, Try.ntmps87
  go_upto_region 2 with (first | ((with_reducible refine gate_dst (N := 2) rfl ?_); (try (refine gate_guard (by rfl) ?_; dsimp only)); refine box_event ?hg (N := 2) ?hd (cs := #[.string a0_0, .int .u32 a0_1, .slice A0_2 l0_2.length c0_2, .slice A0_3 l0_3.length c0_3, .slice A0_4 l0_4.length c0_4, .slice A0_5 l0_5.length c0_5, .int .i64 a0_6, .int .i64 a0_7, .int .i64 a0_8]) (t := 60) ?hr ?_; (case hd => rfl); (case hg => rfl); (case hr => first | (go_simp; done) | (go_simp; rfl)); intro gb283 hg w5 hbox hb; have n0_ := Aside0.mk (below_step (by repeat (first | (with_reducible first | exact HB.out | apply below_alloc | apply pw_below_drewN | apply below_drew1) | exact HB.out)) hb); have n1_ := Aside0.mk (hbox); have n2_ := Aside0.mk ((by rw [hg]; exact (below_size (by repeat (first | (with_reducible first | exact HB.out | apply below_alloc | apply pw_below_drewN | apply below_drew1) | exact HB.out))) : w.heap.size ≤ gb283)); have n3_ := Aside0.mk ((by rw [hg]; exact (below_size (by repeat (first | (with_reducible first | exact HB.out | apply below_alloc | apply pw_below_drewN | apply below_drew1) | exact HB.out))) : w.heap.size ≤ gb283)); clear HB; have HB := n0_; have BK283 := n1_; have GW283 := n2_; have GE283 := n3_; clear n0_ n1_ n2_ n3_; clear hb hbox hg) | ((with_reducible refine gate_dst (N := 3) rfl ?_); (try (refine gate_guard (by rfl) ?_; dsimp only)); refine box_event ?hg (N := 3) ?hd (cs := #[.int .i64 a1_0, .int .i64 a1_1, .int .i64 a1_2, .int .i64 a1_3]) (t := 134) ?hr ?_; (case hd => rfl); (case hg => rfl); (case hr => first | (go_simp; done) | (go_simp; rfl)); intro gb284 hg w6 hbox hb; have n0_ := Aside0.mk (blk_below (g := gb283) (o := .cells #[.string a0_0, .int .u32 a0_1, .slice A0_2 l0_2.length c0_2, .slice A0_3 l0_3.length c0_3, .slice A0_4 l0_4.length c0_4, .slice A0_5 l0_5.length c0_5, .int .i64 a0_6, .int .i64 a0_7, .int .i64 a0_8] 60 (0, 0)) (by (with_reducible repeat (first | refine blk_drewN ?_ _ | refine blk_drew ?_ | refine blk_alloc ?_ _)); exact BK283.out) hb); have n1_ := Aside0.mk (below_step (by repeat (first | (with_reducible first | exact HB.out | apply below_alloc | apply pw_below_drewN | apply below_drew1 | refine below_set ?_ GE283.out) | exact HB.out)) hb); have n2_ := Aside0.mk (hbox); have n3_ := Aside0.mk ((by rw [hg]; exact (below_size (by repeat (first | (with_reducible first | exact HB.out | apply below_alloc | apply pw_below_drewN | apply below_drew1 | refine below_set ?_ GE283.out) | exact HB.out))) : w.heap.size ≤ gb284)); have n4_ := Aside0.mk ((by rw [hg]; exact (below_size (by repeat (first | (with_reducible first | exact HB.out | apply below_alloc | apply pw_below_drewN | apply below_drew1 | refine below_set ?_ GE283.out) | exact HB.out))) : w.heap.size ≤ gb284)); have n5_ := Aside0.mk ((by rw [hg]; exact Nat.ne_of_lt (blk_lt (g := gb283) (o := .cells #[.string a0_0, .int .u32 a0_1, .slice A0_2 l0_2.length c0_2, .slice A0_3 l0_3.length c0_3, .slice A0_4 l0_4.length c0_4, .slice A0_5 l0_5.length c0_5, .int .i64 a0_6, .int .i64 a0_7, .int .i64 a0_8] 60 (0, 0)) (by (with_reducible repeat (first | refine blk_drewN ?_ _ | refine blk_drew ?_ | refine blk_alloc ?_ _)); exact BK283.out)) : gb283 ≠ gb284)); have n6_ := Aside0.mk ((by rw [hg]; exact Nat.ne_of_gt (blk_lt (g := gb283) (o := .cells #[.string a0_0, .int .u32 a0_1, .slice A0_2 l0_2.length c0_2, .slice A0_3 l0_3.length c0_3, .slice A0_4 l0_4.length c0_4, .slice A0_5 l0_5.length c0_5, .int .i64 a0_6, .int .i64 a0_7, .int .i64 a0_8] 60 (0, 0)) (by (with_reducible repeat (first | refine blk_drewN ?_ _ | refine blk_drew ?_ | refine blk_alloc ?_ _)); exact BK283.out)) : gb284 ≠ gb283)); clear BK283; clear HB; have BK283 := n0_; have HB := n1_; have BK284 := n2_; have GW284 := n3_; have GE284 := n4_; have NB283_284 := n5_; have NB284_283 := n6_; clear n0_ n1_ n2_ n3_ n4_ n5_ n6_; clear hb hbox hg; have hnb7 := NB284_283.out; have hnc7 := NB283_284.out; have hcz8_0 : w6.cell? ⟨gb284, 0, none⟩ = some (.int .i64 a1_0) := (blk_cell BK284.out 0).trans rfl; have hcz8_1 : w6.cell? ⟨gb284, 1, none⟩ = some (.int .i64 a1_1) := (blk_cell BK284.out 1).trans rfl; have hcz8_2 : w6.cell? ⟨gb284, 2, none⟩ = some (.int .i64 a1_2) := (blk_cell BK284.out 2).trans rfl; have hcz8_3 : w6.cell? ⟨gb284, 3, none⟩ = some (.int .i64 a1_3) := (blk_cell BK284.out 3).trans rfl; have hfz8_0 := blk_frozen BK284.out 0; have hfz8_1 := blk_frozen BK284.out 1; have hfz8_2 := blk_frozen BK284.out 2; have hfz8_3 := blk_frozen BK284.out 3) | ((with_reducible refine gate_callee (f := 88) rfl ?_); refine goesL_ (some 8) rfl rfl Try.func88 (by kernel_rfl) rfl #[.int .i64 a1_1] rfl (by (try simp only [List.map_toArray, List.map_cons, List.map_nil]); first | done | rfl | (simp only [List.length_drop, List.length_take]; rfl)) ?_; (with_reducible refine (objfile_words.calls k a1_1 t285 _ A3.out).mono ?_); rintro e w' ⟨rfl, ⟨nd, rfl⟩⟩; refine ⟨_, rfl, ?_⟩))
  (try simp only [Act.put, List.setIfInBounds_toArray, List.set_cons_zero, List.set_cons_succ])
  go_cut [48] (fun v48 wc => ∃ (kq : Nat) (x48_3 : Bool), v48 = .bool x48_3 ∧ Aside0 (objfile_fits.j0 kq x48_3 a0_0 a0_1 l0_2 l0_3 l0_4 l0_5 a0_6 a0_7 a0_8 a1_0 a1_1 a1_2 a1_3 = some r) ∧ Aside0 (kq ≤ k) ∧ Aside0 (wc.heap[gb283]? = some (.cells #[.string a0_0, .int .u32 a0_1, (.slice A0_2 l0_2.length c0_2), (.slice A0_3 l0_3.length c0_3), (.slice A0_4 l0_4.length c0_4), (.slice A0_5 l0_5.length c0_5), .int .i64 a0_6, .int .i64 a0_7, .int .i64 a0_8] 60 (0, 0))) ∧ Aside0 (wc.heap[gb284]? = some (.cells #[.int .i64 a1_0, .int .i64 a1_1, .int .i64 a1_2, .int .i64 a1_3] 134 (0, 0))) ∧ Aside0 (Below w.heap.size w wc))
  case first =>
    have H := HC4.out
    clear HC4
    by_cases c9 : t285 = 0
    · rw [if_pos c9] at H
      have c9b0 : (t285 == 0) = true := beq_iff_eq.mpr c9
      have c9b1 : (t285 != 0) = false := bne_eq_false_iff_eq.mpr c9
      clear c9
      (first | rw [c9b0] | (simp only [i64_w, i32_w]; rw [c9b0]) | skip)
      have H' := Aside0.mk H
      clear H
      go_wp2
      go_meet
      case rel => exact ⟨_, (true), (by first | rfl | (simp; done) | (simp [*]; done)), H', ⟨by first | omega | exact Nat.le_refl _⟩, ⟨by (with_reducible repeat (first | refine blk_drewN ?_ _ | refine blk_drew ?_ | refine blk_alloc ?_ _)); exact BK283.out⟩, ⟨by (with_reducible repeat (first | refine blk_drewN ?_ _ | refine blk_drew ?_ | refine blk_alloc ?_ _)); exact BK284.out⟩, ⟨by repeat (first | (with_reducible first | exact HB.out | apply below_alloc | apply pw_below_drewN | apply below_drew1 | refine below_set ?_ GE283.out | refine below_set ?_ GE284.out) | exact HB.out)⟩⟩
    · rw [if_neg c9] at H
      have c9b0 : (t285 == 0) = false := beq_eq_false_iff_ne.mpr c9
      have c9b1 : (t285 != 0) = true := bne_iff_ne.mpr c9
      (first | rw [c9b0] | (simp only [i64_w, i32_w]; rw [c9b0]) | skip)
      by_cases c10 : a1_0 < 0
      · rw [if_pos c10] at H
        have c10b0 : decide (a1_0 < 0) = true := decide_eq_true c10
        clear c10
        have H' := Aside0.mk H
        clear H
        have hnb11 := NB284_283.out
        have hnc11 := NB283_284.out
        have hcz12_0 : w6.cell? ⟨gb284, 0, none⟩ = some (.int .i64 a1_0) := (blk_cell BK284.out 0).trans rfl
        have hcz12_1 : w6.cell? ⟨gb284, 1, none⟩ = some (.int .i64 a1_1) := (blk_cell BK284.out 1).trans rfl
        have hcz12_2 : w6.cell? ⟨gb284, 2, none⟩ = some (.int .i64 a1_2) := (blk_cell BK284.out 2).trans rfl
        have hcz12_3 : w6.cell? ⟨gb284, 3, none⟩ = some (.int .i64 a1_3) := (blk_cell BK284.out 3).trans rfl
        have hfz12_0 := blk_frozen BK284.out 0
        have hfz12_1 := blk_frozen BK284.out 1
        have hfz12_2 := blk_frozen BK284.out 2
        have hfz12_3 := blk_frozen BK284.out 3
        go_wp2
        go_meet
        case rel => exact ⟨_, (true), (by first | rfl | (simp; done) | (simp [*]; done)), H', ⟨by first | omega | exact Nat.le_refl _⟩, ⟨by (with_reducible repeat (first | refine blk_drewN ?_ _ | refine blk_drew ?_ | refine blk_alloc ?_ _)); exact BK283.out⟩, ⟨by (with_reducible repeat (first | refine blk_drewN ?_ _ | refine blk_drew ?_ | refine blk_alloc ?_ _)); exact BK284.out⟩, ⟨by repeat (first | (with_reducible first | exact HB.out | apply below_alloc | apply pw_below_drewN | apply below_drew1 | refine below_set ?_ GE283.out | refine below_set ?_ GE284.out) | exact HB.out)⟩⟩
      · rw [if_neg c10] at H
        have c10b0 : decide (a1_0 < 0) = false := decide_eq_false c10
        clear c10
        by_cases c13 : a1_0 > (wrap64 ((l0_3.length : Int) - t285))
        · rw [if_pos c13] at H
          have c13b0 : decide ((wrap64 ((l0_3.length : Int) - t285)) < a1_0) = true := decide_eq_true c13
          clear c13
          have H' := Aside0.mk H
          clear H
          have hnb14 := NB284_283.out
          have hnc14 := NB283_284.out
          have hcz15_0 : w6.cell? ⟨gb284, 0, none⟩ = some (.int .i64 a1_0) := (blk_cell BK284.out 0).trans rfl
          have hcz15_1 : w6.cell? ⟨gb284, 1, none⟩ = some (.int .i64 a1_1) := (blk_cell BK284.out 1).trans rfl
          have hcz15_2 : w6.cell? ⟨gb284, 2, none⟩ = some (.int .i64 a1_2) := (blk_cell BK284.out 2).trans rfl
          have hcz15_3 : w6.cell? ⟨gb284, 3, none⟩ = some (.int .i64 a1_3) := (blk_cell BK284.out 3).trans rfl
          have hfz15_0 := blk_frozen BK284.out 0
          have hfz15_1 := blk_frozen BK284.out 1
          have hfz15_2 := blk_frozen BK284.out 2
          have hfz15_3 := blk_frozen BK284.out 3
          have hcz16_0 : w6.cell? ⟨gb283, 0, none⟩ = some (.string a0_0) := (blk_cell BK283.out 0).trans rfl
          have hcz16_1 : w6.cell? ⟨gb283, 1, none⟩ = some (.int .u32 a0_1) := (blk_cell BK283.out 1).trans rfl
          have hcz16_2 : w6.cell? ⟨gb283, 2, none⟩ = some (.slice A0_2 l0_2.length c0_2) := (blk_cell BK283.out 2).trans rfl
          have hcz16_3 : w6.cell? ⟨gb283, 3, none⟩ = some (.slice A0_3 l0_3.length c0_3) := (blk_cell BK283.out 3).trans rfl
          have hcz16_4 : w6.cell? ⟨gb283, 4, none⟩ = some (.slice A0_4 l0_4.length c0_4) := (blk_cell BK283.out 4).trans rfl
          have hcz16_5 : w6.cell? ⟨gb283, 5, none⟩ = some (.slice A0_5 l0_5.length c0_5) := (blk_cell BK283.out 5).trans rfl
          have hcz16_6 : w6.cell? ⟨gb283, 6, none⟩ = some (.int .i64 a0_6) := (blk_cell BK283.out 6).trans rfl
          have hcz16_7 : w6.cell? ⟨gb283, 7, none⟩ = some (.int .i64 a0_7) := (blk_cell BK283.out 7).trans rfl
          have hcz16_8 : w6.cell? ⟨gb283, 8, none⟩ = some (.int .i64 a0_8) := (blk_cell BK283.out 8).trans rfl
          have hfz16_0 := blk_frozen BK283.out 0
          have hfz16_1 := blk_frozen BK283.out 1
          have hfz16_2 := blk_frozen BK283.out 2
          have hfz16_3 := blk_frozen BK283.out 3
          have hfz16_4 := blk_frozen BK283.out 4
          have hfz16_5 := blk_frozen BK283.out 5
          have hfz16_6 := blk_frozen BK283.out 6
          have hfz16_7 := blk_frozen BK283.out 7
          have hfz16_8 := blk_frozen BK283.out 8
          go_wp2
          go_meet
          case rel => exact ⟨_, (true), (by first | rfl | (simp; done) | (simp [*]; done)), H', ⟨by first | omega | exact Nat.le_refl _⟩, ⟨by (with_reducible repeat (first | refine blk_drewN ?_ _ | refine blk_drew ?_ | refine blk_alloc ?_ _)); exact BK283.out⟩, ⟨by (with_reducible repeat (first | refine blk_drewN ?_ _ | refine blk_drew ?_ | refine blk_alloc ?_ _)); exact BK284.out⟩, ⟨by repeat (first | (with_reducible first | exact HB.out | apply below_alloc | apply pw_below_drewN | apply below_drew1 | refine below_set ?_ GE283.out | refine below_set ?_ GE284.out) | exact HB.out)⟩⟩
        · rw [if_neg c13] at H
          have c13b0 : decide ((wrap64 ((l0_3.length : Int) - t285)) < a1_0) = false := decide_eq_false c13
          clear c13
          by_cases c17 : a1_2 < 0
          · rw [if_pos c17] at H
            have c17b0 : decide (a1_2 < 0) = true := decide_eq_true c17
            clear c17
            have H' := Aside0.mk H
            clear H
            have hnb18 := NB284_283.out
            have hnc18 := NB283_284.out
            have hcz19_0 : w6.cell? ⟨gb284, 0, none⟩ = some (.int .i64 a1_0) := (blk_cell BK284.out 0).trans rfl
            have hcz19_1 : w6.cell? ⟨gb284, 1, none⟩ = some (.int .i64 a1_1) := (blk_cell BK284.out 1).trans rfl
            have hcz19_2 : w6.cell? ⟨gb284, 2, none⟩ = some (.int .i64 a1_2) := (blk_cell BK284.out 2).trans rfl
            have hcz19_3 : w6.cell? ⟨gb284, 3, none⟩ = some (.int .i64 a1_3) := (blk_cell BK284.out 3).trans rfl
            have hfz19_0 := blk_frozen BK284.out 0
            have hfz19_1 := blk_frozen BK284.out 1
            have hfz19_2 := blk_frozen BK284.out 2
            have hfz19_3 := blk_frozen BK284.out 3
            have hcz20_0 : w6.cell? ⟨gb283, 0, none⟩ = some (.string a0_0) := (blk_cell BK283.out 0).trans rfl
            have hcz20_1 : w6.cell? ⟨gb283, 1, none⟩ = some (.int .u32 a0_1) := (blk_cell BK283.out 1).trans rfl
            have hcz20_2 : w6.cell? ⟨gb283, 2, none⟩ = some (.slice A0_2 l0_2.length c0_2) := (blk_cell BK283.out 2).trans rfl
            have hcz20_3 : w6.cell? ⟨gb283, 3, none⟩ = some (.slice A0_3 l0_3.length c0_3) := (blk_cell BK283.out 3).trans rfl
            have hcz20_4 : w6.cell? ⟨gb283, 4, none⟩ = some (.slice A0_4 l0_4.length c0_4) := (blk_cell BK283.out 4).trans rfl
            have hcz20_5 : w6.cell? ⟨gb283, 5, none⟩ = some (.slice A0_5 l0_5.length c0_5) := (blk_cell BK283.out 5).trans rfl
            have hcz20_6 : w6.cell? ⟨gb283, 6, none⟩ = some (.int .i64 a0_6) := (blk_cell BK283.out 6).trans rfl
            have hcz20_7 : w6.cell? ⟨gb283, 7, none⟩ = some (.int .i64 a0_7) := (blk_cell BK283.out 7).trans rfl
            have hcz20_8 : w6.cell? ⟨gb283, 8, none⟩ = some (.int .i64 a0_8) := (blk_cell BK283.out 8).trans rfl
            have hfz20_0 := blk_frozen BK283.out 0
            have hfz20_1 := blk_frozen BK283.out 1
            have hfz20_2 := blk_frozen BK283.out 2
            have hfz20_3 := blk_frozen BK283.out 3
            have hfz20_4 := blk_frozen BK283.out 4
            have hfz20_5 := blk_frozen BK283.out 5
            have hfz20_6 := blk_frozen BK283.out 6
            have hfz20_7 := blk_frozen BK283.out 7
            have hfz20_8 := blk_frozen BK283.out 8
            go_wp2
            go_meet
            case rel => exact ⟨_, (true), (by first | rfl | (simp; done) | (simp [*]; done)), H', ⟨by first | omega | exact Nat.le_refl _⟩, ⟨by (with_reducible repeat (first | refine blk_drewN ?_ _ | refine blk_drew ?_ | refine blk_alloc ?_ _)); exact BK283.out⟩, ⟨by (with_reducible repeat (first | refine blk_drewN ?_ _ | refine blk_drew ?_ | refine blk_alloc ?_ _)); exact BK284.out⟩, ⟨by repeat (first | (with_reducible first | exact HB.out | apply below_alloc | apply pw_below_drewN | apply below_drew1 | refine below_set ?_ GE283.out | refine below_set ?_ GE284.out) | exact HB.out)⟩⟩
          · rw [if_neg c17] at H
            have c17b0 : decide (a1_2 < 0) = false := decide_eq_false c17
            clear c17
            by_cases c21 : a1_2 > (l0_2.length : Int)
            · rw [if_pos c21] at H
              have c21b0 : decide ((l0_2.length : Int) < a1_2) = true := decide_eq_true c21
              clear c21
              have H' := Aside0.mk H
              clear H
              have hnb22 := NB284_283.out
              have hnc22 := NB283_284.out
              have hcz23_0 : w6.cell? ⟨gb284, 0, none⟩ = some (.int .i64 a1_0) := (blk_cell BK284.out 0).trans rfl
              have hcz23_1 : w6.cell? ⟨gb284, 1, none⟩ = some (.int .i64 a1_1) := (blk_cell BK284.out 1).trans rfl
              have hcz23_2 : w6.cell? ⟨gb284, 2, none⟩ = some (.int .i64 a1_2) := (blk_cell BK284.out 2).trans rfl
              have hcz23_3 : w6.cell? ⟨gb284, 3, none⟩ = some (.int .i64 a1_3) := (blk_cell BK284.out 3).trans rfl
              have hfz23_0 := blk_frozen BK284.out 0
              have hfz23_1 := blk_frozen BK284.out 1
              have hfz23_2 := blk_frozen BK284.out 2
              have hfz23_3 := blk_frozen BK284.out 3
              have hcz24_0 : w6.cell? ⟨gb283, 0, none⟩ = some (.string a0_0) := (blk_cell BK283.out 0).trans rfl
              have hcz24_1 : w6.cell? ⟨gb283, 1, none⟩ = some (.int .u32 a0_1) := (blk_cell BK283.out 1).trans rfl
              have hcz24_2 : w6.cell? ⟨gb283, 2, none⟩ = some (.slice A0_2 l0_2.length c0_2) := (blk_cell BK283.out 2).trans rfl
              have hcz24_3 : w6.cell? ⟨gb283, 3, none⟩ = some (.slice A0_3 l0_3.length c0_3) := (blk_cell BK283.out 3).trans rfl
              have hcz24_4 : w6.cell? ⟨gb283, 4, none⟩ = some (.slice A0_4 l0_4.length c0_4) := (blk_cell BK283.out 4).trans rfl
              have hcz24_5 : w6.cell? ⟨gb283, 5, none⟩ = some (.slice A0_5 l0_5.length c0_5) := (blk_cell BK283.out 5).trans rfl
              have hcz24_6 : w6.cell? ⟨gb283, 6, none⟩ = some (.int .i64 a0_6) := (blk_cell BK283.out 6).trans rfl
              have hcz24_7 : w6.cell? ⟨gb283, 7, none⟩ = some (.int .i64 a0_7) := (blk_cell BK283.out 7).trans rfl
              have hcz24_8 : w6.cell? ⟨gb283, 8, none⟩ = some (.int .i64 a0_8) := (blk_cell BK283.out 8).trans rfl
              have hfz24_0 := blk_frozen BK283.out 0
              have hfz24_1 := blk_frozen BK283.out 1
              have hfz24_2 := blk_frozen BK283.out 2
              have hfz24_3 := blk_frozen BK283.out 3
              have hfz24_4 := blk_frozen BK283.out 4
              have hfz24_5 := blk_frozen BK283.out 5
              have hfz24_6 := blk_frozen BK283.out 6
              have hfz24_7 := blk_frozen BK283.out 7
              have hfz24_8 := blk_frozen BK283.out 8
              go_wp2
              go_meet
              case rel => exact ⟨_, (true), (by first | rfl | (simp; done) | (simp [*]; done)), H', ⟨by first | omega | exact Nat.le_refl _⟩, ⟨by (with_reducible repeat (first | refine blk_drewN ?_ _ | refine blk_drew ?_ | refine blk_alloc ?_ _)); exact BK283.out⟩, ⟨by (with_reducible repeat (first | refine blk_drewN ?_ _ | refine blk_drew ?_ | refine blk_alloc ?_ _)); exact BK284.out⟩, ⟨by repeat (first | (with_reducible first | exact HB.out | apply below_alloc | apply pw_below_drewN | apply below_drew1 | refine below_set ?_ GE283.out | refine below_set ?_ GE284.out) | exact HB.out)⟩⟩
            · rw [if_neg c21] at H
              have c21b0 : decide ((l0_2.length : Int) < a1_2) = false := decide_eq_false c21
              clear c21
              by_cases c25 : a1_3 < 0
              · rw [if_pos c25] at H
                have c25b0 : decide (a1_3 < 0) = true := decide_eq_true c25
                clear c25
                have H' := Aside0.mk H
                clear H
                have hnb26 := NB284_283.out
                have hnc26 := NB283_284.out
                have hcz27_0 : w6.cell? ⟨gb284, 0, none⟩ = some (.int .i64 a1_0) := (blk_cell BK284.out 0).trans rfl
                have hcz27_1 : w6.cell? ⟨gb284, 1, none⟩ = some (.int .i64 a1_1) := (blk_cell BK284.out 1).trans rfl
                have hcz27_2 : w6.cell? ⟨gb284, 2, none⟩ = some (.int .i64 a1_2) := (blk_cell BK284.out 2).trans rfl
                have hcz27_3 : w6.cell? ⟨gb284, 3, none⟩ = some (.int .i64 a1_3) := (blk_cell BK284.out 3).trans rfl
                have hfz27_0 := blk_frozen BK284.out 0
                have hfz27_1 := blk_frozen BK284.out 1
                have hfz27_2 := blk_frozen BK284.out 2
                have hfz27_3 := blk_frozen BK284.out 3
                have hcz28_0 : w6.cell? ⟨gb283, 0, none⟩ = some (.string a0_0) := (blk_cell BK283.out 0).trans rfl
                have hcz28_1 : w6.cell? ⟨gb283, 1, none⟩ = some (.int .u32 a0_1) := (blk_cell BK283.out 1).trans rfl
                have hcz28_2 : w6.cell? ⟨gb283, 2, none⟩ = some (.slice A0_2 l0_2.length c0_2) := (blk_cell BK283.out 2).trans rfl
                have hcz28_3 : w6.cell? ⟨gb283, 3, none⟩ = some (.slice A0_3 l0_3.length c0_3) := (blk_cell BK283.out 3).trans rfl
                have hcz28_4 : w6.cell? ⟨gb283, 4, none⟩ = some (.slice A0_4 l0_4.length c0_4) := (blk_cell BK283.out 4).trans rfl
                have hcz28_5 : w6.cell? ⟨gb283, 5, none⟩ = some (.slice A0_5 l0_5.length c0_5) := (blk_cell BK283.out 5).trans rfl
                have hcz28_6 : w6.cell? ⟨gb283, 6, none⟩ = some (.int .i64 a0_6) := (blk_cell BK283.out 6).trans rfl
                have hcz28_7 : w6.cell? ⟨gb283, 7, none⟩ = some (.int .i64 a0_7) := (blk_cell BK283.out 7).trans rfl
                have hcz28_8 : w6.cell? ⟨gb283, 8, none⟩ = some (.int .i64 a0_8) := (blk_cell BK283.out 8).trans rfl
                have hfz28_0 := blk_frozen BK283.out 0
                have hfz28_1 := blk_frozen BK283.out 1
                have hfz28_2 := blk_frozen BK283.out 2
                have hfz28_3 := blk_frozen BK283.out 3
                have hfz28_4 := blk_frozen BK283.out 4
                have hfz28_5 := blk_frozen BK283.out 5
                have hfz28_6 := blk_frozen BK283.out 6
                have hfz28_7 := blk_frozen BK283.out 7
                have hfz28_8 := blk_frozen BK283.out 8
                go_wp2
                go_meet
                case rel => exact ⟨_, (true), (by first | rfl | (simp; done) | (simp [*]; done)), H', ⟨by first | omega | exact Nat.le_refl _⟩, ⟨by (with_reducible repeat (first | refine blk_drewN ?_ _ | refine blk_drew ?_ | refine blk_alloc ?_ _)); exact BK283.out⟩, ⟨by (with_reducible repeat (first | refine blk_drewN ?_ _ | refine blk_drew ?_ | refine blk_alloc ?_ _)); exact BK284.out⟩, ⟨by repeat (first | (with_reducible first | exact HB.out | apply below_alloc | apply pw_below_drewN | apply below_drew1 | refine below_set ?_ GE283.out | refine below_set ?_ GE284.out) | exact HB.out)⟩⟩
              · rw [if_neg c25] at H
                have c25b0 : decide (a1_3 < 0) = false := decide_eq_false c25
                clear c25
                have H' := Aside0.mk H
                clear H
                have hnb29 := NB284_283.out
                have hnc29 := NB283_284.out
                have hcz30_0 : w6.cell? ⟨gb284, 0, none⟩ = some (.int .i64 a1_0) := (blk_cell BK284.out 0).trans rfl
                have hcz30_1 : w6.cell? ⟨gb284, 1, none⟩ = some (.int .i64 a1_1) := (blk_cell BK284.out 1).trans rfl
                have hcz30_2 : w6.cell? ⟨gb284, 2, none⟩ = some (.int .i64 a1_2) := (blk_cell BK284.out 2).trans rfl
                have hcz30_3 : w6.cell? ⟨gb284, 3, none⟩ = some (.int .i64 a1_3) := (blk_cell BK284.out 3).trans rfl
                have hfz30_0 := blk_frozen BK284.out 0
                have hfz30_1 := blk_frozen BK284.out 1
                have hfz30_2 := blk_frozen BK284.out 2
                have hfz30_3 := blk_frozen BK284.out 3
                have hcz31_0 : w6.cell? ⟨gb283, 0, none⟩ = some (.string a0_0) := (blk_cell BK283.out 0).trans rfl
                have hcz31_1 : w6.cell? ⟨gb283, 1, none⟩ = some (.int .u32 a0_1) := (blk_cell BK283.out 1).trans rfl
                have hcz31_2 : w6.cell? ⟨gb283, 2, none⟩ = some (.slice A0_2 l0_2.length c0_2) := (blk_cell BK283.out 2).trans rfl
                have hcz31_3 : w6.cell? ⟨gb283, 3, none⟩ = some (.slice A0_3 l0_3.length c0_3) := (blk_cell BK283.out 3).trans rfl
                have hcz31_4 : w6.cell? ⟨gb283, 4, none⟩ = some (.slice A0_4 l0_4.length c0_4) := (blk_cell BK283.out 4).trans rfl
                have hcz31_5 : w6.cell? ⟨gb283, 5, none⟩ = some (.slice A0_5 l0_5.length c0_5) := (blk_cell BK283.out 5).trans rfl
                have hcz31_6 : w6.cell? ⟨gb283, 6, none⟩ = some (.int .i64 a0_6) := (blk_cell BK283.out 6).trans rfl
                have hcz31_7 : w6.cell? ⟨gb283, 7, none⟩ = some (.int .i64 a0_7) := (blk_cell BK283.out 7).trans rfl
                have hcz31_8 : w6.cell? ⟨gb283, 8, none⟩ = some (.int .i64 a0_8) := (blk_cell BK283.out 8).trans rfl
                have hfz31_0 := blk_frozen BK283.out 0
                have hfz31_1 := blk_frozen BK283.out 1
                have hfz31_2 := blk_frozen BK283.out 2
                have hfz31_3 := blk_frozen BK283.out 3
                have hfz31_4 := blk_frozen BK283.out 4
                have hfz31_5 := blk_frozen BK283.out 5
                have hfz31_6 := blk_frozen BK283.out 6
                have hfz31_7 := blk_frozen BK283.out 7
                have hfz31_8 := blk_frozen BK283.out 8
                go_wp2
                go_meet
                case rel => exact ⟨_, (decide (a1_3 > 16384)), (by first | rfl | (simp; done) | (simp [*]; done)), H', ⟨by first | omega | exact Nat.le_refl _⟩, ⟨by (with_reducible repeat (first | refine blk_drewN ?_ _ | refine blk_drew ?_ | refine blk_alloc ?_ _)); exact BK283.out⟩, ⟨by (with_reducible repeat (first | refine blk_drewN ?_ _ | refine blk_drew ?_ | refine blk_alloc ?_ _)); exact BK284.out⟩, ⟨by repeat (first | (with_reducible first | exact HB.out | apply below_alloc | apply pw_below_drewN | apply below_drew1 | refine below_set ?_ GE283.out | refine below_set ?_ GE284.out) | exact HB.out)⟩⟩
  case rest =>
    clear HC4
    try clear c1
    try clear c2
    try clear p2
    try clear p6
    try clear c7
    try clear c8
    try clear c9
    try clear c9b0
    try clear c9b1
    try clear c10
    try clear c10b0
    try clear c11
    try clear c13
    try clear c13b0
    try clear c14
    try clear c17
    try clear c17b0
    try clear c18
    try clear c21
    try clear c21b0
    try clear c22
    try clear c25
    try clear c25b0
    try clear c26
    try clear c29
    try clear hcz12_0
    try clear hcz12_1
    try clear hcz12_2
    try clear hcz12_3
    try clear hcz15_0
    try clear hcz15_1
    try clear hcz15_2
    try clear hcz15_3
    try clear hcz16_0
    try clear hcz16_1
    try clear hcz16_2
    try clear hcz16_3
    try clear hcz16_4
    try clear hcz16_5
    try clear hcz16_6
    try clear hcz16_7
    try clear hcz16_8
    try clear hcz19_0
    try clear hcz19_1
    try clear hcz19_2
    try clear hcz19_3
    try clear hcz20_0
    try clear hcz20_1
    try clear hcz20_2
    try clear hcz20_3
    try clear hcz20_4
    try clear hcz20_5
    try clear hcz20_6
    try clear hcz20_7
    try clear hcz20_8
    try clear hcz23_0
    try clear hcz23_1
    try clear hcz23_2
    try clear hcz23_3
    try clear hcz24_0
    try clear hcz24_1
    try clear hcz24_2
    try clear hcz24_3
    try clear hcz24_4
    try clear hcz24_5
    try clear hcz24_6
    try clear hcz24_7
    try clear hcz24_8
    try clear hcz27_0
    try clear hcz27_1
    try clear hcz27_2
    try clear hcz27_3
    try clear hcz28_0
    try clear hcz28_1
    try clear hcz28_2
    try clear hcz28_3
    try clear hcz28_4
    try clear hcz28_5
    try clear hcz28_6
    try clear hcz28_7
    try clear hcz28_8
    try clear hcz30_0
    try clear hcz30_1
    try clear hcz30_2
    try clear hcz30_3
    try clear hcz31_0
    try clear hcz31_1
    try clear hcz31_2
    try clear hcz31_3
    try clear hcz31_4
    try clear hcz31_5
    try clear hcz31_6
    try clear hcz31_7
    try clear hcz31_8
    try clear hcz8_0
    try clear hcz8_1
    try clear hcz8_2
    try clear hcz8_3
    try clear hfz12_0
    try clear hfz12_1
    try clear hfz12_2
    try clear hfz12_3
    try clear hfz15_0
    try clear hfz15_1
    try clear hfz15_2
    try clear hfz15_3
    try clear hfz16_0
    try clear hfz16_1
    try clear hfz16_2
    try clear hfz16_3
    try clear hfz16_4
    try clear hfz16_5
    try clear hfz16_6
    try clear hfz16_7
    try clear hfz16_8
    try clear hfz19_0
    try clear hfz19_1
    try clear hfz19_2
    try clear hfz19_3
    try clear hfz20_0
    try clear hfz20_1
    try clear hfz20_2
    try clear hfz20_3
    try clear hfz20_4
    try clear hfz20_5
    try clear hfz20_6
    try clear hfz20_7
    try clear hfz20_8
    try clear hfz23_0
    try clear hfz23_1
    try clear hfz23_2
    try clear hfz23_3
    try clear hfz24_0
    try clear hfz24_1
    try clear hfz24_2
    try clear hfz24_3
    try clear hfz24_4
    try clear hfz24_5
    try clear hfz24_6
    try clear hfz24_7
    try clear hfz24_8
    try clear hfz27_0
    try clear hfz27_1
    try clear hfz27_2
    try clear hfz27_3
    try clear hfz28_0
    try clear hfz28_1
    try clear hfz28_2
    try clear hfz28_3
    try clear hfz28_4
    try clear hfz28_5
    try clear hfz28_6
    try clear hfz28_7
    try clear hfz28_8
    try clear hfz30_0
    try clear hfz30_1
    try clear hfz30_2
    try clear hfz30_3
    try clear hfz31_0
    try clear hfz31_1
    try clear hfz31_2
    try clear hfz31_3
    try clear hfz31_4
    try clear hfz31_5
    try clear hfz31_6
    try clear hfz31_7
    try clear hfz31_8
    try clear hfz8_0
    try clear hfz8_1
    try clear hfz8_2
    try clear hfz8_3
    obtain ⟨kq, x48_3, rfl, HA, HJ3, BK283, BK284, HB⟩ := hcut
    cases kq with
    | zero => exact absurd HA.out (by simp [objfile_fits.j0])
    | succ kj3 =>
      have H := HA.out
      clear HA
      simp only [objfile_fits.j0] at H
      by_cases c32 : x48_3 = true
      · subst c32
        have H1 : (some false) = some r := by rw [if_pos rfl] at H; exact H
        clear H
        have H := H1
        clear H1
        obtain rfl := Option.some.inj H
        go_wp2
        go_ret
        exact ⟨by first | rfl | (simp [errW_none, errW_some] <;> rfl) | (simp [*, errW_none, errW_some] <;> rfl), by repeat (first | (with_reducible first | exact HB.out | apply below_alloc | apply pw_below_drewN | apply below_drew1 | refine below_set ?_ GE283.out | refine below_set ?_ GE284.out) | exact HB.out)⟩
      · replace c32 := Bool.eq_false_iff.mpr c32
        subst c32
        have H1 : (if a1_1 = 4 then (if a1_2 = 0 then (some (a1_3 == 0)) else (some false)) else (if a1_1 = 3 then (some (decide (a1_2 > 0))) else (if a1_2 > 0 then (some true) else (if a1_1 = 1 then (if a1_3 ≤ a0_6 then (some true) else (if a1_1 = 2 then (some (decide (a1_3 < a0_7))) else (some false))) else (if a1_1 = 2 then (some (decide (a1_3 < a0_7))) else (some false)))))) = some r := by rw [if_neg (show ¬ (false = true) by decide)] at H; exact H
        clear H
        have H := H1
        clear H1
        by_cases c33 : a1_1 = 4
        · rw [if_pos c33] at H
          have c33b0 : (a1_1 == 4) = true := beq_iff_eq.mpr c33
          have c33b1 : (a1_1 != 4) = false := bne_eq_false_iff_eq.mpr c33
          clear c33
          by_cases c34 : a1_2 = 0
          · rw [if_pos c34] at H
            have c34b0 : (a1_2 == 0) = true := beq_iff_eq.mpr c34
            have c34b1 : (a1_2 != 0) = false := bne_eq_false_iff_eq.mpr c34
            clear c34
            obtain rfl := Option.some.inj H
            have hnb35 := NB284_283.out
            have hnc35 := NB283_284.out
            have hcz36_0 : wc.cell? ⟨gb284, 0, none⟩ = some (.int .i64 a1_0) := (blk_cell BK284.out 0).trans rfl
            have hcz36_1 : wc.cell? ⟨gb284, 1, none⟩ = some (.int .i64 a1_1) := (blk_cell BK284.out 1).trans rfl
            have hcz36_2 : wc.cell? ⟨gb284, 2, none⟩ = some (.int .i64 a1_2) := (blk_cell BK284.out 2).trans rfl
            have hcz36_3 : wc.cell? ⟨gb284, 3, none⟩ = some (.int .i64 a1_3) := (blk_cell BK284.out 3).trans rfl
            have hfz36_0 := blk_frozen BK284.out 0
            have hfz36_1 := blk_frozen BK284.out 1
            have hfz36_2 := blk_frozen BK284.out 2
            have hfz36_3 := blk_frozen BK284.out 3
            go_wp2
            go_ret
            exact ⟨by first | rfl | (simp [errW_none, errW_some] <;> rfl) | (simp [*, errW_none, errW_some] <;> rfl), by repeat (first | (with_reducible first | exact HB.out | apply below_alloc | apply pw_below_drewN | apply below_drew1 | refine below_set ?_ GE283.out | refine below_set ?_ GE284.out) | exact HB.out)⟩
          · rw [if_neg c34] at H
            have c34b0 : (a1_2 == 0) = false := beq_eq_false_iff_ne.mpr c34
            have c34b1 : (a1_2 != 0) = true := bne_iff_ne.mpr c34
            obtain rfl := Option.some.inj H
            have hnb37 := NB284_283.out
            have hnc37 := NB283_284.out
            have hcz38_0 : wc.cell? ⟨gb284, 0, none⟩ = some (.int .i64 a1_0) := (blk_cell BK284.out 0).trans rfl
            have hcz38_1 : wc.cell? ⟨gb284, 1, none⟩ = some (.int .i64 a1_1) := (blk_cell BK284.out 1).trans rfl
            have hcz38_2 : wc.cell? ⟨gb284, 2, none⟩ = some (.int .i64 a1_2) := (blk_cell BK284.out 2).trans rfl
            have hcz38_3 : wc.cell? ⟨gb284, 3, none⟩ = some (.int .i64 a1_3) := (blk_cell BK284.out 3).trans rfl
            have hfz38_0 := blk_frozen BK284.out 0
            have hfz38_1 := blk_frozen BK284.out 1
            have hfz38_2 := blk_frozen BK284.out 2
            have hfz38_3 := blk_frozen BK284.out 3
            go_wp2
            go_ret
            exact ⟨by first | rfl | (simp [errW_none, errW_some] <;> rfl) | (simp [*, errW_none, errW_some] <;> rfl), by repeat (first | (with_reducible first | exact HB.out | apply below_alloc | apply pw_below_drewN | apply below_drew1 | refine below_set ?_ GE283.out | refine below_set ?_ GE284.out) | exact HB.out)⟩
        · rw [if_neg c33] at H
          have c33b0 : (a1_1 == 4) = false := beq_eq_false_iff_ne.mpr c33
          have c33b1 : (a1_1 != 4) = true := bne_iff_ne.mpr c33
          by_cases c39 : a1_1 = 3
          · rw [if_pos c39] at H
            have c39b0 : (a1_1 == 3) = true := beq_iff_eq.mpr c39
            have c39b1 : (a1_1 != 3) = false := bne_eq_false_iff_eq.mpr c39
            clear c39
            obtain rfl := Option.some.inj H
            have hnb40 := NB284_283.out
            have hnc40 := NB283_284.out
            have hcz41_0 : wc.cell? ⟨gb284, 0, none⟩ = some (.int .i64 a1_0) := (blk_cell BK284.out 0).trans rfl
            have hcz41_1 : wc.cell? ⟨gb284, 1, none⟩ = some (.int .i64 a1_1) := (blk_cell BK284.out 1).trans rfl
            have hcz41_2 : wc.cell? ⟨gb284, 2, none⟩ = some (.int .i64 a1_2) := (blk_cell BK284.out 2).trans rfl
            have hcz41_3 : wc.cell? ⟨gb284, 3, none⟩ = some (.int .i64 a1_3) := (blk_cell BK284.out 3).trans rfl
            have hfz41_0 := blk_frozen BK284.out 0
            have hfz41_1 := blk_frozen BK284.out 1
            have hfz41_2 := blk_frozen BK284.out 2
            have hfz41_3 := blk_frozen BK284.out 3
            go_wp2
            go_ret
            exact ⟨by first | rfl | (simp [errW_none, errW_some] <;> rfl) | (simp [*, errW_none, errW_some] <;> rfl), by repeat (first | (with_reducible first | exact HB.out | apply below_alloc | apply pw_below_drewN | apply below_drew1 | refine below_set ?_ GE283.out | refine below_set ?_ GE284.out) | exact HB.out)⟩
          · rw [if_neg c39] at H
            have c39b0 : (a1_1 == 3) = false := beq_eq_false_iff_ne.mpr c39
            have c39b1 : (a1_1 != 3) = true := bne_iff_ne.mpr c39
            by_cases c42 : a1_2 > 0
            · rw [if_pos c42] at H
              have c42b0 : decide (0 < a1_2) = true := decide_eq_true c42
              clear c42
              obtain rfl := Option.some.inj H
              have hnb43 := NB284_283.out
              have hnc43 := NB283_284.out
              have hcz44_0 : wc.cell? ⟨gb284, 0, none⟩ = some (.int .i64 a1_0) := (blk_cell BK284.out 0).trans rfl
              have hcz44_1 : wc.cell? ⟨gb284, 1, none⟩ = some (.int .i64 a1_1) := (blk_cell BK284.out 1).trans rfl
              have hcz44_2 : wc.cell? ⟨gb284, 2, none⟩ = some (.int .i64 a1_2) := (blk_cell BK284.out 2).trans rfl
              have hcz44_3 : wc.cell? ⟨gb284, 3, none⟩ = some (.int .i64 a1_3) := (blk_cell BK284.out 3).trans rfl
              have hfz44_0 := blk_frozen BK284.out 0
              have hfz44_1 := blk_frozen BK284.out 1
              have hfz44_2 := blk_frozen BK284.out 2
              have hfz44_3 := blk_frozen BK284.out 3
              go_wp2
              go_ret
              exact ⟨by first | rfl | (simp [errW_none, errW_some] <;> rfl) | (simp [*, errW_none, errW_some] <;> rfl), by repeat (first | (with_reducible first | exact HB.out | apply below_alloc | apply pw_below_drewN | apply below_drew1 | refine below_set ?_ GE283.out | refine below_set ?_ GE284.out) | exact HB.out)⟩
            · rw [if_neg c42] at H
              have c42b0 : decide (0 < a1_2) = false := decide_eq_false c42
              clear c42
              by_cases c45 : a1_1 = 1
              · rw [if_pos c45] at H
                have c45b0 : (a1_1 == 1) = true := beq_iff_eq.mpr c45
                have c45b1 : (a1_1 != 1) = false := bne_eq_false_iff_eq.mpr c45
                clear c45
                by_cases c46 : a1_3 ≤ a0_6
                · rw [if_pos c46] at H
                  have c46b0 : decide (a1_3 ≤ a0_6) = true := decide_eq_true c46
                  clear c46
                  obtain rfl := Option.some.inj H
                  have hnb47 := NB284_283.out
                  have hnc47 := NB283_284.out
                  have hcz48_0 : wc.cell? ⟨gb284, 0, none⟩ = some (.int .i64 a1_0) := (blk_cell BK284.out 0).trans rfl
                  have hcz48_1 : wc.cell? ⟨gb284, 1, none⟩ = some (.int .i64 a1_1) := (blk_cell BK284.out 1).trans rfl
                  have hcz48_2 : wc.cell? ⟨gb284, 2, none⟩ = some (.int .i64 a1_2) := (blk_cell BK284.out 2).trans rfl
                  have hcz48_3 : wc.cell? ⟨gb284, 3, none⟩ = some (.int .i64 a1_3) := (blk_cell BK284.out 3).trans rfl
                  have hfz48_0 := blk_frozen BK284.out 0
                  have hfz48_1 := blk_frozen BK284.out 1
                  have hfz48_2 := blk_frozen BK284.out 2
                  have hfz48_3 := blk_frozen BK284.out 3
                  have hcz49_0 : wc.cell? ⟨gb283, 0, none⟩ = some (.string a0_0) := (blk_cell BK283.out 0).trans rfl
                  have hcz49_1 : wc.cell? ⟨gb283, 1, none⟩ = some (.int .u32 a0_1) := (blk_cell BK283.out 1).trans rfl
                  have hcz49_2 : wc.cell? ⟨gb283, 2, none⟩ = some (.slice A0_2 l0_2.length c0_2) := (blk_cell BK283.out 2).trans rfl
                  have hcz49_3 : wc.cell? ⟨gb283, 3, none⟩ = some (.slice A0_3 l0_3.length c0_3) := (blk_cell BK283.out 3).trans rfl
                  have hcz49_4 : wc.cell? ⟨gb283, 4, none⟩ = some (.slice A0_4 l0_4.length c0_4) := (blk_cell BK283.out 4).trans rfl
                  have hcz49_5 : wc.cell? ⟨gb283, 5, none⟩ = some (.slice A0_5 l0_5.length c0_5) := (blk_cell BK283.out 5).trans rfl
                  have hcz49_6 : wc.cell? ⟨gb283, 6, none⟩ = some (.int .i64 a0_6) := (blk_cell BK283.out 6).trans rfl
                  have hcz49_7 : wc.cell? ⟨gb283, 7, none⟩ = some (.int .i64 a0_7) := (blk_cell BK283.out 7).trans rfl
                  have hcz49_8 : wc.cell? ⟨gb283, 8, none⟩ = some (.int .i64 a0_8) := (blk_cell BK283.out 8).trans rfl
                  have hfz49_0 := blk_frozen BK283.out 0
                  have hfz49_1 := blk_frozen BK283.out 1
                  have hfz49_2 := blk_frozen BK283.out 2
                  have hfz49_3 := blk_frozen BK283.out 3
                  have hfz49_4 := blk_frozen BK283.out 4
                  have hfz49_5 := blk_frozen BK283.out 5
                  have hfz49_6 := blk_frozen BK283.out 6
                  have hfz49_7 := blk_frozen BK283.out 7
                  have hfz49_8 := blk_frozen BK283.out 8
                  go_wp2
                  go_ret
                  exact ⟨by first | rfl | (simp [errW_none, errW_some] <;> rfl) | (simp [*, errW_none, errW_some] <;> rfl), by repeat (first | (with_reducible first | exact HB.out | apply below_alloc | apply pw_below_drewN | apply below_drew1 | refine below_set ?_ GE283.out | refine below_set ?_ GE284.out) | exact HB.out)⟩
                · rw [if_neg c46] at H
                  have c46b0 : decide (a1_3 ≤ a0_6) = false := decide_eq_false c46
                  clear c46
                  by_cases c50 : a1_1 = 2
                  · rw [if_pos c50] at H
                    have c50b0 : (a1_1 == 2) = true := beq_iff_eq.mpr c50
                    have c50b1 : (a1_1 != 2) = false := bne_eq_false_iff_eq.mpr c50
                    clear c50
                    obtain rfl := Option.some.inj H
                    have hnb51 := NB284_283.out
                    have hnc51 := NB283_284.out
                    have hcz52_0 : wc.cell? ⟨gb284, 0, none⟩ = some (.int .i64 a1_0) := (blk_cell BK284.out 0).trans rfl
                    have hcz52_1 : wc.cell? ⟨gb284, 1, none⟩ = some (.int .i64 a1_1) := (blk_cell BK284.out 1).trans rfl
                    have hcz52_2 : wc.cell? ⟨gb284, 2, none⟩ = some (.int .i64 a1_2) := (blk_cell BK284.out 2).trans rfl
                    have hcz52_3 : wc.cell? ⟨gb284, 3, none⟩ = some (.int .i64 a1_3) := (blk_cell BK284.out 3).trans rfl
                    have hfz52_0 := blk_frozen BK284.out 0
                    have hfz52_1 := blk_frozen BK284.out 1
                    have hfz52_2 := blk_frozen BK284.out 2
                    have hfz52_3 := blk_frozen BK284.out 3
                    have hcz53_0 : wc.cell? ⟨gb283, 0, none⟩ = some (.string a0_0) := (blk_cell BK283.out 0).trans rfl
                    have hcz53_1 : wc.cell? ⟨gb283, 1, none⟩ = some (.int .u32 a0_1) := (blk_cell BK283.out 1).trans rfl
                    have hcz53_2 : wc.cell? ⟨gb283, 2, none⟩ = some (.slice A0_2 l0_2.length c0_2) := (blk_cell BK283.out 2).trans rfl
                    have hcz53_3 : wc.cell? ⟨gb283, 3, none⟩ = some (.slice A0_3 l0_3.length c0_3) := (blk_cell BK283.out 3).trans rfl
                    have hcz53_4 : wc.cell? ⟨gb283, 4, none⟩ = some (.slice A0_4 l0_4.length c0_4) := (blk_cell BK283.out 4).trans rfl
                    have hcz53_5 : wc.cell? ⟨gb283, 5, none⟩ = some (.slice A0_5 l0_5.length c0_5) := (blk_cell BK283.out 5).trans rfl
                    have hcz53_6 : wc.cell? ⟨gb283, 6, none⟩ = some (.int .i64 a0_6) := (blk_cell BK283.out 6).trans rfl
                    have hcz53_7 : wc.cell? ⟨gb283, 7, none⟩ = some (.int .i64 a0_7) := (blk_cell BK283.out 7).trans rfl
                    have hcz53_8 : wc.cell? ⟨gb283, 8, none⟩ = some (.int .i64 a0_8) := (blk_cell BK283.out 8).trans rfl
                    have hfz53_0 := blk_frozen BK283.out 0
                    have hfz53_1 := blk_frozen BK283.out 1
                    have hfz53_2 := blk_frozen BK283.out 2
                    have hfz53_3 := blk_frozen BK283.out 3
                    have hfz53_4 := blk_frozen BK283.out 4
                    have hfz53_5 := blk_frozen BK283.out 5
                    have hfz53_6 := blk_frozen BK283.out 6
                    have hfz53_7 := blk_frozen BK283.out 7
                    have hfz53_8 := blk_frozen BK283.out 8
                    go_wp2
                    go_ret
                    exact ⟨by first | rfl | (simp [errW_none, errW_some] <;> rfl) | (simp [*, errW_none, errW_some] <;> rfl), by repeat (first | (with_reducible first | exact HB.out | apply below_alloc | apply pw_below_drewN | apply below_drew1 | refine below_set ?_ GE283.out | refine below_set ?_ GE284.out) | exact HB.out)⟩
                  · rw [if_neg c50] at H
                    have c50b0 : (a1_1 == 2) = false := beq_eq_false_iff_ne.mpr c50
                    have c50b1 : (a1_1 != 2) = true := bne_iff_ne.mpr c50
                    obtain rfl := Option.some.inj H
                    have hnb54 := NB284_283.out
                    have hnc54 := NB283_284.out
                    have hcz55_0 : wc.cell? ⟨gb284, 0, none⟩ = some (.int .i64 a1_0) := (blk_cell BK284.out 0).trans rfl
                    have hcz55_1 : wc.cell? ⟨gb284, 1, none⟩ = some (.int .i64 a1_1) := (blk_cell BK284.out 1).trans rfl
                    have hcz55_2 : wc.cell? ⟨gb284, 2, none⟩ = some (.int .i64 a1_2) := (blk_cell BK284.out 2).trans rfl
                    have hcz55_3 : wc.cell? ⟨gb284, 3, none⟩ = some (.int .i64 a1_3) := (blk_cell BK284.out 3).trans rfl
                    have hfz55_0 := blk_frozen BK284.out 0
                    have hfz55_1 := blk_frozen BK284.out 1
                    have hfz55_2 := blk_frozen BK284.out 2
                    have hfz55_3 := blk_frozen BK284.out 3
                    have hcz56_0 : wc.cell? ⟨gb283, 0, none⟩ = some (.string a0_0) := (blk_cell BK283.out 0).trans rfl
                    have hcz56_1 : wc.cell? ⟨gb283, 1, none⟩ = some (.int .u32 a0_1) := (blk_cell BK283.out 1).trans rfl
                    have hcz56_2 : wc.cell? ⟨gb283, 2, none⟩ = some (.slice A0_2 l0_2.length c0_2) := (blk_cell BK283.out 2).trans rfl
                    have hcz56_3 : wc.cell? ⟨gb283, 3, none⟩ = some (.slice A0_3 l0_3.length c0_3) := (blk_cell BK283.out 3).trans rfl
                    have hcz56_4 : wc.cell? ⟨gb283, 4, none⟩ = some (.slice A0_4 l0_4.length c0_4) := (blk_cell BK283.out 4).trans rfl
                    have hcz56_5 : wc.cell? ⟨gb283, 5, none⟩ = some (.slice A0_5 l0_5.length c0_5) := (blk_cell BK283.out 5).trans rfl
                    have hcz56_6 : wc.cell? ⟨gb283, 6, none⟩ = some (.int .i64 a0_6) := (blk_cell BK283.out 6).trans rfl
                    have hcz56_7 : wc.cell? ⟨gb283, 7, none⟩ = some (.int .i64 a0_7) := (blk_cell BK283.out 7).trans rfl
                    have hcz56_8 : wc.cell? ⟨gb283, 8, none⟩ = some (.int .i64 a0_8) := (blk_cell BK283.out 8).trans rfl
                    have hfz56_0 := blk_frozen BK283.out 0
                    have hfz56_1 := blk_frozen BK283.out 1
                    have hfz56_2 := blk_frozen BK283.out 2
                    have hfz56_3 := blk_frozen BK283.out 3
                    have hfz56_4 := blk_frozen BK283.out 4
                    have hfz56_5 := blk_frozen BK283.out 5
                    have hfz56_6 := blk_frozen BK283.out 6
                    have hfz56_7 := blk_frozen BK283.out 7
                    have hfz56_8 := blk_frozen BK283.out 8
                    go_wp2
                    go_ret
                    exact ⟨by first | rfl | (simp [errW_none, errW_some] <;> rfl) | (simp [*, errW_none, errW_some] <;> rfl), by repeat (first | (with_reducible first | exact HB.out | apply below_alloc | apply pw_below_drewN | apply below_drew1 | refine below_set ?_ GE283.out | refine below_set ?_ GE284.out) | exact HB.out)⟩
              · rw [if_neg c45] at H
                have c45b0 : (a1_1 == 1) = false := beq_eq_false_iff_ne.mpr c45
                have c45b1 : (a1_1 != 1) = true := bne_iff_ne.mpr c45
                by_cases c57 : a1_1 = 2
                · rw [if_pos c57] at H
                  have c57b0 : (a1_1 == 2) = true := beq_iff_eq.mpr c57
                  have c57b1 : (a1_1 != 2) = false := bne_eq_false_iff_eq.mpr c57
                  clear c57
                  obtain rfl := Option.some.inj H
                  have hnb58 := NB284_283.out
                  have hnc58 := NB283_284.out
                  have hcz59_0 : wc.cell? ⟨gb284, 0, none⟩ = some (.int .i64 a1_0) := (blk_cell BK284.out 0).trans rfl
                  have hcz59_1 : wc.cell? ⟨gb284, 1, none⟩ = some (.int .i64 a1_1) := (blk_cell BK284.out 1).trans rfl
                  have hcz59_2 : wc.cell? ⟨gb284, 2, none⟩ = some (.int .i64 a1_2) := (blk_cell BK284.out 2).trans rfl
                  have hcz59_3 : wc.cell? ⟨gb284, 3, none⟩ = some (.int .i64 a1_3) := (blk_cell BK284.out 3).trans rfl
                  have hfz59_0 := blk_frozen BK284.out 0
                  have hfz59_1 := blk_frozen BK284.out 1
                  have hfz59_2 := blk_frozen BK284.out 2
                  have hfz59_3 := blk_frozen BK284.out 3
                  have hcz60_0 : wc.cell? ⟨gb283, 0, none⟩ = some (.string a0_0) := (blk_cell BK283.out 0).trans rfl
                  have hcz60_1 : wc.cell? ⟨gb283, 1, none⟩ = some (.int .u32 a0_1) := (blk_cell BK283.out 1).trans rfl
                  have hcz60_2 : wc.cell? ⟨gb283, 2, none⟩ = some (.slice A0_2 l0_2.length c0_2) := (blk_cell BK283.out 2).trans rfl
                  have hcz60_3 : wc.cell? ⟨gb283, 3, none⟩ = some (.slice A0_3 l0_3.length c0_3) := (blk_cell BK283.out 3).trans rfl
                  have hcz60_4 : wc.cell? ⟨gb283, 4, none⟩ = some (.slice A0_4 l0_4.length c0_4) := (blk_cell BK283.out 4).trans rfl
                  have hcz60_5 : wc.cell? ⟨gb283, 5, none⟩ = some (.slice A0_5 l0_5.length c0_5) := (blk_cell BK283.out 5).trans rfl
                  have hcz60_6 : wc.cell? ⟨gb283, 6, none⟩ = some (.int .i64 a0_6) := (blk_cell BK283.out 6).trans rfl
                  have hcz60_7 : wc.cell? ⟨gb283, 7, none⟩ = some (.int .i64 a0_7) := (blk_cell BK283.out 7).trans rfl
                  have hcz60_8 : wc.cell? ⟨gb283, 8, none⟩ = some (.int .i64 a0_8) := (blk_cell BK283.out 8).trans rfl
                  have hfz60_0 := blk_frozen BK283.out 0
                  have hfz60_1 := blk_frozen BK283.out 1
                  have hfz60_2 := blk_frozen BK283.out 2
                  have hfz60_3 := blk_frozen BK283.out 3
                  have hfz60_4 := blk_frozen BK283.out 4
                  have hfz60_5 := blk_frozen BK283.out 5
                  have hfz60_6 := blk_frozen BK283.out 6
                  have hfz60_7 := blk_frozen BK283.out 7
                  have hfz60_8 := blk_frozen BK283.out 8
                  go_wp2
                  go_ret
                  exact ⟨by first | rfl | (simp [errW_none, errW_some] <;> rfl) | (simp [*, errW_none, errW_some] <;> rfl), by repeat (first | (with_reducible first | exact HB.out | apply below_alloc | apply pw_below_drewN | apply below_drew1 | refine below_set ?_ GE283.out | refine below_set ?_ GE284.out) | exact HB.out)⟩
                · rw [if_neg c57] at H
                  have c57b0 : (a1_1 == 2) = false := beq_eq_false_iff_ne.mpr c57
                  have c57b1 : (a1_1 != 2) = true := bne_iff_ne.mpr c57
                  obtain rfl := Option.some.inj H
                  have hnb61 := NB284_283.out
                  have hnc61 := NB283_284.out
                  have hcz62_0 : wc.cell? ⟨gb284, 0, none⟩ = some (.int .i64 a1_0) := (blk_cell BK284.out 0).trans rfl
                  have hcz62_1 : wc.cell? ⟨gb284, 1, none⟩ = some (.int .i64 a1_1) := (blk_cell BK284.out 1).trans rfl
                  have hcz62_2 : wc.cell? ⟨gb284, 2, none⟩ = some (.int .i64 a1_2) := (blk_cell BK284.out 2).trans rfl
                  have hcz62_3 : wc.cell? ⟨gb284, 3, none⟩ = some (.int .i64 a1_3) := (blk_cell BK284.out 3).trans rfl
                  have hfz62_0 := blk_frozen BK284.out 0
                  have hfz62_1 := blk_frozen BK284.out 1
                  have hfz62_2 := blk_frozen BK284.out 2
                  have hfz62_3 := blk_frozen BK284.out 3
                  go_wp2
                  go_ret
                  exact ⟨by first | rfl | (simp [errW_none, errW_some] <;> rfl) | (simp [*, errW_none, errW_some] <;> rfl), by repeat (first | (with_reducible first | exact HB.out | apply below_alloc | apply pw_below_drewN | apply below_drew1 | refine below_set ?_ GE283.out | refine below_set ?_ GE284.out) | exact HB.out)⟩

end Go.Proofs.Ytehdhmhpmkkneaa.PAll
