-- PRINTED by print.py (a twelfth state) out of the translation. Not trusted: Lean checks it.
import Derived.Test.YtehdhmhpmkkneaaPAllx0
import Derived.Test.YtehdhmhpmkkneaaMi
import Derived.Test.YtehdhmhpmkkneaaPAlly27
namespace Go.Proofs.Ytehdhmhpmkkneaa.PAll
open Go.RowKit Go.Proofs.YtehdhmhpmkkneaaW.PrintWords Go.Proofs.YtehdhmhpmkkneaaW.PrintLast Go.Proofs.YtehdhmhpmkkneaaW.PrintMore
attribute [local go_sem] max2_int min2_int max_two min_two max_three min_three max_four min_four   -- for this text's walks alone
set_option linter.unusedVariables false
set_option linter.unusedSimpArgs false

/-! ### pascalineref15_Fits: function 89 -/
def pascalineref15_Fits.j0 : Nat → Bool → ByteArray → Int → List (S93) → List Int → List (S134) → List (S131) → Int → Int → Int → Int → Int → Int → Int → Option (Bool)
  | 0, _, _, _, _, _, _, _, _, _, _, _, _, _, _ => none
  | k + 1, x56, x308000, x308001, x308002, x308003, x308004, x308005, x308006, x308007, x308008, x309000, x309001, x309002, x309003 => if x56 = true then (some false) else (if x309001 = 4 then (if x309002 = 0 then (some (x309003 == 0)) else (some false)) else (if x309002 > 0 then (some true) else (if x309001 = 1 then (if x309003 ≤ x308006 then (some true) else (if x309001 = 2 then (some (decide (x309003 < x308007))) else (some false))) else (if x309001 = 2 then (some (decide (x309003 < x308007))) else (some false)))))
def pascalineref15_Fits.f (k : Nat) (a0_0 : ByteArray) (a0_1 : Int) (l0_2 : List (S93)) (l0_3 : List Int) (l0_4 : List (S134)) (l0_5 : List (S131)) (a0_6 : Int) (a0_7 : Int) (a0_8 : Int) (a1_0 : Int) (a1_1 : Int) (a1_2 : Int) (a1_3 : Int) : Option (Bool) := (pascalineref15_Words.f a1_1).bind fun t309 => (if t309 = 0 then (pascalineref15_Fits.j0 k true a0_0 a0_1 l0_2 l0_3 l0_4 l0_5 a0_6 a0_7 a0_8 a1_0 a1_1 a1_2 a1_3) else (if a1_0 < 0 then (pascalineref15_Fits.j0 k true a0_0 a0_1 l0_2 l0_3 l0_4 l0_5 a0_6 a0_7 a0_8 a1_0 a1_1 a1_2 a1_3) else (if a1_0 > (l0_3.length : Int) then (pascalineref15_Fits.j0 k true a0_0 a0_1 l0_2 l0_3 l0_4 l0_5 a0_6 a0_7 a0_8 a1_0 a1_1 a1_2 a1_3) else (if (wrap64 (a1_0 + t309)) > (l0_3.length : Int) then (pascalineref15_Fits.j0 k true a0_0 a0_1 l0_2 l0_3 l0_4 l0_5 a0_6 a0_7 a0_8 a1_0 a1_1 a1_2 a1_3) else (if a1_2 < 0 then (pascalineref15_Fits.j0 k true a0_0 a0_1 l0_2 l0_3 l0_4 l0_5 a0_6 a0_7 a0_8 a1_0 a1_1 a1_2 a1_3) else (if a1_2 > (l0_2.length : Int) then (pascalineref15_Fits.j0 k true a0_0 a0_1 l0_2 l0_3 l0_4 l0_5 a0_6 a0_7 a0_8 a1_0 a1_1 a1_2 a1_3) else (if a1_3 < 0 then (pascalineref15_Fits.j0 k true a0_0 a0_1 l0_2 l0_3 l0_4 l0_5 a0_6 a0_7 a0_8 a1_0 a1_1 a1_2 a1_3) else (pascalineref15_Fits.j0 k (decide (a1_3 > 16384)) a0_0 a0_1 l0_2 l0_3 l0_4 l0_5 a0_6 a0_7 a0_8 a1_0 a1_1 a1_2 a1_3))))))))
theorem pascalineref15_Fits.mono_l : ∀ k, (∀ y0 y1 y2 y3 y4 y5 y6 y7 y8 y9 y10 y11 y12 y13, LeO (pascalineref15_Fits.j0 k y0 y1 y2 y3 y4 y5 y6 y7 y8 y9 y10 y11 y12 y13) (pascalineref15_Fits.j0 (k + 1) y0 y1 y2 y3 y4 y5 y6 y7 y8 y9 y10 y11 y12 y13))
  | 0 => fun _ _ _ _ _ _ _ _ _ _ _ _ _ _ r h => by simp [pascalineref15_Fits.j0] at h
  | k + 1 => by
    have ih0 := pascalineref15_Fits.mono_l k
    · intro y0 y1 y2 y3 y4 y5 y6 y7 y8 y9 y10 y11 y12 y13
      unfold pascalineref15_Fits.j0
      repeat' first
      | (with_reducible exact ih0 _ _ _ _ _ _ _ _ _ _ _ _ _ _)
      | (with_reducible exact LeO.refl _)
      | (with_reducible exact LeO.none _)
      | (with_reducible refine LeO.ite ?_ ?_)
      | (with_reducible refine LeO.bind ?_ (fun _ => ?_))
      | exact ih0 _ _ _ _ _ _ _ _ _ _ _ _ _ _
      | exact LeO.none _
      | refine LeO.ite ?_ ?_
      | refine LeO.bind ?_ (fun _ => ?_)
theorem pascalineref15_Fits.mono : ∀ a0 a1 a2 a3 a4 a5 a6 a7 a8 a9 a10 a11 a12 k, LeO (pascalineref15_Fits.f k a0 a1 a2 a3 a4 a5 a6 a7 a8 a9 a10 a11 a12) (pascalineref15_Fits.f (k + 1) a0 a1 a2 a3 a4 a5 a6 a7 a8 a9 a10 a11 a12) := by
  intro a0 a1 a2 a3 a4 a5 a6 a7 a8 a9 a10 a11 a12 k
  have ih0 := pascalineref15_Fits.mono_l k
  unfold pascalineref15_Fits.f
  repeat' first
      | (with_reducible exact ih0 _ _ _ _ _ _ _ _ _ _ _ _ _ _)
      | (with_reducible exact LeO.refl _)
      | (with_reducible exact LeO.none _)
      | (with_reducible refine LeO.ite ?_ ?_)
      | (with_reducible refine LeO.bind ?_ (fun _ => ?_))
      | exact ih0 _ _ _ _ _ _ _ _ _ _ _ _ _ _
      | exact LeO.none _
      | refine LeO.ite ?_ ?_
      | refine LeO.bind ?_ (fun _ => ?_)
set_option maxHeartbeats 8000000 in
set_option maxRecDepth 100000 in
theorem pascalineref15_Fits.calls (k : Nat) (a0_0 : ByteArray) (a0_1 : Int) (A0_2 : Option Addr) (c0_2 : Nat) (l0_2 : List (S93)) (A0_3 : Option Addr) (c0_3 : Nat) (l0_3 : List Int) (A0_4 : Option Addr) (c0_4 : Nat) (l0_4 : List (S134)) (A0_5 : Option Addr) (c0_5 : Nat) (l0_5 : List (S131)) (a0_6 : Int) (a0_7 : Int) (a0_8 : Int) (a1_0 : Int) (a1_1 : Int) (a1_2 : Int) (a1_3 : Int) (r : Bool) (w : World) (hr0_2 : Kd.C k93 w A0_2 l0_2.length l0_2) (hc0_2 : l0_2.length ≤ c0_2) (hr0_3 : Kd.C (Kd.int .u32) w A0_3 l0_3.length l0_3) (hc0_3 : l0_3.length ≤ c0_3) (hr0_4 : Kd.C k134 w A0_4 l0_4.length l0_4) (hc0_4 : l0_4.length ≤ c0_4) (hr0_5 : Kd.C k131 w A0_5 l0_5.length l0_5) (hc0_5 : l0_5.length ≤ c0_5) (h : pascalineref15_Fits.f k a0_0 a0_1 l0_2 l0_3 l0_4 l0_5 a0_6 a0_7 a0_8 a1_0 a1_1 a1_2 a1_3 = some r) :
    Calls Try.prog 89 #[.agg #[.string a0_0, .int .u32 a0_1, .slice A0_2 l0_2.length c0_2, .slice A0_3 l0_3.length c0_3, .slice A0_4 l0_4.length c0_4, .slice A0_5 l0_5.length c0_5, .int .i64 a0_6, .int .i64 a0_7, .int .i64 a0_8], .agg #[.int .i64 a1_0, .int .i64 a1_1, .int .i64 a1_2, .int .i64 a1_3]] w fun e w' => e = .returned (.bool r) ∧ Below w.heap.size w w' := by
  have hu64 := Try.underlying64
  have hu134 := Try.underlying134
  have HR0_2 := Aside0.mk hr0_2
  have HC0_2 := Aside0.mk hc0_2
  clear hr0_2 hc0_2
  have HR0_3 := Aside0.mk hr0_3
  have HC0_3 := Aside0.mk hc0_3
  clear hr0_3 hc0_3
  have HR0_4 := Aside0.mk hr0_4
  have HC0_4 := Aside0.mk hc0_4
  clear hr0_4 hc0_4
  have HR0_5 := Aside0.mk hr0_5
  have HC0_5 := Aside0.mk hc0_5
  clear hr0_5 hc0_5
  have HB := Aside0.mk (Below.refl w.heap.size w)
  have H : ((pascalineref15_Words.f a1_1).bind fun t309 => (if t309 = 0 then (pascalineref15_Fits.j0 k true a0_0 a0_1 l0_2 l0_3 l0_4 l0_5 a0_6 a0_7 a0_8 a1_0 a1_1 a1_2 a1_3) else (if a1_0 < 0 then (pascalineref15_Fits.j0 k true a0_0 a0_1 l0_2 l0_3 l0_4 l0_5 a0_6 a0_7 a0_8 a1_0 a1_1 a1_2 a1_3) else (if a1_0 > (l0_3.length : Int) then (pascalineref15_Fits.j0 k true a0_0 a0_1 l0_2 l0_3 l0_4 l0_5 a0_6 a0_7 a0_8 a1_0 a1_1 a1_2 a1_3) else (if (wrap64 (a1_0 + t309)) > (l0_3.length : Int) then (pascalineref15_Fits.j0 k true a0_0 a0_1 l0_2 l0_3 l0_4 l0_5 a0_6 a0_7 a0_8 a1_0 a1_1 a1_2 a1_3) else (if a1_2 < 0 then (pascalineref15_Fits.j0 k true a0_0 a0_1 l0_2 l0_3 l0_4 l0_5 a0_6 a0_7 a0_8 a1_0 a1_1 a1_2 a1_3) else (if a1_2 > (l0_2.length : Int) then (pascalineref15_Fits.j0 k true a0_0 a0_1 l0_2 l0_3 l0_4 l0_5 a0_6 a0_7 a0_8 a1_0 a1_1 a1_2 a1_3) else (if a1_3 < 0 then (pascalineref15_Fits.j0 k true a0_0 a0_1 l0_2 l0_3 l0_4 l0_5 a0_6 a0_7 a0_8 a1_0 a1_1 a1_2 a1_3) else (pascalineref15_Fits.j0 k (decide (a1_3 > 16384)) a0_0 a0_1 l0_2 l0_3 l0_4 l0_5 a0_6 a0_7 a0_8 a1_0 a1_1 a1_2 a1_3))))))))) = some r := h
  clear h
  replace H := Option.bind_eq_some_iff.mp H
  obtain ⟨t309, A30, H⟩ := H
  replace H : (if t309 = 0 then (pascalineref15_Fits.j0 k true a0_0 a0_1 l0_2 l0_3 l0_4 l0_5 a0_6 a0_7 a0_8 a1_0 a1_1 a1_2 a1_3) else (if a1_0 < 0 then (pascalineref15_Fits.j0 k true a0_0 a0_1 l0_2 l0_3 l0_4 l0_5 a0_6 a0_7 a0_8 a1_0 a1_1 a1_2 a1_3) else (if a1_0 > (l0_3.length : Int) then (pascalineref15_Fits.j0 k true a0_0 a0_1 l0_2 l0_3 l0_4 l0_5 a0_6 a0_7 a0_8 a1_0 a1_1 a1_2 a1_3) else (if (wrap64 (a1_0 + t309)) > (l0_3.length : Int) then (pascalineref15_Fits.j0 k true a0_0 a0_1 l0_2 l0_3 l0_4 l0_5 a0_6 a0_7 a0_8 a1_0 a1_1 a1_2 a1_3) else (if a1_2 < 0 then (pascalineref15_Fits.j0 k true a0_0 a0_1 l0_2 l0_3 l0_4 l0_5 a0_6 a0_7 a0_8 a1_0 a1_1 a1_2 a1_3) else (if a1_2 > (l0_2.length : Int) then (pascalineref15_Fits.j0 k true a0_0 a0_1 l0_2 l0_3 l0_4 l0_5 a0_6 a0_7 a0_8 a1_0 a1_1 a1_2 a1_3) else (if a1_3 < 0 then (pascalineref15_Fits.j0 k true a0_0 a0_1 l0_2 l0_3 l0_4 l0_5 a0_6 a0_7 a0_8 a1_0 a1_1 a1_2 a1_3) else (pascalineref15_Fits.j0 k (decide (a1_3 > 16384)) a0_0 a0_1 l0_2 l0_3 l0_4 l0_5 a0_6 a0_7 a0_8 a1_0 a1_1 a1_2 a1_3)))))))) = some r := H
  have A3 := Aside0.mk A30
  clear A30
  have HC4 := Aside0.mk H
  clear H
  go_enter Try.func89, Try.ntmps89
  go_upto_region 2 with (first | ((with_reducible refine gate_dst (N := 2) rfl ?_); (try (refine gate_guard (by rfl) ?_; dsimp only)); refine box_event ?hg (N := 2) ?hd (cs := #[.string a0_0, .int .u32 a0_1, .slice A0_2 l0_2.length c0_2, .slice A0_3 l0_3.length c0_3, .slice A0_4 l0_4.length c0_4, .slice A0_5 l0_5.length c0_5, .int .i64 a0_6, .int .i64 a0_7, .int .i64 a0_8]) (t := 64) ?hr ?_; (case hd => rfl); (case hg => rfl); (case hr => first | (go_simp; done) | (go_simp; rfl)); intro gb307 hg w5 hbox hb; have n0_ := Aside0.mk (below_step (by repeat (first | (with_reducible first | exact HB.out | apply below_alloc | apply pw_below_drewN | apply below_drew1) | exact HB.out)) hb); have n1_ := Aside0.mk (hbox); have n2_ := Aside0.mk ((by rw [hg]; exact (below_size (by repeat (first | (with_reducible first | exact HB.out | apply below_alloc | apply pw_below_drewN | apply below_drew1) | exact HB.out))) : w.heap.size ≤ gb307)); have n3_ := Aside0.mk ((by rw [hg]; exact (below_size (by repeat (first | (with_reducible first | exact HB.out | apply below_alloc | apply pw_below_drewN | apply below_drew1) | exact HB.out))) : w.heap.size ≤ gb307)); clear HB; have HB := n0_; have BK307 := n1_; have GW307 := n2_; have GE307 := n3_; clear n0_ n1_ n2_ n3_; clear hb hbox hg) | ((with_reducible refine gate_dst (N := 3) rfl ?_); (try (refine gate_guard (by rfl) ?_; dsimp only)); refine box_event ?hg (N := 3) ?hd (cs := #[.int .i64 a1_0, .int .i64 a1_1, .int .i64 a1_2, .int .i64 a1_3]) (t := 134) ?hr ?_; (case hd => rfl); (case hg => rfl); (case hr => first | (go_simp; done) | (go_simp; rfl)); intro gb308 hg w6 hbox hb; have n0_ := Aside0.mk (blk_below (g := gb307) (o := .cells #[.string a0_0, .int .u32 a0_1, .slice A0_2 l0_2.length c0_2, .slice A0_3 l0_3.length c0_3, .slice A0_4 l0_4.length c0_4, .slice A0_5 l0_5.length c0_5, .int .i64 a0_6, .int .i64 a0_7, .int .i64 a0_8] 64 (0, 0)) (by (with_reducible repeat (first | refine blk_drewN ?_ _ | refine blk_drew ?_ | refine blk_alloc ?_ _)); exact BK307.out) hb); have n1_ := Aside0.mk (below_step (by repeat (first | (with_reducible first | exact HB.out | apply below_alloc | apply pw_below_drewN | apply below_drew1 | refine below_set ?_ GE307.out) | exact HB.out)) hb); have n2_ := Aside0.mk (hbox); have n3_ := Aside0.mk ((by rw [hg]; exact (below_size (by repeat (first | (with_reducible first | exact HB.out | apply below_alloc | apply pw_below_drewN | apply below_drew1 | refine below_set ?_ GE307.out) | exact HB.out))) : w.heap.size ≤ gb308)); have n4_ := Aside0.mk ((by rw [hg]; exact (below_size (by repeat (first | (with_reducible first | exact HB.out | apply below_alloc | apply pw_below_drewN | apply below_drew1 | refine below_set ?_ GE307.out) | exact HB.out))) : w.heap.size ≤ gb308)); have n5_ := Aside0.mk ((by rw [hg]; exact Nat.ne_of_lt (blk_lt (g := gb307) (o := .cells #[.string a0_0, .int .u32 a0_1, .slice A0_2 l0_2.length c0_2, .slice A0_3 l0_3.length c0_3, .slice A0_4 l0_4.length c0_4, .slice A0_5 l0_5.length c0_5, .int .i64 a0_6, .int .i64 a0_7, .int .i64 a0_8] 64 (0, 0)) (by (with_reducible repeat (first | refine blk_drewN ?_ _ | refine blk_drew ?_ | refine blk_alloc ?_ _)); exact BK307.out)) : gb307 ≠ gb308)); have n6_ := Aside0.mk ((by rw [hg]; exact Nat.ne_of_gt (blk_lt (g := gb307) (o := .cells #[.string a0_0, .int .u32 a0_1, .slice A0_2 l0_2.length c0_2, .slice A0_3 l0_3.length c0_3, .slice A0_4 l0_4.length c0_4, .slice A0_5 l0_5.length c0_5, .int .i64 a0_6, .int .i64 a0_7, .int .i64 a0_8] 64 (0, 0)) (by (with_reducible repeat (first | refine blk_drewN ?_ _ | refine blk_drew ?_ | refine blk_alloc ?_ _)); exact BK307.out)) : gb308 ≠ gb307)); clear BK307; clear HB; have BK307 := n0_; have HB := n1_; have BK308 := n2_; have GW308 := n3_; have GE308 := n4_; have NB307_308 := n5_; have NB308_307 := n6_; clear n0_ n1_ n2_ n3_ n4_ n5_ n6_; clear hb hbox hg; have hnb7 := NB308_307.out; have hnc7 := NB307_308.out; have hcz8_0 : w6.cell? ⟨gb308, 0, none⟩ = some (.int .i64 a1_0) := (blk_cell BK308.out 0).trans rfl; have hcz8_1 : w6.cell? ⟨gb308, 1, none⟩ = some (.int .i64 a1_1) := (blk_cell BK308.out 1).trans rfl; have hcz8_2 : w6.cell? ⟨gb308, 2, none⟩ = some (.int .i64 a1_2) := (blk_cell BK308.out 2).trans rfl; have hcz8_3 : w6.cell? ⟨gb308, 3, none⟩ = some (.int .i64 a1_3) := (blk_cell BK308.out 3).trans rfl; have hfz8_0 := blk_frozen BK308.out 0; have hfz8_1 := blk_frozen BK308.out 1; have hfz8_2 := blk_frozen BK308.out 2; have hfz8_3 := blk_frozen BK308.out 3) | ((with_reducible refine gate_callee (f := 90) rfl ?_); refine goesL_ (some 8) rfl rfl Try.func90 (by kernel_rfl) rfl #[.int .i64 a1_1] rfl (by (try simp only [List.map_toArray, List.map_cons, List.map_nil]); first | done | rfl | (simp only [List.length_drop, List.length_take]; rfl)) ?_; (with_reducible refine (pascalineref15_Words.calls a1_1 t309 _ A3.out).mono ?_); rintro e w' ⟨rfl, ⟨nd, rfl⟩⟩; refine ⟨_, rfl, ?_⟩))
  (try simp only [Act.put, List.setIfInBounds_toArray, List.set_cons_zero, List.set_cons_succ])
  go_cut [56] (fun v56 wc => ∃ (kq : Nat) (x56_3 : Bool), v56 = .bool x56_3 ∧ Aside0 (pascalineref15_Fits.j0 kq x56_3 a0_0 a0_1 l0_2 l0_3 l0_4 l0_5 a0_6 a0_7 a0_8 a1_0 a1_1 a1_2 a1_3 = some r) ∧ Aside0 (kq ≤ k) ∧ Aside0 (wc.heap[gb307]? = some (.cells #[.string a0_0, .int .u32 a0_1, (.slice A0_2 l0_2.length c0_2), (.slice A0_3 l0_3.length c0_3), (.slice A0_4 l0_4.length c0_4), (.slice A0_5 l0_5.length c0_5), .int .i64 a0_6, .int .i64 a0_7, .int .i64 a0_8] 64 (0, 0))) ∧ Aside0 (wc.heap[gb308]? = some (.cells #[.int .i64 a1_0, .int .i64 a1_1, .int .i64 a1_2, .int .i64 a1_3] 134 (0, 0))) ∧ Aside0 (Below w.heap.size w wc))
  case first =>
    have H := HC4.out
    clear HC4
    by_cases c9 : t309 = 0
    · rw [if_pos c9] at H
      have c9b0 : (t309 == 0) = true := beq_iff_eq.mpr c9
      have c9b1 : (t309 != 0) = false := bne_eq_false_iff_eq.mpr c9
      clear c9
      (first | rw [c9b0] | (simp only [i64_w, i32_w]; rw [c9b0]) | skip)
      have H' := Aside0.mk H
      clear H
      go_wp2
      go_meet
      case rel => exact ⟨_, (true), (by first | rfl | (simp; done) | (simp [*]; done)), H', ⟨by first | omega | exact Nat.le_refl _⟩, ⟨by (with_reducible repeat (first | refine blk_drewN ?_ _ | refine blk_drew ?_ | refine blk_alloc ?_ _)); exact BK307.out⟩, ⟨by (with_reducible repeat (first | refine blk_drewN ?_ _ | refine blk_drew ?_ | refine blk_alloc ?_ _)); exact BK308.out⟩, ⟨by repeat (first | (with_reducible first | exact HB.out | apply below_alloc | apply pw_below_drewN | apply below_drew1 | refine below_set ?_ GE307.out | refine below_set ?_ GE308.out) | exact HB.out)⟩⟩
    · rw [if_neg c9] at H
      have c9b0 : (t309 == 0) = false := beq_eq_false_iff_ne.mpr c9
      have c9b1 : (t309 != 0) = true := bne_iff_ne.mpr c9
      (first | rw [c9b0] | (simp only [i64_w, i32_w]; rw [c9b0]) | skip)
      by_cases c10 : a1_0 < 0
      · rw [if_pos c10] at H
        have c10b0 : decide (a1_0 < 0) = true := decide_eq_true c10
        clear c10
        have H' := Aside0.mk H
        clear H
        have hnb11 := NB308_307.out
        have hnc11 := NB307_308.out
        have hcz12_0 : w6.cell? ⟨gb308, 0, none⟩ = some (.int .i64 a1_0) := (blk_cell BK308.out 0).trans rfl
        have hcz12_1 : w6.cell? ⟨gb308, 1, none⟩ = some (.int .i64 a1_1) := (blk_cell BK308.out 1).trans rfl
        have hcz12_2 : w6.cell? ⟨gb308, 2, none⟩ = some (.int .i64 a1_2) := (blk_cell BK308.out 2).trans rfl
        have hcz12_3 : w6.cell? ⟨gb308, 3, none⟩ = some (.int .i64 a1_3) := (blk_cell BK308.out 3).trans rfl
        have hfz12_0 := blk_frozen BK308.out 0
        have hfz12_1 := blk_frozen BK308.out 1
        have hfz12_2 := blk_frozen BK308.out 2
        have hfz12_3 := blk_frozen BK308.out 3
        go_wp2
        go_meet
        case rel => exact ⟨_, (true), (by first | rfl | (simp; done) | (simp [*]; done)), H', ⟨by first | omega | exact Nat.le_refl _⟩, ⟨by (with_reducible repeat (first | refine blk_drewN ?_ _ | refine blk_drew ?_ | refine blk_alloc ?_ _)); exact BK307.out⟩, ⟨by (with_reducible repeat (first | refine blk_drewN ?_ _ | refine blk_drew ?_ | refine blk_alloc ?_ _)); exact BK308.out⟩, ⟨by repeat (first | (with_reducible first | exact HB.out | apply below_alloc | apply pw_below_drewN | apply below_drew1 | refine below_set ?_ GE307.out | refine below_set ?_ GE308.out) | exact HB.out)⟩⟩
      · rw [if_neg c10] at H
        have c10b0 : decide (a1_0 < 0) = false := decide_eq_false c10
        clear c10
        by_cases c13 : a1_0 > (l0_3.length : Int)
        · rw [if_pos c13] at H
          have c13b0 : decide ((l0_3.length : Int) < a1_0) = true := decide_eq_true c13
          clear c13
          have H' := Aside0.mk H
          clear H
          have hnb14 := NB308_307.out
          have hnc14 := NB307_308.out
          have hcz15_0 : w6.cell? ⟨gb308, 0, none⟩ = some (.int .i64 a1_0) := (blk_cell BK308.out 0).trans rfl
          have hcz15_1 : w6.cell? ⟨gb308, 1, none⟩ = some (.int .i64 a1_1) := (blk_cell BK308.out 1).trans rfl
          have hcz15_2 : w6.cell? ⟨gb308, 2, none⟩ = some (.int .i64 a1_2) := (blk_cell BK308.out 2).trans rfl
          have hcz15_3 : w6.cell? ⟨gb308, 3, none⟩ = some (.int .i64 a1_3) := (blk_cell BK308.out 3).trans rfl
          have hfz15_0 := blk_frozen BK308.out 0
          have hfz15_1 := blk_frozen BK308.out 1
          have hfz15_2 := blk_frozen BK308.out 2
          have hfz15_3 := blk_frozen BK308.out 3
          have hcz16_0 : w6.cell? ⟨gb307, 0, none⟩ = some (.string a0_0) := (blk_cell BK307.out 0).trans rfl
          have hcz16_1 : w6.cell? ⟨gb307, 1, none⟩ = some (.int .u32 a0_1) := (blk_cell BK307.out 1).trans rfl
          have hcz16_2 : w6.cell? ⟨gb307, 2, none⟩ = some (.slice A0_2 l0_2.length c0_2) := (blk_cell BK307.out 2).trans rfl
          have hcz16_3 : w6.cell? ⟨gb307, 3, none⟩ = some (.slice A0_3 l0_3.length c0_3) := (blk_cell BK307.out 3).trans rfl
          have hcz16_4 : w6.cell? ⟨gb307, 4, none⟩ = some (.slice A0_4 l0_4.length c0_4) := (blk_cell BK307.out 4).trans rfl
          have hcz16_5 : w6.cell? ⟨gb307, 5, none⟩ = some (.slice A0_5 l0_5.length c0_5) := (blk_cell BK307.out 5).trans rfl
          have hcz16_6 : w6.cell? ⟨gb307, 6, none⟩ = some (.int .i64 a0_6) := (blk_cell BK307.out 6).trans rfl
          have hcz16_7 : w6.cell? ⟨gb307, 7, none⟩ = some (.int .i64 a0_7) := (blk_cell BK307.out 7).trans rfl
          have hcz16_8 : w6.cell? ⟨gb307, 8, none⟩ = some (.int .i64 a0_8) := (blk_cell BK307.out 8).trans rfl
          have hfz16_0 := blk_frozen BK307.out 0
          have hfz16_1 := blk_frozen BK307.out 1
          have hfz16_2 := blk_frozen BK307.out 2
          have hfz16_3 := blk_frozen BK307.out 3
          have hfz16_4 := blk_frozen BK307.out 4
          have hfz16_5 := blk_frozen BK307.out 5
          have hfz16_6 := blk_frozen BK307.out 6
          have hfz16_7 := blk_frozen BK307.out 7
          have hfz16_8 := blk_frozen BK307.out 8
          go_wp2
          go_meet
          case rel => exact ⟨_, (true), (by first | rfl | (simp; done) | (simp [*]; done)), H', ⟨by first | omega | exact Nat.le_refl _⟩, ⟨by (with_reducible repeat (first | refine blk_drewN ?_ _ | refine blk_drew ?_ | refine blk_alloc ?_ _)); exact BK307.out⟩, ⟨by (with_reducible repeat (first | refine blk_drewN ?_ _ | refine blk_drew ?_ | refine blk_alloc ?_ _)); exact BK308.out⟩, ⟨by repeat (first | (with_reducible first | exact HB.out | apply below_alloc | apply pw_below_drewN | apply below_drew1 | refine below_set ?_ GE307.out | refine below_set ?_ GE308.out) | exact HB.out)⟩⟩
        · rw [if_neg c13] at H
          have c13b0 : decide ((l0_3.length : Int) < a1_0) = false := decide_eq_false c13
          clear c13
          by_cases c17 : (wrap64 (a1_0 + t309)) > (l0_3.length : Int)
          · rw [if_pos c17] at H
            have c17b0 : decide ((l0_3.length : Int) < (wrap64 (a1_0 + t309))) = true := decide_eq_true c17
            clear c17
            have H' := Aside0.mk H
            clear H
            have hnb18 := NB308_307.out
            have hnc18 := NB307_308.out
            have hcz19_0 : w6.cell? ⟨gb308, 0, none⟩ = some (.int .i64 a1_0) := (blk_cell BK308.out 0).trans rfl
            have hcz19_1 : w6.cell? ⟨gb308, 1, none⟩ = some (.int .i64 a1_1) := (blk_cell BK308.out 1).trans rfl
            have hcz19_2 : w6.cell? ⟨gb308, 2, none⟩ = some (.int .i64 a1_2) := (blk_cell BK308.out 2).trans rfl
            have hcz19_3 : w6.cell? ⟨gb308, 3, none⟩ = some (.int .i64 a1_3) := (blk_cell BK308.out 3).trans rfl
            have hfz19_0 := blk_frozen BK308.out 0
            have hfz19_1 := blk_frozen BK308.out 1
            have hfz19_2 := blk_frozen BK308.out 2
            have hfz19_3 := blk_frozen BK308.out 3
            have hcz20_0 : w6.cell? ⟨gb307, 0, none⟩ = some (.string a0_0) := (blk_cell BK307.out 0).trans rfl
            have hcz20_1 : w6.cell? ⟨gb307, 1, none⟩ = some (.int .u32 a0_1) := (blk_cell BK307.out 1).trans rfl
            have hcz20_2 : w6.cell? ⟨gb307, 2, none⟩ = some (.slice A0_2 l0_2.length c0_2) := (blk_cell BK307.out 2).trans rfl
            have hcz20_3 : w6.cell? ⟨gb307, 3, none⟩ = some (.slice A0_3 l0_3.length c0_3) := (blk_cell BK307.out 3).trans rfl
            have hcz20_4 : w6.cell? ⟨gb307, 4, none⟩ = some (.slice A0_4 l0_4.length c0_4) := (blk_cell BK307.out 4).trans rfl
            have hcz20_5 : w6.cell? ⟨gb307, 5, none⟩ = some (.slice A0_5 l0_5.length c0_5) := (blk_cell BK307.out 5).trans rfl
            have hcz20_6 : w6.cell? ⟨gb307, 6, none⟩ = some (.int .i64 a0_6) := (blk_cell BK307.out 6).trans rfl
            have hcz20_7 : w6.cell? ⟨gb307, 7, none⟩ = some (.int .i64 a0_7) := (blk_cell BK307.out 7).trans rfl
            have hcz20_8 : w6.cell? ⟨gb307, 8, none⟩ = some (.int .i64 a0_8) := (blk_cell BK307.out 8).trans rfl
            have hfz20_0 := blk_frozen BK307.out 0
            have hfz20_1 := blk_frozen BK307.out 1
            have hfz20_2 := blk_frozen BK307.out 2
            have hfz20_3 := blk_frozen BK307.out 3
            have hfz20_4 := blk_frozen BK307.out 4
            have hfz20_5 := blk_frozen BK307.out 5
            have hfz20_6 := blk_frozen BK307.out 6
            have hfz20_7 := blk_frozen BK307.out 7
            have hfz20_8 := blk_frozen BK307.out 8
            go_wp2
            go_meet
            case rel => exact ⟨_, (true), (by first | rfl | (simp; done) | (simp [*]; done)), H', ⟨by first | omega | exact Nat.le_refl _⟩, ⟨by (with_reducible repeat (first | refine blk_drewN ?_ _ | refine blk_drew ?_ | refine blk_alloc ?_ _)); exact BK307.out⟩, ⟨by (with_reducible repeat (first | refine blk_drewN ?_ _ | refine blk_drew ?_ | refine blk_alloc ?_ _)); exact BK308.out⟩, ⟨by repeat (first | (with_reducible first | exact HB.out | apply below_alloc | apply pw_below_drewN | apply below_drew1 | refine below_set ?_ GE307.out | refine below_set ?_ GE308.out) | exact HB.out)⟩⟩
          · rw [if_neg c17] at H
            have c17b0 : decide ((l0_3.length : Int) < (wrap64 (a1_0 + t309))) = false := decide_eq_false c17
            clear c17
            by_cases c21 : a1_2 < 0
            · rw [if_pos c21] at H
              have c21b0 : decide (a1_2 < 0) = true := decide_eq_true c21
              clear c21
              have H' := Aside0.mk H
              clear H
              have hnb22 := NB308_307.out
              have hnc22 := NB307_308.out
              have hcz23_0 : w6.cell? ⟨gb308, 0, none⟩ = some (.int .i64 a1_0) := (blk_cell BK308.out 0).trans rfl
              have hcz23_1 : w6.cell? ⟨gb308, 1, none⟩ = some (.int .i64 a1_1) := (blk_cell BK308.out 1).trans rfl
              have hcz23_2 : w6.cell? ⟨gb308, 2, none⟩ = some (.int .i64 a1_2) := (blk_cell BK308.out 2).trans rfl
              have hcz23_3 : w6.cell? ⟨gb308, 3, none⟩ = some (.int .i64 a1_3) := (blk_cell BK308.out 3).trans rfl
              have hfz23_0 := blk_frozen BK308.out 0
              have hfz23_1 := blk_frozen BK308.out 1
              have hfz23_2 := blk_frozen BK308.out 2
              have hfz23_3 := blk_frozen BK308.out 3
              have hcz24_0 : w6.cell? ⟨gb307, 0, none⟩ = some (.string a0_0) := (blk_cell BK307.out 0).trans rfl
              have hcz24_1 : w6.cell? ⟨gb307, 1, none⟩ = some (.int .u32 a0_1) := (blk_cell BK307.out 1).trans rfl
              have hcz24_2 : w6.cell? ⟨gb307, 2, none⟩ = some (.slice A0_2 l0_2.length c0_2) := (blk_cell BK307.out 2).trans rfl
              have hcz24_3 : w6.cell? ⟨gb307, 3, none⟩ = some (.slice A0_3 l0_3.length c0_3) := (blk_cell BK307.out 3).trans rfl
              have hcz24_4 : w6.cell? ⟨gb307, 4, none⟩ = some (.slice A0_4 l0_4.length c0_4) := (blk_cell BK307.out 4).trans rfl
              have hcz24_5 : w6.cell? ⟨gb307, 5, none⟩ = some (.slice A0_5 l0_5.length c0_5) := (blk_cell BK307.out 5).trans rfl
              have hcz24_6 : w6.cell? ⟨gb307, 6, none⟩ = some (.int .i64 a0_6) := (blk_cell BK307.out 6).trans rfl
              have hcz24_7 : w6.cell? ⟨gb307, 7, none⟩ = some (.int .i64 a0_7) := (blk_cell BK307.out 7).trans rfl
              have hcz24_8 : w6.cell? ⟨gb307, 8, none⟩ = some (.int .i64 a0_8) := (blk_cell BK307.out 8).trans rfl
              have hfz24_0 := blk_frozen BK307.out 0
              have hfz24_1 := blk_frozen BK307.out 1
              have hfz24_2 := blk_frozen BK307.out 2
              have hfz24_3 := blk_frozen BK307.out 3
              have hfz24_4 := blk_frozen BK307.out 4
              have hfz24_5 := blk_frozen BK307.out 5
              have hfz24_6 := blk_frozen BK307.out 6
              have hfz24_7 := blk_frozen BK307.out 7
              have hfz24_8 := blk_frozen BK307.out 8
              go_wp2
              go_meet
              case rel => exact ⟨_, (true), (by first | rfl | (simp; done) | (simp [*]; done)), H', ⟨by first | omega | exact Nat.le_refl _⟩, ⟨by (with_reducible repeat (first | refine blk_drewN ?_ _ | refine blk_drew ?_ | refine blk_alloc ?_ _)); exact BK307.out⟩, ⟨by (with_reducible repeat (first | refine blk_drewN ?_ _ | refine blk_drew ?_ | refine blk_alloc ?_ _)); exact BK308.out⟩, ⟨by repeat (first | (with_reducible first | exact HB.out | apply below_alloc | apply pw_below_drewN | apply below_drew1 | refine below_set ?_ GE307.out | refine below_set ?_ GE308.out) | exact HB.out)⟩⟩
            · rw [if_neg c21] at H
              have c21b0 : decide (a1_2 < 0) = false := decide_eq_false c21
              clear c21
              by_cases c25 : a1_2 > (l0_2.length : Int)
              · rw [if_pos c25] at H
                have c25b0 : decide ((l0_2.length : Int) < a1_2) = true := decide_eq_true c25
                clear c25
                have H' := Aside0.mk H
                clear H
                have hnb26 := NB308_307.out
                have hnc26 := NB307_308.out
                have hcz27_0 : w6.cell? ⟨gb308, 0, none⟩ = some (.int .i64 a1_0) := (blk_cell BK308.out 0).trans rfl
                have hcz27_1 : w6.cell? ⟨gb308, 1, none⟩ = some (.int .i64 a1_1) := (blk_cell BK308.out 1).trans rfl
                have hcz27_2 : w6.cell? ⟨gb308, 2, none⟩ = some (.int .i64 a1_2) := (blk_cell BK308.out 2).trans rfl
                have hcz27_3 : w6.cell? ⟨gb308, 3, none⟩ = some (.int .i64 a1_3) := (blk_cell BK308.out 3).trans rfl
                have hfz27_0 := blk_frozen BK308.out 0
                have hfz27_1 := blk_frozen BK308.out 1
                have hfz27_2 := blk_frozen BK308.out 2
                have hfz27_3 := blk_frozen BK308.out 3
                have hcz28_0 : w6.cell? ⟨gb307, 0, none⟩ = some (.string a0_0) := (blk_cell BK307.out 0).trans rfl
                have hcz28_1 : w6.cell? ⟨gb307, 1, none⟩ = some (.int .u32 a0_1) := (blk_cell BK307.out 1).trans rfl
                have hcz28_2 : w6.cell? ⟨gb307, 2, none⟩ = some (.slice A0_2 l0_2.length c0_2) := (blk_cell BK307.out 2).trans rfl
                have hcz28_3 : w6.cell? ⟨gb307, 3, none⟩ = some (.slice A0_3 l0_3.length c0_3) := (blk_cell BK307.out 3).trans rfl
                have hcz28_4 : w6.cell? ⟨gb307, 4, none⟩ = some (.slice A0_4 l0_4.length c0_4) := (blk_cell BK307.out 4).trans rfl
                have hcz28_5 : w6.cell? ⟨gb307, 5, none⟩ = some (.slice A0_5 l0_5.length c0_5) := (blk_cell BK307.out 5).trans rfl
                have hcz28_6 : w6.cell? ⟨gb307, 6, none⟩ = some (.int .i64 a0_6) := (blk_cell BK307.out 6).trans rfl
                have hcz28_7 : w6.cell? ⟨gb307, 7, none⟩ = some (.int .i64 a0_7) := (blk_cell BK307.out 7).trans rfl
                have hcz28_8 : w6.cell? ⟨gb307, 8, none⟩ = some (.int .i64 a0_8) := (blk_cell BK307.out 8).trans rfl
                have hfz28_0 := blk_frozen BK307.out 0
                have hfz28_1 := blk_frozen BK307.out 1
                have hfz28_2 := blk_frozen BK307.out 2
                have hfz28_3 := blk_frozen BK307.out 3
                have hfz28_4 := blk_frozen BK307.out 4
                have hfz28_5 := blk_frozen BK307.out 5
                have hfz28_6 := blk_frozen BK307.out 6
                have hfz28_7 := blk_frozen BK307.out 7
                have hfz28_8 := blk_frozen BK307.out 8
                go_wp2
                go_meet
                case rel => exact ⟨_, (true), (by first | rfl | (simp; done) | (simp [*]; done)), H', ⟨by first | omega | exact Nat.le_refl _⟩, ⟨by (with_reducible repeat (first | refine blk_drewN ?_ _ | refine blk_drew ?_ | refine blk_alloc ?_ _)); exact BK307.out⟩, ⟨by (with_reducible repeat (first | refine blk_drewN ?_ _ | refine blk_drew ?_ | refine blk_alloc ?_ _)); exact BK308.out⟩, ⟨by repeat (first | (with_reducible first | exact HB.out | apply below_alloc | apply pw_below_drewN | apply below_drew1 | refine below_set ?_ GE307.out | refine below_set ?_ GE308.out) | exact HB.out)⟩⟩
              · rw [if_neg c25] at H
                have c25b0 : decide ((l0_2.length : Int) < a1_2) = false := decide_eq_false c25
                clear c25
                by_cases c29 : a1_3 < 0
                · rw [if_pos c29] at H
                  have c29b0 : decide (a1_3 < 0) = true := decide_eq_true c29
                  clear c29
                  have H' := Aside0.mk H
                  clear H
                  have hnb30 := NB308_307.out
                  have hnc30 := NB307_308.out
                  have hcz31_0 : w6.cell? ⟨gb308, 0, none⟩ = some (.int .i64 a1_0) := (blk_cell BK308.out 0).trans rfl
                  have hcz31_1 : w6.cell? ⟨gb308, 1, none⟩ = some (.int .i64 a1_1) := (blk_cell BK308.out 1).trans rfl
                  have hcz31_2 : w6.cell? ⟨gb308, 2, none⟩ = some (.int .i64 a1_2) := (blk_cell BK308.out 2).trans rfl
                  have hcz31_3 : w6.cell? ⟨gb308, 3, none⟩ = some (.int .i64 a1_3) := (blk_cell BK308.out 3).trans rfl
                  have hfz31_0 := blk_frozen BK308.out 0
                  have hfz31_1 := blk_frozen BK308.out 1
                  have hfz31_2 := blk_frozen BK308.out 2
                  have hfz31_3 := blk_frozen BK308.out 3
                  have hcz32_0 : w6.cell? ⟨gb307, 0, none⟩ = some (.string a0_0) := (blk_cell BK307.out 0).trans rfl
                  have hcz32_1 : w6.cell? ⟨gb307, 1, none⟩ = some (.int .u32 a0_1) := (blk_cell BK307.out 1).trans rfl
                  have hcz32_2 : w6.cell? ⟨gb307, 2, none⟩ = some (.slice A0_2 l0_2.length c0_2) := (blk_cell BK307.out 2).trans rfl
                  have hcz32_3 : w6.cell? ⟨gb307, 3, none⟩ = some (.slice A0_3 l0_3.length c0_3) := (blk_cell BK307.out 3).trans rfl
                  have hcz32_4 : w6.cell? ⟨gb307, 4, none⟩ = some (.slice A0_4 l0_4.length c0_4) := (blk_cell BK307.out 4).trans rfl
                  have hcz32_5 : w6.cell? ⟨gb307, 5, none⟩ = some (.slice A0_5 l0_5.length c0_5) := (blk_cell BK307.out 5).trans rfl
                  have hcz32_6 : w6.cell? ⟨gb307, 6, none⟩ = some (.int .i64 a0_6) := (blk_cell BK307.out 6).trans rfl
                  have hcz32_7 : w6.cell? ⟨gb307, 7, none⟩ = some (.int .i64 a0_7) := (blk_cell BK307.out 7).trans rfl
                  have hcz32_8 : w6.cell? ⟨gb307, 8, none⟩ = some (.int .i64 a0_8) := (blk_cell BK307.out 8).trans rfl
                  have hfz32_0 := blk_frozen BK307.out 0
                  have hfz32_1 := blk_frozen BK307.out 1
                  have hfz32_2 := blk_frozen BK307.out 2
                  have hfz32_3 := blk_frozen BK307.out 3
                  have hfz32_4 := blk_frozen BK307.out 4
                  have hfz32_5 := blk_frozen BK307.out 5
                  have hfz32_6 := blk_frozen BK307.out 6
                  have hfz32_7 := blk_frozen BK307.out 7
                  have hfz32_8 := blk_frozen BK307.out 8
                  go_wp2
                  go_meet
                  case rel => exact ⟨_, (true), (by first | rfl | (simp; done) | (simp [*]; done)), H', ⟨by first | omega | exact Nat.le_refl _⟩, ⟨by (with_reducible repeat (first | refine blk_drewN ?_ _ | refine blk_drew ?_ | refine blk_alloc ?_ _)); exact BK307.out⟩, ⟨by (with_reducible repeat (first | refine blk_drewN ?_ _ | refine blk_drew ?_ | refine blk_alloc ?_ _)); exact BK308.out⟩, ⟨by repeat (first | (with_reducible first | exact HB.out | apply below_alloc | apply pw_below_drewN | apply below_drew1 | refine below_set ?_ GE307.out | refine below_set ?_ GE308.out) | exact HB.out)⟩⟩
                · rw [if_neg c29] at H
                  have c29b0 : decide (a1_3 < 0) = false := decide_eq_false c29
                  clear c29
                  have H' := Aside0.mk H
                  clear H
                  have hnb33 := NB308_307.out
                  have hnc33 := NB307_308.out
                  have hcz34_0 : w6.cell? ⟨gb308, 0, none⟩ = some (.int .i64 a1_0) := (blk_cell BK308.out 0).trans rfl
                  have hcz34_1 : w6.cell? ⟨gb308, 1, none⟩ = some (.int .i64 a1_1) := (blk_cell BK308.out 1).trans rfl
                  have hcz34_2 : w6.cell? ⟨gb308, 2, none⟩ = some (.int .i64 a1_2) := (blk_cell BK308.out 2).trans rfl
                  have hcz34_3 : w6.cell? ⟨gb308, 3, none⟩ = some (.int .i64 a1_3) := (blk_cell BK308.out 3).trans rfl
                  have hfz34_0 := blk_frozen BK308.out 0
                  have hfz34_1 := blk_frozen BK308.out 1
                  have hfz34_2 := blk_frozen BK308.out 2
                  have hfz34_3 := blk_frozen BK308.out 3
                  have hcz35_0 : w6.cell? ⟨gb307, 0, none⟩ = some (.string a0_0) := (blk_cell BK307.out 0).trans rfl
                  have hcz35_1 : w6.cell? ⟨gb307, 1, none⟩ = some (.int .u32 a0_1) := (blk_cell BK307.out 1).trans rfl
                  have hcz35_2 : w6.cell? ⟨gb307, 2, none⟩ = some (.slice A0_2 l0_2.length c0_2) := (blk_cell BK307.out 2).trans rfl
                  have hcz35_3 : w6.cell? ⟨gb307, 3, none⟩ = some (.slice A0_3 l0_3.length c0_3) := (blk_cell BK307.out 3).trans rfl
                  have hcz35_4 : w6.cell? ⟨gb307, 4, none⟩ = some (.slice A0_4 l0_4.length c0_4) := (blk_cell BK307.out 4).trans rfl
                  have hcz35_5 : w6.cell? ⟨gb307, 5, none⟩ = some (.slice A0_5 l0_5.length c0_5) := (blk_cell BK307.out 5).trans rfl
                  have hcz35_6 : w6.cell? ⟨gb307, 6, none⟩ = some (.int .i64 a0_6) := (blk_cell BK307.out 6).trans rfl
                  have hcz35_7 : w6.cell? ⟨gb307, 7, none⟩ = some (.int .i64 a0_7) := (blk_cell BK307.out 7).trans rfl
                  have hcz35_8 : w6.cell? ⟨gb307, 8, none⟩ = some (.int .i64 a0_8) := (blk_cell BK307.out 8).trans rfl
                  have hfz35_0 := blk_frozen BK307.out 0
                  have hfz35_1 := blk_frozen BK307.out 1
                  have hfz35_2 := blk_frozen BK307.out 2
                  have hfz35_3 := blk_frozen BK307.out 3
                  have hfz35_4 := blk_frozen BK307.out 4
                  have hfz35_5 := blk_frozen BK307.out 5
                  have hfz35_6 := blk_frozen BK307.out 6
                  have hfz35_7 := blk_frozen BK307.out 7
                  have hfz35_8 := blk_frozen BK307.out 8
                  go_wp2
                  go_meet
                  case rel => exact ⟨_, (decide (a1_3 > 16384)), (by first | rfl | (simp; done) | (simp [*]; done)), H', ⟨by first | omega | exact Nat.le_refl _⟩, ⟨by (with_reducible repeat (first | refine blk_drewN ?_ _ | refine blk_drew ?_ | refine blk_alloc ?_ _)); exact BK307.out⟩, ⟨by (with_reducible repeat (first | refine blk_drewN ?_ _ | refine blk_drew ?_ | refine blk_alloc ?_ _)); exact BK308.out⟩, ⟨by repeat (first | (with_reducible first | exact HB.out | apply below_alloc | apply pw_below_drewN | apply below_drew1 | refine below_set ?_ GE307.out | refine below_set ?_ GE308.out) | exact HB.out)⟩⟩
  case rest =>
    clear HC4
    try clear c1
    try clear c2
    try clear p2
    try clear c3
    try clear p6
    try clear c7
    try clear c8
    try clear c9
    try clear c9b0
    try clear c9b1
    try clear c10
    try clear c10b0
    try clear c11
    try clear c13
    try clear c13b0
    try clear c14
    try clear c17
    try clear c17b0
    try clear c18
    try clear c21
    try clear c21b0
    try clear c22
    try clear c25
    try clear c25b0
    try clear c26
    try clear c29
    try clear c29b0
    try clear c30
    try clear c33
    try clear hcz12_0
    try clear hcz12_1
    try clear hcz12_2
    try clear hcz12_3
    try clear hcz15_0
    try clear hcz15_1
    try clear hcz15_2
    try clear hcz15_3
    try clear hcz16_0
    try clear hcz16_1
    try clear hcz16_2
    try clear hcz16_3
    try clear hcz16_4
    try clear hcz16_5
    try clear hcz16_6
    try clear hcz16_7
    try clear hcz16_8
    try clear hcz19_0
    try clear hcz19_1
    try clear hcz19_2
    try clear hcz19_3
    try clear hcz20_0
    try clear hcz20_1
    try clear hcz20_2
    try clear hcz20_3
    try clear hcz20_4
    try clear hcz20_5
    try clear hcz20_6
    try clear hcz20_7
    try clear hcz20_8
    try clear hcz23_0
    try clear hcz23_1
    try clear hcz23_2
    try clear hcz23_3
    try clear hcz24_0
    try clear hcz24_1
    try clear hcz24_2
    try clear hcz24_3
    try clear hcz24_4
    try clear hcz24_5
    try clear hcz24_6
    try clear hcz24_7
    try clear hcz24_8
    try clear hcz27_0
    try clear hcz27_1
    try clear hcz27_2
    try clear hcz27_3
    try clear hcz28_0
    try clear hcz28_1
    try clear hcz28_2
    try clear hcz28_3
    try clear hcz28_4
    try clear hcz28_5
    try clear hcz28_6
    try clear hcz28_7
    try clear hcz28_8
    try clear hcz31_0
    try clear hcz31_1
    try clear hcz31_2
    try clear hcz31_3
    try clear hcz32_0
    try clear hcz32_1
    try clear hcz32_2
    try clear hcz32_3
    try clear hcz32_4
    try clear hcz32_5
    try clear hcz32_6
    try clear hcz32_7
    try clear hcz32_8
    try clear hcz34_0
    try clear hcz34_1
    try clear hcz34_2
    try clear hcz34_3
    try clear hcz35_0
    try clear hcz35_1
    try clear hcz35_2
    try clear hcz35_3
    try clear hcz35_4
    try clear hcz35_5
    try clear hcz35_6
    try clear hcz35_7
    try clear hcz35_8
    try clear hcz8_0
    try clear hcz8_1
    try clear hcz8_2
    try clear hcz8_3
    try clear hfz12_0
    try clear hfz12_1
    try clear hfz12_2
    try clear hfz12_3
    try clear hfz15_0
    try clear hfz15_1
    try clear hfz15_2
    try clear hfz15_3
    try clear hfz16_0
    try clear hfz16_1
    try clear hfz16_2
    try clear hfz16_3
    try clear hfz16_4
    try clear hfz16_5
    try clear hfz16_6
    try clear hfz16_7
    try clear hfz16_8
    try clear hfz19_0
    try clear hfz19_1
    try clear hfz19_2
    try clear hfz19_3
    try clear hfz20_0
    try clear hfz20_1
    try clear hfz20_2
    try clear hfz20_3
    try clear hfz20_4
    try clear hfz20_5
    try clear hfz20_6
    try clear hfz20_7
    try clear hfz20_8
    try clear hfz23_0
    try clear hfz23_1
    try clear hfz23_2
    try clear hfz23_3
    try clear hfz24_0
    try clear hfz24_1
    try clear hfz24_2
    try clear hfz24_3
    try clear hfz24_4
    try clear hfz24_5
    try clear hfz24_6
    try clear hfz24_7
    try clear hfz24_8
    try clear hfz27_0
    try clear hfz27_1
    try clear hfz27_2
    try clear hfz27_3
    try clear hfz28_0
    try clear hfz28_1
    try clear hfz28_2
    try clear hfz28_3
    try clear hfz28_4
    try clear hfz28_5
    try clear hfz28_6
    try clear hfz28_7
    try clear hfz28_8
    try clear hfz31_0
    try clear hfz31_1
    try clear hfz31_2
    try clear hfz31_3
    try clear hfz32_0
    try clear hfz32_1
    try clear hfz32_2
    try clear hfz32_3
    try clear hfz32_4
    try clear hfz32_5
    try clear hfz32_6
    try clear hfz32_7
    try clear hfz32_8
    try clear hfz34_0
    try clear hfz34_1
    try clear hfz34_2
    try clear hfz34_3
    try clear hfz35_0
    try clear hfz35_1
    try clear hfz35_2
    try clear hfz35_3
    try clear hfz35_4
    try clear hfz35_5
    try clear hfz35_6
    try clear hfz35_7
    try clear hfz35_8
    try clear hfz8_0
    try clear hfz8_1
    try clear hfz8_2
    try clear hfz8_3
    obtain ⟨kq, x56_3, rfl, HA, HJ3, BK307, BK308, HB⟩ := hcut
    cases kq with
    | zero => exact absurd HA.out (by simp [pascalineref15_Fits.j0])
    | succ kj3 =>
      have H := HA.out
      clear HA
      simp only [pascalineref15_Fits.j0] at H
      by_cases c36 : x56_3 = true
      · subst c36
        have H1 : (some false) = some r := by rw [if_pos rfl] at H; exact H
        clear H
        have H := H1
        clear H1
        obtain rfl := Option.some.inj H
        go_wp2
        go_ret
        exact ⟨by first | rfl | (simp [errW_none, errW_some] <;> rfl) | (simp [*, errW_none, errW_some] <;> rfl), by repeat (first | (with_reducible first | exact HB.out | apply below_alloc | apply pw_below_drewN | apply below_drew1 | refine below_set ?_ GE307.out | refine below_set ?_ GE308.out) | exact HB.out)⟩
      · replace c36 := Bool.eq_false_iff.mpr c36
        subst c36
        have H1 : (if a1_1 = 4 then (if a1_2 = 0 then (some (a1_3 == 0)) else (some false)) else (if a1_2 > 0 then (some true) else (if a1_1 = 1 then (if a1_3 ≤ a0_6 then (some true) else (if a1_1 = 2 then (some (decide (a1_3 < a0_7))) else (some false))) else (if a1_1 = 2 then (some (decide (a1_3 < a0_7))) else (some false))))) = some r := by rw [if_neg (show ¬ (false = true) by decide)] at H; exact H
        clear H
        have H := H1
        clear H1
        by_cases c37 : a1_1 = 4
        · rw [if_pos c37] at H
          have c37b0 : (a1_1 == 4) = true := beq_iff_eq.mpr c37
          have c37b1 : (a1_1 != 4) = false := bne_eq_false_iff_eq.mpr c37
          clear c37
          by_cases c38 : a1_2 = 0
          · rw [if_pos c38] at H
            have c38b0 : (a1_2 == 0) = true := beq_iff_eq.mpr c38
            have c38b1 : (a1_2 != 0) = false := bne_eq_false_iff_eq.mpr c38
            clear c38
            obtain rfl := Option.some.inj H
            have hnb39 := NB308_307.out
            have hnc39 := NB307_308.out
            have hcz40_0 : wc.cell? ⟨gb308, 0, none⟩ = some (.int .i64 a1_0) := (blk_cell BK308.out 0).trans rfl
            have hcz40_1 : wc.cell? ⟨gb308, 1, none⟩ = some (.int .i64 a1_1) := (blk_cell BK308.out 1).trans rfl
            have hcz40_2 : wc.cell? ⟨gb308, 2, none⟩ = some (.int .i64 a1_2) := (blk_cell BK308.out 2).trans rfl
            have hcz40_3 : wc.cell? ⟨gb308, 3, none⟩ = some (.int .i64 a1_3) := (blk_cell BK308.out 3).trans rfl
            have hfz40_0 := blk_frozen BK308.out 0
            have hfz40_1 := blk_frozen BK308.out 1
            have hfz40_2 := blk_frozen BK308.out 2
            have hfz40_3 := blk_frozen BK308.out 3
            go_wp2
            go_ret
            exact ⟨by first | rfl | (simp [errW_none, errW_some] <;> rfl) | (simp [*, errW_none, errW_some] <;> rfl), by repeat (first | (with_reducible first | exact HB.out | apply below_alloc | apply pw_below_drewN | apply below_drew1 | refine below_set ?_ GE307.out | refine below_set ?_ GE308.out) | exact HB.out)⟩
          · rw [if_neg c38] at H
            have c38b0 : (a1_2 == 0) = false := beq_eq_false_iff_ne.mpr c38
            have c38b1 : (a1_2 != 0) = true := bne_iff_ne.mpr c38
            obtain rfl := Option.some.inj H
            have hnb41 := NB308_307.out
            have hnc41 := NB307_308.out
            have hcz42_0 : wc.cell? ⟨gb308, 0, none⟩ = some (.int .i64 a1_0) := (blk_cell BK308.out 0).trans rfl
            have hcz42_1 : wc.cell? ⟨gb308, 1, none⟩ = some (.int .i64 a1_1) := (blk_cell BK308.out 1).trans rfl
            have hcz42_2 : wc.cell? ⟨gb308, 2, none⟩ = some (.int .i64 a1_2) := (blk_cell BK308.out 2).trans rfl
            have hcz42_3 : wc.cell? ⟨gb308, 3, none⟩ = some (.int .i64 a1_3) := (blk_cell BK308.out 3).trans rfl
            have hfz42_0 := blk_frozen BK308.out 0
            have hfz42_1 := blk_frozen BK308.out 1
            have hfz42_2 := blk_frozen BK308.out 2
            have hfz42_3 := blk_frozen BK308.out 3
            go_wp2
            go_ret
            exact ⟨by first | rfl | (simp [errW_none, errW_some] <;> rfl) | (simp [*, errW_none, errW_some] <;> rfl), by repeat (first | (with_reducible first | exact HB.out | apply below_alloc | apply pw_below_drewN | apply below_drew1 | refine below_set ?_ GE307.out | refine below_set ?_ GE308.out) | exact HB.out)⟩
        · rw [if_neg c37] at H
          have c37b0 : (a1_1 == 4) = false := beq_eq_false_iff_ne.mpr c37
          have c37b1 : (a1_1 != 4) = true := bne_iff_ne.mpr c37
          by_cases c43 : a1_2 > 0
          · rw [if_pos c43] at H
            have c43b0 : decide (0 < a1_2) = true := decide_eq_true c43
            clear c43
            obtain rfl := Option.some.inj H
            have hnb44 := NB308_307.out
            have hnc44 := NB307_308.out
            have hcz45_0 : wc.cell? ⟨gb308, 0, none⟩ = some (.int .i64 a1_0) := (blk_cell BK308.out 0).trans rfl
            have hcz45_1 : wc.cell? ⟨gb308, 1, none⟩ = some (.int .i64 a1_1) := (blk_cell BK308.out 1).trans rfl
            have hcz45_2 : wc.cell? ⟨gb308, 2, none⟩ = some (.int .i64 a1_2) := (blk_cell BK308.out 2).trans rfl
            have hcz45_3 : wc.cell? ⟨gb308, 3, none⟩ = some (.int .i64 a1_3) := (blk_cell BK308.out 3).trans rfl
            have hfz45_0 := blk_frozen BK308.out 0
            have hfz45_1 := blk_frozen BK308.out 1
            have hfz45_2 := blk_frozen BK308.out 2
            have hfz45_3 := blk_frozen BK308.out 3
            go_wp2
            go_ret
            exact ⟨by first | rfl | (simp [errW_none, errW_some] <;> rfl) | (simp [*, errW_none, errW_some] <;> rfl), by repeat (first | (with_reducible first | exact HB.out | apply below_alloc | apply pw_below_drewN | apply below_drew1 | refine below_set ?_ GE307.out | refine below_set ?_ GE308.out) | exact HB.out)⟩
          · rw [if_neg c43] at H
            have c43b0 : decide (0 < a1_2) = false := decide_eq_false c43
            clear c43
            by_cases c46 : a1_1 = 1
            · rw [if_pos c46] at H
              have c46b0 : (a1_1 == 1) = true := beq_iff_eq.mpr c46
              have c46b1 : (a1_1 != 1) = false := bne_eq_false_iff_eq.mpr c46
              clear c46
              by_cases c47 : a1_3 ≤ a0_6
              · rw [if_pos c47] at H
                have c47b0 : decide (a1_3 ≤ a0_6) = true := decide_eq_true c47
                clear c47
                obtain rfl := Option.some.inj H
                have hnb48 := NB308_307.out
                have hnc48 := NB307_308.out
                have hcz49_0 : wc.cell? ⟨gb308, 0, none⟩ = some (.int .i64 a1_0) := (blk_cell BK308.out 0).trans rfl
                have hcz49_1 : wc.cell? ⟨gb308, 1, none⟩ = some (.int .i64 a1_1) := (blk_cell BK308.out 1).trans rfl
                have hcz49_2 : wc.cell? ⟨gb308, 2, none⟩ = some (.int .i64 a1_2) := (blk_cell BK308.out 2).trans rfl
                have hcz49_3 : wc.cell? ⟨gb308, 3, none⟩ = some (.int .i64 a1_3) := (blk_cell BK308.out 3).trans rfl
                have hfz49_0 := blk_frozen BK308.out 0
                have hfz49_1 := blk_frozen BK308.out 1
                have hfz49_2 := blk_frozen BK308.out 2
                have hfz49_3 := blk_frozen BK308.out 3
                have hcz50_0 : wc.cell? ⟨gb307, 0, none⟩ = some (.string a0_0) := (blk_cell BK307.out 0).trans rfl
                have hcz50_1 : wc.cell? ⟨gb307, 1, none⟩ = some (.int .u32 a0_1) := (blk_cell BK307.out 1).trans rfl
                have hcz50_2 : wc.cell? ⟨gb307, 2, none⟩ = some (.slice A0_2 l0_2.length c0_2) := (blk_cell BK307.out 2).trans rfl
                have hcz50_3 : wc.cell? ⟨gb307, 3, none⟩ = some (.slice A0_3 l0_3.length c0_3) := (blk_cell BK307.out 3).trans rfl
                have hcz50_4 : wc.cell? ⟨gb307, 4, none⟩ = some (.slice A0_4 l0_4.length c0_4) := (blk_cell BK307.out 4).trans rfl
                have hcz50_5 : wc.cell? ⟨gb307, 5, none⟩ = some (.slice A0_5 l0_5.length c0_5) := (blk_cell BK307.out 5).trans rfl
                have hcz50_6 : wc.cell? ⟨gb307, 6, none⟩ = some (.int .i64 a0_6) := (blk_cell BK307.out 6).trans rfl
                have hcz50_7 : wc.cell? ⟨gb307, 7, none⟩ = some (.int .i64 a0_7) := (blk_cell BK307.out 7).trans rfl
                have hcz50_8 : wc.cell? ⟨gb307, 8, none⟩ = some (.int .i64 a0_8) := (blk_cell BK307.out 8).trans rfl
                have hfz50_0 := blk_frozen BK307.out 0
                have hfz50_1 := blk_frozen BK307.out 1
                have hfz50_2 := blk_frozen BK307.out 2
                have hfz50_3 := blk_frozen BK307.out 3
                have hfz50_4 := blk_frozen BK307.out 4
                have hfz50_5 := blk_frozen BK307.out 5
                have hfz50_6 := blk_frozen BK307.out 6
                have hfz50_7 := blk_frozen BK307.out 7
                have hfz50_8 := blk_frozen BK307.out 8
                go_wp2
                go_ret
                exact ⟨by first | rfl | (simp [errW_none, errW_some] <;> rfl) | (simp [*, errW_none, errW_some] <;> rfl), by repeat (first | (with_reducible first | exact HB.out | apply below_alloc | apply pw_below_drewN | apply below_drew1 | refine below_set ?_ GE307.out | refine below_set ?_ GE308.out) | exact HB.out)⟩
              · rw [if_neg c47] at H
                have c47b0 : decide (a1_3 ≤ a0_6) = false := decide_eq_false c47
                clear c47
                by_cases c51 : a1_1 = 2
                · rw [if_pos c51] at H
                  have c51b0 : (a1_1 == 2) = true := beq_iff_eq.mpr c51
                  have c51b1 : (a1_1 != 2) = false := bne_eq_false_iff_eq.mpr c51
                  clear c51
                  obtain rfl := Option.some.inj H
                  have hnb52 := NB308_307.out
                  have hnc52 := NB307_308.out
                  have hcz53_0 : wc.cell? ⟨gb308, 0, none⟩ = some (.int .i64 a1_0) := (blk_cell BK308.out 0).trans rfl
                  have hcz53_1 : wc.cell? ⟨gb308, 1, none⟩ = some (.int .i64 a1_1) := (blk_cell BK308.out 1).trans rfl
                  have hcz53_2 : wc.cell? ⟨gb308, 2, none⟩ = some (.int .i64 a1_2) := (blk_cell BK308.out 2).trans rfl
                  have hcz53_3 : wc.cell? ⟨gb308, 3, none⟩ = some (.int .i64 a1_3) := (blk_cell BK308.out 3).trans rfl
                  have hfz53_0 := blk_frozen BK308.out 0
                  have hfz53_1 := blk_frozen BK308.out 1
                  have hfz53_2 := blk_frozen BK308.out 2
                  have hfz53_3 := blk_frozen BK308.out 3
                  have hcz54_0 : wc.cell? ⟨gb307, 0, none⟩ = some (.string a0_0) := (blk_cell BK307.out 0).trans rfl
                  have hcz54_1 : wc.cell? ⟨gb307, 1, none⟩ = some (.int .u32 a0_1) := (blk_cell BK307.out 1).trans rfl
                  have hcz54_2 : wc.cell? ⟨gb307, 2, none⟩ = some (.slice A0_2 l0_2.length c0_2) := (blk_cell BK307.out 2).trans rfl
                  have hcz54_3 : wc.cell? ⟨gb307, 3, none⟩ = some (.slice A0_3 l0_3.length c0_3) := (blk_cell BK307.out 3).trans rfl
                  have hcz54_4 : wc.cell? ⟨gb307, 4, none⟩ = some (.slice A0_4 l0_4.length c0_4) := (blk_cell BK307.out 4).trans rfl
                  have hcz54_5 : wc.cell? ⟨gb307, 5, none⟩ = some (.slice A0_5 l0_5.length c0_5) := (blk_cell BK307.out 5).trans rfl
                  have hcz54_6 : wc.cell? ⟨gb307, 6, none⟩ = some (.int .i64 a0_6) := (blk_cell BK307.out 6).trans rfl
                  have hcz54_7 : wc.cell? ⟨gb307, 7, none⟩ = some (.int .i64 a0_7) := (blk_cell BK307.out 7).trans rfl
                  have hcz54_8 : wc.cell? ⟨gb307, 8, none⟩ = some (.int .i64 a0_8) := (blk_cell BK307.out 8).trans rfl
                  have hfz54_0 := blk_frozen BK307.out 0
                  have hfz54_1 := blk_frozen BK307.out 1
                  have hfz54_2 := blk_frozen BK307.out 2
                  have hfz54_3 := blk_frozen BK307.out 3
                  have hfz54_4 := blk_frozen BK307.out 4
                  have hfz54_5 := blk_frozen BK307.out 5
                  have hfz54_6 := blk_frozen BK307.out 6
                  have hfz54_7 := blk_frozen BK307.out 7
                  have hfz54_8 := blk_frozen BK307.out 8
                  go_wp2
                  go_ret
                  exact ⟨by first | rfl | (simp [errW_none, errW_some] <;> rfl) | (simp [*, errW_none, errW_some] <;> rfl), by repeat (first | (with_reducible first | exact HB.out | apply below_alloc | apply pw_below_drewN | apply below_drew1 | refine below_set ?_ GE307.out | refine below_set ?_ GE308.out) | exact HB.out)⟩
                · rw [if_neg c51] at H
                  have c51b0 : (a1_1 == 2) = false := beq_eq_false_iff_ne.mpr c51
                  have c51b1 : (a1_1 != 2) = true := bne_iff_ne.mpr c51
                  obtain rfl := Option.some.inj H
                  have hnb55 := NB308_307.out
                  have hnc55 := NB307_308.out
                  have hcz56_0 : wc.cell? ⟨gb308, 0, none⟩ = some (.int .i64 a1_0) := (blk_cell BK308.out 0).trans rfl
                  have hcz56_1 : wc.cell? ⟨gb308, 1, none⟩ = some (.int .i64 a1_1) := (blk_cell BK308.out 1).trans rfl
                  have hcz56_2 : wc.cell? ⟨gb308, 2, none⟩ = some (.int .i64 a1_2) := (blk_cell BK308.out 2).trans rfl
                  have hcz56_3 : wc.cell? ⟨gb308, 3, none⟩ = some (.int .i64 a1_3) := (blk_cell BK308.out 3).trans rfl
                  have hfz56_0 := blk_frozen BK308.out 0
                  have hfz56_1 := blk_frozen BK308.out 1
                  have hfz56_2 := blk_frozen BK308.out 2
                  have hfz56_3 := blk_frozen BK308.out 3
                  have hcz57_0 : wc.cell? ⟨gb307, 0, none⟩ = some (.string a0_0) := (blk_cell BK307.out 0).trans rfl
                  have hcz57_1 : wc.cell? ⟨gb307, 1, none⟩ = some (.int .u32 a0_1) := (blk_cell BK307.out 1).trans rfl
                  have hcz57_2 : wc.cell? ⟨gb307, 2, none⟩ = some (.slice A0_2 l0_2.length c0_2) := (blk_cell BK307.out 2).trans rfl
                  have hcz57_3 : wc.cell? ⟨gb307, 3, none⟩ = some (.slice A0_3 l0_3.length c0_3) := (blk_cell BK307.out 3).trans rfl
                  have hcz57_4 : wc.cell? ⟨gb307, 4, none⟩ = some (.slice A0_4 l0_4.length c0_4) := (blk_cell BK307.out 4).trans rfl
                  have hcz57_5 : wc.cell? ⟨gb307, 5, none⟩ = some (.slice A0_5 l0_5.length c0_5) := (blk_cell BK307.out 5).trans rfl
                  have hcz57_6 : wc.cell? ⟨gb307, 6, none⟩ = some (.int .i64 a0_6) := (blk_cell BK307.out 6).trans rfl
                  have hcz57_7 : wc.cell? ⟨gb307, 7, none⟩ = some (.int .i64 a0_7) := (blk_cell BK307.out 7).trans rfl
                  have hcz57_8 : wc.cell? ⟨gb307, 8, none⟩ = some (.int .i64 a0_8) := (blk_cell BK307.out 8).trans rfl
                  have hfz57_0 := blk_frozen BK307.out 0
                  have hfz57_1 := blk_frozen BK307.out 1
                  have hfz57_2 := blk_frozen BK307.out 2
                  have hfz57_3 := blk_frozen BK307.out 3
                  have hfz57_4 := blk_frozen BK307.out 4
                  have hfz57_5 := blk_frozen BK307.out 5
                  have hfz57_6 := blk_frozen BK307.out 6
                  have hfz57_7 := blk_frozen BK307.out 7
                  have hfz57_8 := blk_frozen BK307.out 8
                  go_wp2
                  go_ret
                  exact ⟨by first | rfl | (simp [errW_none, errW_some] <;> rfl) | (simp [*, errW_none, errW_some] <;> rfl), by repeat (first | (with_reducible first | exact HB.out | apply below_alloc | apply pw_below_drewN | apply below_drew1 | refine below_set ?_ GE307.out | refine below_set ?_ GE308.out) | exact HB.out)⟩
            · rw [if_neg c46] at H
              have c46b0 : (a1_1 == 1) = false := beq_eq_false_iff_ne.mpr c46
              have c46b1 : (a1_1 != 1) = true := bne_iff_ne.mpr c46
              by_cases c58 : a1_1 = 2
              · rw [if_pos c58] at H
                have c58b0 : (a1_1 == 2) = true := beq_iff_eq.mpr c58
                have c58b1 : (a1_1 != 2) = false := bne_eq_false_iff_eq.mpr c58
                clear c58
                obtain rfl := Option.some.inj H
                have hnb59 := NB308_307.out
                have hnc59 := NB307_308.out
                have hcz60_0 : wc.cell? ⟨gb308, 0, none⟩ = some (.int .i64 a1_0) := (blk_cell BK308.out 0).trans rfl
                have hcz60_1 : wc.cell? ⟨gb308, 1, none⟩ = some (.int .i64 a1_1) := (blk_cell BK308.out 1).trans rfl
                have hcz60_2 : wc.cell? ⟨gb308, 2, none⟩ = some (.int .i64 a1_2) := (blk_cell BK308.out 2).trans rfl
                have hcz60_3 : wc.cell? ⟨gb308, 3, none⟩ = some (.int .i64 a1_3) := (blk_cell BK308.out 3).trans rfl
                have hfz60_0 := blk_frozen BK308.out 0
                have hfz60_1 := blk_frozen BK308.out 1
                have hfz60_2 := blk_frozen BK308.out 2
                have hfz60_3 := blk_frozen BK308.out 3
                have hcz61_0 : wc.cell? ⟨gb307, 0, none⟩ = some (.string a0_0) := (blk_cell BK307.out 0).trans rfl
                have hcz61_1 : wc.cell? ⟨gb307, 1, none⟩ = some (.int .u32 a0_1) := (blk_cell BK307.out 1).trans rfl
                have hcz61_2 : wc.cell? ⟨gb307, 2, none⟩ = some (.slice A0_2 l0_2.length c0_2) := (blk_cell BK307.out 2).trans rfl
                have hcz61_3 : wc.cell? ⟨gb307, 3, none⟩ = some (.slice A0_3 l0_3.length c0_3) := (blk_cell BK307.out 3).trans rfl
                have hcz61_4 : wc.cell? ⟨gb307, 4, none⟩ = some (.slice A0_4 l0_4.length c0_4) := (blk_cell BK307.out 4).trans rfl
                have hcz61_5 : wc.cell? ⟨gb307, 5, none⟩ = some (.slice A0_5 l0_5.length c0_5) := (blk_cell BK307.out 5).trans rfl
                have hcz61_6 : wc.cell? ⟨gb307, 6, none⟩ = some (.int .i64 a0_6) := (blk_cell BK307.out 6).trans rfl
                have hcz61_7 : wc.cell? ⟨gb307, 7, none⟩ = some (.int .i64 a0_7) := (blk_cell BK307.out 7).trans rfl
                have hcz61_8 : wc.cell? ⟨gb307, 8, none⟩ = some (.int .i64 a0_8) := (blk_cell BK307.out 8).trans rfl
                have hfz61_0 := blk_frozen BK307.out 0
                have hfz61_1 := blk_frozen BK307.out 1
                have hfz61_2 := blk_frozen BK307.out 2
                have hfz61_3 := blk_frozen BK307.out 3
                have hfz61_4 := blk_frozen BK307.out 4
                have hfz61_5 := blk_frozen BK307.out 5
                have hfz61_6 := blk_frozen BK307.out 6
                have hfz61_7 := blk_frozen BK307.out 7
                have hfz61_8 := blk_frozen BK307.out 8
                go_wp2
                go_ret
                exact ⟨by first | rfl | (simp [errW_none, errW_some] <;> rfl) | (simp [*, errW_none, errW_some] <;> rfl), by repeat (first | (with_reducible first | exact HB.out | apply below_alloc | apply pw_below_drewN | apply below_drew1 | refine below_set ?_ GE307.out | refine below_set ?_ GE308.out) | exact HB.out)⟩
              · rw [if_neg c58] at H
                have c58b0 : (a1_1 == 2) = false := beq_eq_false_iff_ne.mpr c58
                have c58b1 : (a1_1 != 2) = true := bne_iff_ne.mpr c58
                obtain rfl := Option.some.inj H
                have hnb62 := NB308_307.out
                have hnc62 := NB307_308.out
                have hcz63_0 : wc.cell? ⟨gb308, 0, none⟩ = some (.int .i64 a1_0) := (blk_cell BK308.out 0).trans rfl
                have hcz63_1 : wc.cell? ⟨gb308, 1, none⟩ = some (.int .i64 a1_1) := (blk_cell BK308.out 1).trans rfl
                have hcz63_2 : wc.cell? ⟨gb308, 2, none⟩ = some (.int .i64 a1_2) := (blk_cell BK308.out 2).trans rfl
                have hcz63_3 : wc.cell? ⟨gb308, 3, none⟩ = some (.int .i64 a1_3) := (blk_cell BK308.out 3).trans rfl
                have hfz63_0 := blk_frozen BK308.out 0
                have hfz63_1 := blk_frozen BK308.out 1
                have hfz63_2 := blk_frozen BK308.out 2
                have hfz63_3 := blk_frozen BK308.out 3
                go_wp2
                go_ret
                exact ⟨by first | rfl | (simp [errW_none, errW_some] <;> rfl) | (simp [*, errW_none, errW_some] <;> rfl), by repeat (first | (with_reducible first | exact HB.out | apply below_alloc | apply pw_below_drewN | apply below_drew1 | refine below_set ?_ GE307.out | refine below_set ?_ GE308.out) | exact HB.out)⟩

end Go.Proofs.Ytehdhmhpmkkneaa.PAll
