-- Began as a text printed by a turned copy of print.py; some lines are added (fix20.py). Not trusted: Lean checks it.
import Derived.Test.YtmalonlbnjiclaaPAllx0
import Derived.Test.YtmalonlbnjiclaaPAllx9
import Derived.Test.YtmalonlbnjiclaaPAllx10
namespace Go.Proofs.Ytmalonlbnjiclaa.PAll
open Go.RowKit Go.Proofs.YtmalonlbnjiclaaW.PrintWords Go.Proofs.YtmalonlbnjiclaaW.PrintLast Go.Proofs.YtmalonlbnjiclaaW.PrintMore
attribute [local go_sem] max2_int min2_int max_two min_two max_three min_three max_four min_four   -- for this text's walks alone
set_option linter.unusedVariables false
set_option linter.unusedSimpArgs false

/-! ### pascalinelaw08_ScanCovers: function 6 -/
mutual
def pascalinelaw08_ScanCovers.l0 : Nat → ByteArray → List (S32) → Int → Int → Option (Bool)
  | 0, _, _, _, _ => none
  | k + 1, x0, x3, x6, x7 => if x7 < (x3.length : Int) then (if 0 ≤ x7 then (if ((rd_T32 x3 x7).f1) < x6 then (pascalinelaw08_ScanCovers.j1 k x0 x3 x7 true ((rd_T32 x3 x7).f0) ((rd_T32 x3 x7).f1) ((rd_T32 x3 x7).f2) ((rd_T32 x3 x7).f3) ((rd_T32 x3 x7).f4)) else (if ((rd_T32 x3 x7).f2) < ((rd_T32 x3 x7).f1) then (pascalinelaw08_ScanCovers.j1 k x0 x3 x7 true ((rd_T32 x3 x7).f0) ((rd_T32 x3 x7).f1) ((rd_T32 x3 x7).f2) ((rd_T32 x3 x7).f3) ((rd_T32 x3 x7).f4)) else (if ((rd_T32 x3 x7).f2) > (x0.size : Int) then (pascalinelaw08_ScanCovers.j1 k x0 x3 x7 true ((rd_T32 x3 x7).f0) ((rd_T32 x3 x7).f1) ((rd_T32 x3 x7).f2) ((rd_T32 x3 x7).f3) ((rd_T32 x3 x7).f4)) else (if ((((rd_T32 x3 x7).f0) == 0) != (x7 == (wrap64 ((x3.length : Int) - 1)))) = true then (pascalinelaw08_ScanCovers.j1 k x0 x3 x7 true ((rd_T32 x3 x7).f0) ((rd_T32 x3 x7).f1) ((rd_T32 x3 x7).f2) ((rd_T32 x3 x7).f3) ((rd_T32 x3 x7).f4)) else (pascalinelaw08_ScanCovers.j1 k x0 x3 x7 (((rd_T32 x3 x7).f0) == 7) ((rd_T32 x3 x7).f0) ((rd_T32 x3 x7).f1) ((rd_T32 x3 x7).f2) ((rd_T32 x3 x7).f3) ((rd_T32 x3 x7).f4)))))) else (none)) else (some (decide ((x3.length : Int) > 0)))
def pascalinelaw08_ScanCovers.j1 : Nat → ByteArray → List (S32) → Int → Bool → Int → Int → Int → ByteArray → Int → Option (Bool)
  | 0, _, _, _, _, _, _, _, _, _ => none
  | k + 1, x0, x3, x7, x69, x396000, x396001, x396002, x396003, x396004 => if x69 = true then (some false) else (if 0 ≤ x396001 then (if x396001 ≤ x396002 then (if x396002 ≤ (x0.size : Int) then (if x396000 = 4 then (if ((x0.extract (x396001 : Int).toNat (x396002 : Int).toNat).size : Int) < 2 then (some false) else (if 1 ≤ (wrap64 (((x0.extract (x396001 : Int).toNat (x396002 : Int).toNat).size : Int) - 1)) then (if (wrap64 (((x0.extract (x396001 : Int).toNat (x396002 : Int).toNat).size : Int) - 1)) ≤ ((x0.extract (x396001 : Int).toNat (x396002 : Int).toNat).size : Int) then (if ((x0.extract (x396001 : Int).toNat (x396002 : Int).toNat).extract 1 ((wrap64 (((x0.extract (x396001 : Int).toNat (x396002 : Int).toNat).size : Int) - 1)) : Int).toNat).toList = x396003.toList then (pascalinelaw08_ScanCovers.l0 k x0 x3 x396002 (wrap64 (x7 + 1))) else (some false)) else (none)) else (none))) else (if (x0.extract (x396001 : Int).toNat (x396002 : Int).toNat).toList = x396003.toList then (pascalinelaw08_ScanCovers.l0 k x0 x3 x396002 (wrap64 (x7 + 1))) else (some false))) else (none)) else (none)) else (none))
end
def pascalinelaw08_ScanCovers.f (k : Nat) (a0 : ByteArray) : Option (Bool) := (pascalinelaw08_awake.f k).bind fun t388 => (if t388 = true then (if (a0.size : Int) > 20000 then (some true) else ((scan_All.f k a0).bind fun bt389 => (if bt389.2.2 = 0 then (pascalinelaw08_ScanCovers.l0 k a0 bt389.1 0 0) else (some ((bt389.1.length : Int) == 0))))) else (some false))
theorem pascalinelaw08_ScanCovers.mono_l : ∀ k, (∀ y0 y1 y2 y3, LeO (pascalinelaw08_ScanCovers.l0 k y0 y1 y2 y3) (pascalinelaw08_ScanCovers.l0 (k + 1) y0 y1 y2 y3)) ∧ (∀ y0 y1 y2 y3 y4 y5 y6 y7 y8, LeO (pascalinelaw08_ScanCovers.j1 k y0 y1 y2 y3 y4 y5 y6 y7 y8) (pascalinelaw08_ScanCovers.j1 (k + 1) y0 y1 y2 y3 y4 y5 y6 y7 y8))
  | 0 => ⟨fun _ _ _ _ r h => by simp [pascalinelaw08_ScanCovers.l0] at h, fun _ _ _ _ _ _ _ _ _ r h => by simp [pascalinelaw08_ScanCovers.j1] at h⟩
  | k + 1 => by
    obtain ⟨ih0, ih1⟩ := pascalinelaw08_ScanCovers.mono_l k
    refine ⟨?_, ?_⟩
    · intro y0 y1 y2 y3
      unfold pascalinelaw08_ScanCovers.l0
      repeat' first
      | (with_reducible exact ih0 _ _ _ _)
      | (with_reducible exact ih1 _ _ _ _ _ _ _ _ _)
      | (with_reducible exact pascalinelaw08_awake.mono _)
      | (with_reducible exact scan_All.mono _ _)
      | (with_reducible exact LeO.refl _)
      | (with_reducible exact LeO.none _)
      | (with_reducible refine LeO.ite ?_ ?_)
      | (with_reducible refine LeO.bind ?_ (fun _ => ?_))
      | exact ih0 _ _ _ _
      | exact ih1 _ _ _ _ _ _ _ _ _
      | exact pascalinelaw08_awake.mono _
      | exact scan_All.mono _ _
      | exact LeO.none _
      | refine LeO.ite ?_ ?_
      | refine LeO.bind ?_ (fun _ => ?_)
    · intro y0 y1 y2 y3 y4 y5 y6 y7 y8
      unfold pascalinelaw08_ScanCovers.j1
      repeat' first
      | (with_reducible exact ih0 _ _ _ _)
      | (with_reducible exact ih1 _ _ _ _ _ _ _ _ _)
      | (with_reducible exact pascalinelaw08_awake.mono _)
      | (with_reducible exact scan_All.mono _ _)
      | (with_reducible exact LeO.refl _)
      | (with_reducible exact LeO.none _)
      | (with_reducible refine LeO.ite ?_ ?_)
      | (with_reducible refine LeO.bind ?_ (fun _ => ?_))
      | exact ih0 _ _ _ _
      | exact ih1 _ _ _ _ _ _ _ _ _
      | exact pascalinelaw08_awake.mono _
      | exact scan_All.mono _ _
      | exact LeO.none _
      | refine LeO.ite ?_ ?_
      | refine LeO.bind ?_ (fun _ => ?_)
theorem pascalinelaw08_ScanCovers.mono : ∀ a0 k, LeO (pascalinelaw08_ScanCovers.f k a0) (pascalinelaw08_ScanCovers.f (k + 1) a0) := by
  intro a0 k
  obtain ⟨ih0, ih1⟩ := pascalinelaw08_ScanCovers.mono_l k
  unfold pascalinelaw08_ScanCovers.f
  repeat' first
      | (with_reducible exact ih0 _ _ _ _)
      | (with_reducible exact ih1 _ _ _ _ _ _ _ _ _)
      | (with_reducible exact pascalinelaw08_awake.mono _)
      | (with_reducible exact scan_All.mono _ _)
      | (with_reducible exact LeO.refl _)
      | (with_reducible exact LeO.none _)
      | (with_reducible refine LeO.ite ?_ ?_)
      | (with_reducible refine LeO.bind ?_ (fun _ => ?_))
      | exact ih0 _ _ _ _
      | exact ih1 _ _ _ _ _ _ _ _ _
      | exact pascalinelaw08_awake.mono _
      | exact scan_All.mono _ _
      | exact LeO.none _
      | refine LeO.ite ?_ ?_
      | refine LeO.bind ?_ (fun _ => ?_)
set_option maxHeartbeats 8000000 in
set_option maxRecDepth 100000 in
theorem pascalinelaw08_ScanCovers.calls (k : Nat) (a0 : ByteArray) (r : Bool) (w : World) (h : pascalinelaw08_ScanCovers.f k a0 = some r) :
    Calls Try.prog 6 #[.string a0] w fun e w' => e = .returned (.bool r) ∧ Below w.heap.size w w' := by
  have hu32 := Try.underlying32
  have HB := Aside0.mk (Below.refl w.heap.size w)
  have H : ((pascalinelaw08_awake.f k).bind fun t388 => (if t388 = true then (if (a0.size : Int) > 20000 then (some true) else ((scan_All.f k a0).bind fun bt389 => (if bt389.2.2 = 0 then (pascalinelaw08_ScanCovers.l0 k a0 bt389.1 0 0) else (some ((bt389.1.length : Int) == 0))))) else (some false))) = some r := h
  clear h
  replace H := Option.bind_eq_some_iff.mp H
  obtain ⟨t388, A20, H⟩ := H
  replace H : (if t388 = true then (if (a0.size : Int) > 20000 then (some true) else ((scan_All.f k a0).bind fun bt389 => (if bt389.2.2 = 0 then (pascalinelaw08_ScanCovers.l0 k a0 bt389.1 0 0) else (some ((bt389.1.length : Int) == 0))))) else (some false)) = some r := H
  have A2 := Aside0.mk A20
  clear A20
  by_cases c3 : t388 = true
  · subst c3
    have H1 : (if (a0.size : Int) > 20000 then (some true) else ((scan_All.f k a0).bind fun bt389 => (if bt389.2.2 = 0 then (pascalinelaw08_ScanCovers.l0 k a0 bt389.1 0 0) else (some ((bt389.1.length : Int) == 0))))) = some r := by rw [if_pos rfl] at H; exact H
    clear H
    have H := H1
    clear H1
    by_cases c4 : (a0.size : Int) > 20000
    · rw [if_pos c4] at H
      have c4b0 : decide (20000 < (a0.size : Int)) = true := decide_eq_true c4
      have c4b1 : decide (20000 < a0.size) = true := decide_eq_true (by omega)
      clear c4
      obtain rfl := Option.some.inj H
      go_enter Try.func6, Try.ntmps6
      go_wp2_with (first | ((with_reducible refine gate_callee (f := 8) rfl ?_); refine goesL_ (some 10) rfl rfl Try.func8 (by kernel_rfl) rfl #[] rfl (by (try simp only [List.map_toArray, List.map_cons, List.map_nil]); first | done | rfl | (simp only [List.length_drop, List.length_take]; rfl)) ?_; (with_reducible refine (pascalinelaw08_awake.calls k  true _ A2.out).mono ?_); rintro e w5 ⟨rfl, hb⟩; refine ⟨_, rfl, ?_⟩; have n0_ := Aside0.mk (below_step (by repeat (first | (with_reducible first | exact HB.out | apply below_alloc | apply pw_below_drewN | apply below_drew1) | exact HB.out)) hb); clear HB; have HB := n0_; clear n0_; (try clear hb); (try clear hb2); (try clear hk); (try clear hi)))
      go_ret
      exact ⟨by first | rfl | (simp [errW_none, errW_some] <;> rfl) | (simp [*, errW_none, errW_some] <;> rfl), by repeat (first | (with_reducible first | exact HB.out | apply below_alloc | apply pw_below_drewN | apply below_drew1) | exact HB.out)⟩
    · rw [if_neg c4] at H
      have c4b0 : decide (20000 < (a0.size : Int)) = false := decide_eq_false c4
      have c4b1 : decide (20000 < a0.size) = false := decide_eq_false (by omega)
      clear c4
      replace H := Option.bind_eq_some_iff.mp H
      obtain ⟨⟨t389, t390, t391⟩, A60, H⟩ := H
      replace H : (if t391 = 0 then (pascalinelaw08_ScanCovers.l0 k a0 t389 0 0) else (some ((t389.length : Int) == 0))) = some r := H
      have A6 := Aside0.mk A60
      clear A60
      by_cases c7 : t391 = 0
      · rw [if_pos c7] at H
        have c7b0 : (t391 == 0) = true := beq_iff_eq.mpr c7
        have c7b1 : (t391 != 0) = false := bne_eq_false_iff_eq.mpr c7
        clear c7
        have H' := Aside0.mk H
        clear H
        go_enter Try.func6, Try.ntmps6
        go_wp2_with (first | ((with_reducible refine gate_callee (f := 8) rfl ?_); refine goesL_ (some 10) rfl rfl Try.func8 (by kernel_rfl) rfl #[] rfl (by (try simp only [List.map_toArray, List.map_cons, List.map_nil]); first | done | rfl | (simp only [List.length_drop, List.length_take]; rfl)) ?_; (with_reducible refine (pascalinelaw08_awake.calls k  true _ A2.out).mono ?_); rintro e w8 ⟨rfl, hb⟩; refine ⟨_, rfl, ?_⟩; have n0_ := Aside0.mk (below_step (by repeat (first | (with_reducible first | exact HB.out | apply below_alloc | apply pw_below_drewN | apply below_drew1) | exact HB.out)) hb); clear HB; have HB := n0_; clear n0_; (try clear hb); (try clear hb2); (try clear hk); (try clear hi)) | ((with_reducible refine gate_callee (f := 9) rfl ?_); refine goesL_ (some 17) rfl rfl Try.func9 (by kernel_rfl) rfl #[.string a0] rfl (by (try simp only [List.map_toArray, List.map_cons, List.map_nil]); first | done | rfl | (simp only [List.length_drop, List.length_take]; rfl)) ?_; (with_reducible refine (scan_All.calls k a0 t389 t390 t391 _ A6.out).mono ?_); rintro e w9 ⟨v392, rfl, ho0, hb⟩; refine ⟨_, rfl, ?_⟩; have n0_ := Aside0.mk (Kd.R_lower ho0 (below_size (by repeat (first | (with_reducible first | exact HB.out | apply below_alloc | apply pw_below_drewN | apply below_drew1) | exact HB.out)))); have n1_ := Aside0.mk (below_step (by repeat (first | (with_reducible first | exact HB.out | apply below_alloc | apply pw_below_drewN | apply below_drew1) | exact HB.out)) hb); clear HB; have HO393 := n0_; have HB := n1_; clear n0_ n1_; (try clear hb); (try clear hb2); (try clear hk); (try clear hi); (try clear ho0)))
        go_loopg [6, 7] k (fun kq v6 v7 w' => ∃ (x6_1 : Int) (x7_1 : Int), v6 = .int .i64 x6_1 ∧ v7 = .int .i64 x7_1 ∧ Aside0 (pascalinelaw08_ScanCovers.l0 kq a0 t389 x6_1 x7_1 = some r) ∧ Aside0 (kq ≤ k) ∧ Aside0 (Kd.R k32 32 w' w.heap.size (fun _ => True) v392 t389) ∧ Aside0 (Below w.heap.size w w'))
        case atStart => exact ⟨(0), (0), (by first | rfl | (simp; done) | (simp [*]; done)), (by first | rfl | (simp; done) | (simp [*]; done)), H', ⟨Nat.le_refl _⟩, ⟨by (with_reducible repeat (first | apply Kd.R_alloc | apply Kd.R_drewN | apply Kd.R_drew)); exact HO393.out⟩, ⟨by repeat (first | (with_reducible first | exact HB.out | apply below_alloc | apply pw_below_drewN | apply below_drew1) | exact HB.out)⟩⟩
        case round =>
          clear H'
          try clear p2
          try clear c3
          try clear c4
          try clear c4b0
          try clear c4b1
          try clear c6
          try clear c7
          try clear c7b0
          try clear c7b1
          try clear c8
          try clear c9
          obtain ⟨x6_1, x7_1, rfl, rfl, HA, HK1, HO_3, HB⟩ := hrel
          cases gk with
          | zero => exact absurd HA.out (by simp [pascalinelaw08_ScanCovers.l0])
          | succ k1 =>
            have H := HA.out
            clear HA
            simp only [pascalinelaw08_ScanCovers.l0] at H
            by_cases c10 : x7_1 < (t389.length : Int)
            · rw [if_pos c10] at H
              have c10b0 : decide (x7_1 < (t389.length : Int)) = true := decide_eq_true c10
              clear c10
              by_cases c11 : 0 ≤ x7_1
              · rw [if_pos c11] at H
                have c11b0 : decide (0 ≤ x7_1) = true := decide_eq_true c11
                clear c11
                have HC12 := Aside0.mk H
                clear H
                obtain ⟨Ao13, co13, eo13⟩ := Kd.R_slice HO_3.out
                subst eo13
                have p394 : 0 ≤ (x7_1 : Int) := of_decide_eq_true (by first | (with_reducible assumption) | assumption)
                have q394 : x7_1 < (t389.length : Int) := of_decide_eq_true (by first | (with_reducible assumption) | assumption)
                obtain ⟨ad394, e394, hx394_0, hx394_1, hx394_2, hx394_3, hx394_4⟩ := at_T32 (Kd.R_reads' HO_3.out).2.2 x7_1 p394 q394
                cases e394
                replace p394 := eq_true p394
                replace q394 := eq_true q394
                go_upto_region 13 with (first | ((with_reducible refine gate_dst (N := 8) rfl ?_); (try (refine gate_guard (by rfl) ?_; dsimp only)); refine box_event ?hg (N := 8) ?hd (cs := #[.int .i64 0, .int .i64 0, .int .i64 0, .string (⟨#[]⟩ : ByteArray), .int .i32 0]) (t := 32) ?hr ?_; (case hd => rfl); (case hg => rfl); (case hr => first | (go_simp; done) | (go_simp; rfl)); intro gb395 hg w14 hbox hb; have n0_ := Aside0.mk (Kd.R_below (Kd.R_elderB (by (with_reducible repeat (first | apply Kd.R_alloc | apply Kd.R_drewN | apply Kd.R_drew)); exact HO_3.out) gb395 (Nat.le_of_eq hg.symm)) hb); have n1_ := Aside0.mk (below_step (by repeat (first | (with_reducible first | exact HB.out | apply below_alloc | apply pw_below_drewN | apply below_drew1) | exact HB.out)) hb); have n2_ := Aside0.mk (hbox); have n3_ := Aside0.mk ((by rw [hg]; exact (below_size (by repeat (first | (with_reducible first | exact HB.out | apply below_alloc | apply pw_below_drewN | apply below_drew1) | exact HB.out))) : w.heap.size ≤ gb395)); have n4_ := Aside0.mk ((by rw [hg]; exact (below_size (by repeat (first | (with_reducible first | exact HB.out | apply below_alloc | apply pw_below_drewN | apply below_drew1) | exact HB.out))) : w.heap.size ≤ gb395)); clear HO_3; clear HB; have HO_3 := n0_; have HB := n1_; have BK395 := n2_; have GW395 := n3_; have GE395 := n4_; clear n0_ n1_ n2_ n3_ n4_; clear hb hbox hg; have hcz15_0 : w14.cell? ⟨gb395, 0, none⟩ = some (.int .i64 0) := (blk_cell BK395.out 0).trans rfl; have hcz15_1 : w14.cell? ⟨gb395, 1, none⟩ = some (.int .i64 0) := (blk_cell BK395.out 1).trans rfl; have hcz15_2 : w14.cell? ⟨gb395, 2, none⟩ = some (.int .i64 0) := (blk_cell BK395.out 2).trans rfl; have hcz15_3 : w14.cell? ⟨gb395, 3, none⟩ = some (.string (⟨#[]⟩ : ByteArray)) := (blk_cell BK395.out 3).trans rfl; have hcz15_4 : w14.cell? ⟨gb395, 4, none⟩ = some (.int .i32 0) := (blk_cell BK395.out 4).trans rfl; have hfz15_0 := blk_frozen BK395.out 0; have hfz15_1 := blk_frozen BK395.out 1; have hfz15_2 := blk_frozen BK395.out 2; have hfz15_3 := blk_frozen BK395.out 3; have hfz15_4 := blk_frozen BK395.out 4))
                (try simp only [Act.put, List.setIfInBounds_toArray, List.set_cons_zero, List.set_cons_succ])
                go_cut [69] (fun v69 wc => ∃ (kq : Nat) (x69_11 : Bool), v69 = .bool x69_11 ∧ Aside0 (pascalinelaw08_ScanCovers.j1 kq a0 t389 x7_1 x69_11 ((rd_T32 t389 x7_1).f0) ((rd_T32 t389 x7_1).f1) ((rd_T32 t389 x7_1).f2) ((rd_T32 t389 x7_1).f3) ((rd_T32 t389 x7_1).f4) = some r) ∧ Aside0 (kq ≤ k1) ∧ Aside0 (Kd.R k32 32 wc w.heap.size (fun k_ => k_ ≠ gb395) (.slice (some ad394) t389.length co13) t389) ∧ Aside0 (wc.heap[gb395]? = some (.cells #[.int .i64 ((rd_T32 t389 x7_1).f0), .int .i64 ((rd_T32 t389 x7_1).f1), .int .i64 ((rd_T32 t389 x7_1).f2), .string ((rd_T32 t389 x7_1).f3), .int .i32 ((rd_T32 t389 x7_1).f4)] 32 (0, 0))) ∧ Aside0 (Below w.heap.size w wc))
                case first =>
                  have H := HC12.out
                  clear HC12
                  by_cases c16 : ((rd_T32 t389 x7_1).f1) < x6_1
                  · rw [if_pos c16] at H
                    have c16b0 : decide (((rd_T32 t389 x7_1).f1) < x6_1) = true := decide_eq_true c16
                    clear c16
                    (first | rw [c16b0] | (simp only [i64_w, i32_w]; rw [c16b0]) | skip)
                    have H' := Aside0.mk H
                    clear H
                    have hcz17_0 : w14.cell? ⟨gb395, 0, none⟩ = some (.int .i64 0) := (blk_cell BK395.out 0).trans rfl
                    have hcz17_1 : w14.cell? ⟨gb395, 1, none⟩ = some (.int .i64 0) := (blk_cell BK395.out 1).trans rfl
                    have hcz17_2 : w14.cell? ⟨gb395, 2, none⟩ = some (.int .i64 0) := (blk_cell BK395.out 2).trans rfl
                    have hcz17_3 : w14.cell? ⟨gb395, 3, none⟩ = some (.string (⟨#[]⟩ : ByteArray)) := (blk_cell BK395.out 3).trans rfl
                    have hcz17_4 : w14.cell? ⟨gb395, 4, none⟩ = some (.int .i32 0) := (blk_cell BK395.out 4).trans rfl
                    have hfz17_0 := blk_frozen BK395.out 0
                    have hfz17_1 := blk_frozen BK395.out 1
                    have hfz17_2 := blk_frozen BK395.out 2
                    have hfz17_3 := blk_frozen BK395.out 3
                    have hfz17_4 := blk_frozen BK395.out 4
                    go_wp2
                    go_meet
                    case rel => exact ⟨_, (true), (by first | rfl | (simp; done) | (simp [*]; done)), H', ⟨by have := HK1.out; first | omega | exact Nat.le_refl _⟩, ⟨by (with_reducible repeat (first | apply Kd.R_alloc | apply Kd.R_drewN | apply Kd.R_drew)); exact Kd.R_mono (Kd.R_far (p := ⟨gb395, 4, none⟩) (Kd.R_far (p := ⟨gb395, 3, none⟩) (Kd.R_far (p := ⟨gb395, 2, none⟩) (Kd.R_far (p := ⟨gb395, 1, none⟩) (Kd.R_far (p := ⟨gb395, 0, none⟩) (Kd.R_mono HO_3.out (fun k_ hk => (⟨hk, hk.2⟩ : _ ∧ k_ ≠ gb395))) (fun _ hk => hk.2) (.int .i64 ((rd_T32 t389 x7_1).f0))) (fun _ hk => hk.2) (.int .i64 ((rd_T32 t389 x7_1).f1))) (fun _ hk => hk.2) (.int .i64 ((rd_T32 t389 x7_1).f2))) (fun _ hk => hk.2) (.string ((rd_T32 t389 x7_1).f3))) (fun _ hk => hk.2) (.int .i32 ((rd_T32 t389 x7_1).f4))) (fun _ hk => hk.1.2)⟩, ⟨by (with_reducible repeat (first | refine blk_drewN ?_ _ | refine blk_drew ?_ | refine blk_alloc ?_ _)); refine blk_put (cs := #[.int .i64 ((rd_T32 t389 x7_1).f0), .int .i64 ((rd_T32 t389 x7_1).f1), .int .i64 ((rd_T32 t389 x7_1).f2), .string ((rd_T32 t389 x7_1).f3), .int .i32 0]) ?_ 4 _ rfl; (with_reducible repeat (first | refine blk_drewN ?_ _ | refine blk_drew ?_ | refine blk_alloc ?_ _)); refine blk_put (cs := #[.int .i64 ((rd_T32 t389 x7_1).f0), .int .i64 ((rd_T32 t389 x7_1).f1), .int .i64 ((rd_T32 t389 x7_1).f2), .string (⟨#[]⟩ : ByteArray), .int .i32 0]) ?_ 3 _ rfl; (with_reducible repeat (first | refine blk_drewN ?_ _ | refine blk_drew ?_ | refine blk_alloc ?_ _)); refine blk_put (cs := #[.int .i64 ((rd_T32 t389 x7_1).f0), .int .i64 ((rd_T32 t389 x7_1).f1), .int .i64 0, .string (⟨#[]⟩ : ByteArray), .int .i32 0]) ?_ 2 _ rfl; (with_reducible repeat (first | refine blk_drewN ?_ _ | refine blk_drew ?_ | refine blk_alloc ?_ _)); refine blk_put (cs := #[.int .i64 ((rd_T32 t389 x7_1).f0), .int .i64 0, .int .i64 0, .string (⟨#[]⟩ : ByteArray), .int .i32 0]) ?_ 1 _ rfl; (with_reducible repeat (first | refine blk_drewN ?_ _ | refine blk_drew ?_ | refine blk_alloc ?_ _)); refine blk_put (cs := #[.int .i64 0, .int .i64 0, .int .i64 0, .string (⟨#[]⟩ : ByteArray), .int .i32 0]) ?_ 0 _ rfl; (with_reducible repeat (first | refine blk_drewN ?_ _ | refine blk_drew ?_ | refine blk_alloc ?_ _)); exact BK395.out⟩, ⟨by repeat (first | (with_reducible first | exact HB.out | apply below_alloc | apply pw_below_drewN | apply below_drew1 | refine below_set ?_ GE395.out) | exact HB.out)⟩⟩
                  · rw [if_neg c16] at H
                    have c16b0 : decide (((rd_T32 t389 x7_1).f1) < x6_1) = false := decide_eq_false c16
                    clear c16
                    (first | rw [c16b0] | (simp only [i64_w, i32_w]; rw [c16b0]) | skip)
                    by_cases c18 : ((rd_T32 t389 x7_1).f2) < ((rd_T32 t389 x7_1).f1)
                    · rw [if_pos c18] at H
                      have c18b0 : decide (((rd_T32 t389 x7_1).f2) < ((rd_T32 t389 x7_1).f1)) = true := decide_eq_true c18
                      clear c18
                      have H' := Aside0.mk H
                      clear H
                      have hcz19_0 : w14.cell? ⟨gb395, 0, none⟩ = some (.int .i64 0) := (blk_cell BK395.out 0).trans rfl
                      have hcz19_1 : w14.cell? ⟨gb395, 1, none⟩ = some (.int .i64 0) := (blk_cell BK395.out 1).trans rfl
                      have hcz19_2 : w14.cell? ⟨gb395, 2, none⟩ = some (.int .i64 0) := (blk_cell BK395.out 2).trans rfl
                      have hcz19_3 : w14.cell? ⟨gb395, 3, none⟩ = some (.string (⟨#[]⟩ : ByteArray)) := (blk_cell BK395.out 3).trans rfl
                      have hcz19_4 : w14.cell? ⟨gb395, 4, none⟩ = some (.int .i32 0) := (blk_cell BK395.out 4).trans rfl
                      have hfz19_0 := blk_frozen BK395.out 0
                      have hfz19_1 := blk_frozen BK395.out 1
                      have hfz19_2 := blk_frozen BK395.out 2
                      have hfz19_3 := blk_frozen BK395.out 3
                      have hfz19_4 := blk_frozen BK395.out 4
                      go_wp2
                      go_meet
                      case rel => exact ⟨_, (true), (by first | rfl | (simp; done) | (simp [*]; done)), H', ⟨by have := HK1.out; first | omega | exact Nat.le_refl _⟩, ⟨by (with_reducible repeat (first | apply Kd.R_alloc | apply Kd.R_drewN | apply Kd.R_drew)); exact Kd.R_mono (Kd.R_far (p := ⟨gb395, 4, none⟩) (Kd.R_far (p := ⟨gb395, 3, none⟩) (Kd.R_far (p := ⟨gb395, 2, none⟩) (Kd.R_far (p := ⟨gb395, 1, none⟩) (Kd.R_far (p := ⟨gb395, 0, none⟩) (Kd.R_mono HO_3.out (fun k_ hk => (⟨hk, hk.2⟩ : _ ∧ k_ ≠ gb395))) (fun _ hk => hk.2) (.int .i64 ((rd_T32 t389 x7_1).f0))) (fun _ hk => hk.2) (.int .i64 ((rd_T32 t389 x7_1).f1))) (fun _ hk => hk.2) (.int .i64 ((rd_T32 t389 x7_1).f2))) (fun _ hk => hk.2) (.string ((rd_T32 t389 x7_1).f3))) (fun _ hk => hk.2) (.int .i32 ((rd_T32 t389 x7_1).f4))) (fun _ hk => hk.1.2)⟩, ⟨by (with_reducible repeat (first | refine blk_drewN ?_ _ | refine blk_drew ?_ | refine blk_alloc ?_ _)); refine blk_put (cs := #[.int .i64 ((rd_T32 t389 x7_1).f0), .int .i64 ((rd_T32 t389 x7_1).f1), .int .i64 ((rd_T32 t389 x7_1).f2), .string ((rd_T32 t389 x7_1).f3), .int .i32 0]) ?_ 4 _ rfl; (with_reducible repeat (first | refine blk_drewN ?_ _ | refine blk_drew ?_ | refine blk_alloc ?_ _)); refine blk_put (cs := #[.int .i64 ((rd_T32 t389 x7_1).f0), .int .i64 ((rd_T32 t389 x7_1).f1), .int .i64 ((rd_T32 t389 x7_1).f2), .string (⟨#[]⟩ : ByteArray), .int .i32 0]) ?_ 3 _ rfl; (with_reducible repeat (first | refine blk_drewN ?_ _ | refine blk_drew ?_ | refine blk_alloc ?_ _)); refine blk_put (cs := #[.int .i64 ((rd_T32 t389 x7_1).f0), .int .i64 ((rd_T32 t389 x7_1).f1), .int .i64 0, .string (⟨#[]⟩ : ByteArray), .int .i32 0]) ?_ 2 _ rfl; (with_reducible repeat (first | refine blk_drewN ?_ _ | refine blk_drew ?_ | refine blk_alloc ?_ _)); refine blk_put (cs := #[.int .i64 ((rd_T32 t389 x7_1).f0), .int .i64 0, .int .i64 0, .string (⟨#[]⟩ : ByteArray), .int .i32 0]) ?_ 1 _ rfl; (with_reducible repeat (first | refine blk_drewN ?_ _ | refine blk_drew ?_ | refine blk_alloc ?_ _)); refine blk_put (cs := #[.int .i64 0, .int .i64 0, .int .i64 0, .string (⟨#[]⟩ : ByteArray), .int .i32 0]) ?_ 0 _ rfl; (with_reducible repeat (first | refine blk_drewN ?_ _ | refine blk_drew ?_ | refine blk_alloc ?_ _)); exact BK395.out⟩, ⟨by repeat (first | (with_reducible first | exact HB.out | apply below_alloc | apply pw_below_drewN | apply below_drew1 | refine below_set ?_ GE395.out) | exact HB.out)⟩⟩
                    · rw [if_neg c18] at H
                      have c18b0 : decide (((rd_T32 t389 x7_1).f2) < ((rd_T32 t389 x7_1).f1)) = false := decide_eq_false c18
                      clear c18
                      by_cases c20 : ((rd_T32 t389 x7_1).f2) > (a0.size : Int)
                      · rw [if_pos c20] at H
                        have c20b0 : decide ((a0.size : Int) < ((rd_T32 t389 x7_1).f2)) = true := decide_eq_true c20
                        clear c20
                        have H' := Aside0.mk H
                        clear H
                        have hcz21_0 : w14.cell? ⟨gb395, 0, none⟩ = some (.int .i64 0) := (blk_cell BK395.out 0).trans rfl
                        have hcz21_1 : w14.cell? ⟨gb395, 1, none⟩ = some (.int .i64 0) := (blk_cell BK395.out 1).trans rfl
                        have hcz21_2 : w14.cell? ⟨gb395, 2, none⟩ = some (.int .i64 0) := (blk_cell BK395.out 2).trans rfl
                        have hcz21_3 : w14.cell? ⟨gb395, 3, none⟩ = some (.string (⟨#[]⟩ : ByteArray)) := (blk_cell BK395.out 3).trans rfl
                        have hcz21_4 : w14.cell? ⟨gb395, 4, none⟩ = some (.int .i32 0) := (blk_cell BK395.out 4).trans rfl
                        have hfz21_0 := blk_frozen BK395.out 0
                        have hfz21_1 := blk_frozen BK395.out 1
                        have hfz21_2 := blk_frozen BK395.out 2
                        have hfz21_3 := blk_frozen BK395.out 3
                        have hfz21_4 := blk_frozen BK395.out 4
                        go_wp2
                        go_meet
                        case rel => exact ⟨_, (true), (by first | rfl | (simp; done) | (simp [*]; done)), H', ⟨by have := HK1.out; first | omega | exact Nat.le_refl _⟩, ⟨by (with_reducible repeat (first | apply Kd.R_alloc | apply Kd.R_drewN | apply Kd.R_drew)); exact Kd.R_mono (Kd.R_far (p := ⟨gb395, 4, none⟩) (Kd.R_far (p := ⟨gb395, 3, none⟩) (Kd.R_far (p := ⟨gb395, 2, none⟩) (Kd.R_far (p := ⟨gb395, 1, none⟩) (Kd.R_far (p := ⟨gb395, 0, none⟩) (Kd.R_mono HO_3.out (fun k_ hk => (⟨hk, hk.2⟩ : _ ∧ k_ ≠ gb395))) (fun _ hk => hk.2) (.int .i64 ((rd_T32 t389 x7_1).f0))) (fun _ hk => hk.2) (.int .i64 ((rd_T32 t389 x7_1).f1))) (fun _ hk => hk.2) (.int .i64 ((rd_T32 t389 x7_1).f2))) (fun _ hk => hk.2) (.string ((rd_T32 t389 x7_1).f3))) (fun _ hk => hk.2) (.int .i32 ((rd_T32 t389 x7_1).f4))) (fun _ hk => hk.1.2)⟩, ⟨by (with_reducible repeat (first | refine blk_drewN ?_ _ | refine blk_drew ?_ | refine blk_alloc ?_ _)); refine blk_put (cs := #[.int .i64 ((rd_T32 t389 x7_1).f0), .int .i64 ((rd_T32 t389 x7_1).f1), .int .i64 ((rd_T32 t389 x7_1).f2), .string ((rd_T32 t389 x7_1).f3), .int .i32 0]) ?_ 4 _ rfl; (with_reducible repeat (first | refine blk_drewN ?_ _ | refine blk_drew ?_ | refine blk_alloc ?_ _)); refine blk_put (cs := #[.int .i64 ((rd_T32 t389 x7_1).f0), .int .i64 ((rd_T32 t389 x7_1).f1), .int .i64 ((rd_T32 t389 x7_1).f2), .string (⟨#[]⟩ : ByteArray), .int .i32 0]) ?_ 3 _ rfl; (with_reducible repeat (first | refine blk_drewN ?_ _ | refine blk_drew ?_ | refine blk_alloc ?_ _)); refine blk_put (cs := #[.int .i64 ((rd_T32 t389 x7_1).f0), .int .i64 ((rd_T32 t389 x7_1).f1), .int .i64 0, .string (⟨#[]⟩ : ByteArray), .int .i32 0]) ?_ 2 _ rfl; (with_reducible repeat (first | refine blk_drewN ?_ _ | refine blk_drew ?_ | refine blk_alloc ?_ _)); refine blk_put (cs := #[.int .i64 ((rd_T32 t389 x7_1).f0), .int .i64 0, .int .i64 0, .string (⟨#[]⟩ : ByteArray), .int .i32 0]) ?_ 1 _ rfl; (with_reducible repeat (first | refine blk_drewN ?_ _ | refine blk_drew ?_ | refine blk_alloc ?_ _)); refine blk_put (cs := #[.int .i64 0, .int .i64 0, .int .i64 0, .string (⟨#[]⟩ : ByteArray), .int .i32 0]) ?_ 0 _ rfl; (with_reducible repeat (first | refine blk_drewN ?_ _ | refine blk_drew ?_ | refine blk_alloc ?_ _)); exact BK395.out⟩, ⟨by repeat (first | (with_reducible first | exact HB.out | apply below_alloc | apply pw_below_drewN | apply below_drew1 | refine below_set ?_ GE395.out) | exact HB.out)⟩⟩
                      · rw [if_neg c20] at H
                        have c20b0 : decide ((a0.size : Int) < ((rd_T32 t389 x7_1).f2)) = false := decide_eq_false c20
                        clear c20
                        by_cases c22 : ((((rd_T32 t389 x7_1).f0) == 0) != (x7_1 == (wrap64 ((t389.length : Int) - 1)))) = true
                        · rw [if_pos c22] at H
                          have c22b0 : ((((rd_T32 t389 x7_1).f0) == 0) != (x7_1 == (wrap64 ((t389.length : Int) - 1)))) = true := c22
                          (try (have c22b1 : decide ((((rd_T32 t389 x7_1).f0) == 0) = (x7_1 == (wrap64 ((t389.length : Int) - 1)))) = false := by simpa using c22))
                          (try (have c22b2 : ((((rd_T32 t389 x7_1).f0) == 0) == (x7_1 == (wrap64 ((t389.length : Int) - 1)))) = false := by simpa using c22))
                          (try (have c22b3 : ¬ ((((rd_T32 t389 x7_1).f0) == 0) = (x7_1 == (wrap64 ((t389.length : Int) - 1)))) := by simpa using c22))
                          clear c22
                          have H' := Aside0.mk H
                          clear H
                          have hcz23_0 : w14.cell? ⟨gb395, 0, none⟩ = some (.int .i64 0) := (blk_cell BK395.out 0).trans rfl
                          have hcz23_1 : w14.cell? ⟨gb395, 1, none⟩ = some (.int .i64 0) := (blk_cell BK395.out 1).trans rfl
                          have hcz23_2 : w14.cell? ⟨gb395, 2, none⟩ = some (.int .i64 0) := (blk_cell BK395.out 2).trans rfl
                          have hcz23_3 : w14.cell? ⟨gb395, 3, none⟩ = some (.string (⟨#[]⟩ : ByteArray)) := (blk_cell BK395.out 3).trans rfl
                          have hcz23_4 : w14.cell? ⟨gb395, 4, none⟩ = some (.int .i32 0) := (blk_cell BK395.out 4).trans rfl
                          have hfz23_0 := blk_frozen BK395.out 0
                          have hfz23_1 := blk_frozen BK395.out 1
                          have hfz23_2 := blk_frozen BK395.out 2
                          have hfz23_3 := blk_frozen BK395.out 3
                          have hfz23_4 := blk_frozen BK395.out 4
                          go_wp2
                          go_meet
                          case rel => exact ⟨_, (true), (by first | rfl | (simp; done) | (simp [*]; done)), H', ⟨by have := HK1.out; first | omega | exact Nat.le_refl _⟩, ⟨by (with_reducible repeat (first | apply Kd.R_alloc | apply Kd.R_drewN | apply Kd.R_drew)); exact Kd.R_mono (Kd.R_far (p := ⟨gb395, 4, none⟩) (Kd.R_far (p := ⟨gb395, 3, none⟩) (Kd.R_far (p := ⟨gb395, 2, none⟩) (Kd.R_far (p := ⟨gb395, 1, none⟩) (Kd.R_far (p := ⟨gb395, 0, none⟩) (Kd.R_mono HO_3.out (fun k_ hk => (⟨hk, hk.2⟩ : _ ∧ k_ ≠ gb395))) (fun _ hk => hk.2) (.int .i64 ((rd_T32 t389 x7_1).f0))) (fun _ hk => hk.2) (.int .i64 ((rd_T32 t389 x7_1).f1))) (fun _ hk => hk.2) (.int .i64 ((rd_T32 t389 x7_1).f2))) (fun _ hk => hk.2) (.string ((rd_T32 t389 x7_1).f3))) (fun _ hk => hk.2) (.int .i32 ((rd_T32 t389 x7_1).f4))) (fun _ hk => hk.1.2)⟩, ⟨by (with_reducible repeat (first | refine blk_drewN ?_ _ | refine blk_drew ?_ | refine blk_alloc ?_ _)); refine blk_put (cs := #[.int .i64 ((rd_T32 t389 x7_1).f0), .int .i64 ((rd_T32 t389 x7_1).f1), .int .i64 ((rd_T32 t389 x7_1).f2), .string ((rd_T32 t389 x7_1).f3), .int .i32 0]) ?_ 4 _ rfl; (with_reducible repeat (first | refine blk_drewN ?_ _ | refine blk_drew ?_ | refine blk_alloc ?_ _)); refine blk_put (cs := #[.int .i64 ((rd_T32 t389 x7_1).f0), .int .i64 ((rd_T32 t389 x7_1).f1), .int .i64 ((rd_T32 t389 x7_1).f2), .string (⟨#[]⟩ : ByteArray), .int .i32 0]) ?_ 3 _ rfl; (with_reducible repeat (first | refine blk_drewN ?_ _ | refine blk_drew ?_ | refine blk_alloc ?_ _)); refine blk_put (cs := #[.int .i64 ((rd_T32 t389 x7_1).f0), .int .i64 ((rd_T32 t389 x7_1).f1), .int .i64 0, .string (⟨#[]⟩ : ByteArray), .int .i32 0]) ?_ 2 _ rfl; (with_reducible repeat (first | refine blk_drewN ?_ _ | refine blk_drew ?_ | refine blk_alloc ?_ _)); refine blk_put (cs := #[.int .i64 ((rd_T32 t389 x7_1).f0), .int .i64 0, .int .i64 0, .string (⟨#[]⟩ : ByteArray), .int .i32 0]) ?_ 1 _ rfl; (with_reducible repeat (first | refine blk_drewN ?_ _ | refine blk_drew ?_ | refine blk_alloc ?_ _)); refine blk_put (cs := #[.int .i64 0, .int .i64 0, .int .i64 0, .string (⟨#[]⟩ : ByteArray), .int .i32 0]) ?_ 0 _ rfl; (with_reducible repeat (first | refine blk_drewN ?_ _ | refine blk_drew ?_ | refine blk_alloc ?_ _)); exact BK395.out⟩, ⟨by repeat (first | (with_reducible first | exact HB.out | apply below_alloc | apply pw_below_drewN | apply below_drew1 | refine below_set ?_ GE395.out) | exact HB.out)⟩⟩
                        · rw [if_neg c22] at H
                          have c22b0 : ((((rd_T32 t389 x7_1).f0) == 0) != (x7_1 == (wrap64 ((t389.length : Int) - 1)))) = false := by simpa using c22
                          (try (have c22b1 : decide ((((rd_T32 t389 x7_1).f0) == 0) = (x7_1 == (wrap64 ((t389.length : Int) - 1)))) = true := by simpa using c22))
                          (try (have c22b2 : ((((rd_T32 t389 x7_1).f0) == 0) == (x7_1 == (wrap64 ((t389.length : Int) - 1)))) = true := by simpa using c22))
                          clear c22
                          have H' := Aside0.mk H
                          clear H
                          have hcz24_0 : w14.cell? ⟨gb395, 0, none⟩ = some (.int .i64 0) := (blk_cell BK395.out 0).trans rfl
                          have hcz24_1 : w14.cell? ⟨gb395, 1, none⟩ = some (.int .i64 0) := (blk_cell BK395.out 1).trans rfl
                          have hcz24_2 : w14.cell? ⟨gb395, 2, none⟩ = some (.int .i64 0) := (blk_cell BK395.out 2).trans rfl
                          have hcz24_3 : w14.cell? ⟨gb395, 3, none⟩ = some (.string (⟨#[]⟩ : ByteArray)) := (blk_cell BK395.out 3).trans rfl
                          have hcz24_4 : w14.cell? ⟨gb395, 4, none⟩ = some (.int .i32 0) := (blk_cell BK395.out 4).trans rfl
                          have hfz24_0 := blk_frozen BK395.out 0
                          have hfz24_1 := blk_frozen BK395.out 1
                          have hfz24_2 := blk_frozen BK395.out 2
                          have hfz24_3 := blk_frozen BK395.out 3
                          have hfz24_4 := blk_frozen BK395.out 4
                          go_wp2
                          go_meet
                          case rel => exact ⟨_, ((((rd_T32 t389 x7_1).f0) == 7)), (by first | rfl | (simp; done) | (simp [*]; done)), H', ⟨by have := HK1.out; first | omega | exact Nat.le_refl _⟩, ⟨by (with_reducible repeat (first | apply Kd.R_alloc | apply Kd.R_drewN | apply Kd.R_drew)); exact Kd.R_mono (Kd.R_far (p := ⟨gb395, 4, none⟩) (Kd.R_far (p := ⟨gb395, 3, none⟩) (Kd.R_far (p := ⟨gb395, 2, none⟩) (Kd.R_far (p := ⟨gb395, 1, none⟩) (Kd.R_far (p := ⟨gb395, 0, none⟩) (Kd.R_mono HO_3.out (fun k_ hk => (⟨hk, hk.2⟩ : _ ∧ k_ ≠ gb395))) (fun _ hk => hk.2) (.int .i64 ((rd_T32 t389 x7_1).f0))) (fun _ hk => hk.2) (.int .i64 ((rd_T32 t389 x7_1).f1))) (fun _ hk => hk.2) (.int .i64 ((rd_T32 t389 x7_1).f2))) (fun _ hk => hk.2) (.string ((rd_T32 t389 x7_1).f3))) (fun _ hk => hk.2) (.int .i32 ((rd_T32 t389 x7_1).f4))) (fun _ hk => hk.1.2)⟩, ⟨by (with_reducible repeat (first | refine blk_drewN ?_ _ | refine blk_drew ?_ | refine blk_alloc ?_ _)); refine blk_put (cs := #[.int .i64 ((rd_T32 t389 x7_1).f0), .int .i64 ((rd_T32 t389 x7_1).f1), .int .i64 ((rd_T32 t389 x7_1).f2), .string ((rd_T32 t389 x7_1).f3), .int .i32 0]) ?_ 4 _ rfl; (with_reducible repeat (first | refine blk_drewN ?_ _ | refine blk_drew ?_ | refine blk_alloc ?_ _)); refine blk_put (cs := #[.int .i64 ((rd_T32 t389 x7_1).f0), .int .i64 ((rd_T32 t389 x7_1).f1), .int .i64 ((rd_T32 t389 x7_1).f2), .string (⟨#[]⟩ : ByteArray), .int .i32 0]) ?_ 3 _ rfl; (with_reducible repeat (first | refine blk_drewN ?_ _ | refine blk_drew ?_ | refine blk_alloc ?_ _)); refine blk_put (cs := #[.int .i64 ((rd_T32 t389 x7_1).f0), .int .i64 ((rd_T32 t389 x7_1).f1), .int .i64 0, .string (⟨#[]⟩ : ByteArray), .int .i32 0]) ?_ 2 _ rfl; (with_reducible repeat (first | refine blk_drewN ?_ _ | refine blk_drew ?_ | refine blk_alloc ?_ _)); refine blk_put (cs := #[.int .i64 ((rd_T32 t389 x7_1).f0), .int .i64 0, .int .i64 0, .string (⟨#[]⟩ : ByteArray), .int .i32 0]) ?_ 1 _ rfl; (with_reducible repeat (first | refine blk_drewN ?_ _ | refine blk_drew ?_ | refine blk_alloc ?_ _)); refine blk_put (cs := #[.int .i64 0, .int .i64 0, .int .i64 0, .string (⟨#[]⟩ : ByteArray), .int .i32 0]) ?_ 0 _ rfl; (with_reducible repeat (first | refine blk_drewN ?_ _ | refine blk_drew ?_ | refine blk_alloc ?_ _)); exact BK395.out⟩, ⟨by repeat (first | (with_reducible first | exact HB.out | apply below_alloc | apply pw_below_drewN | apply below_drew1 | refine below_set ?_ GE395.out) | exact HB.out)⟩⟩
                case rest =>
                  clear HC12
                  try clear c1
                  try clear c2
                  try clear p2
                  try clear c3
                  try clear p3
                  try clear q3
                  try clear hx3
                  try clear c4
                  try clear c4b0
                  try clear c4b1
                  try clear c6
                  try clear p6
                  try clear c7
                  try clear c7b0
                  try clear c7b1
                  try clear c8
                  try clear c9
                  try clear c10
                  try clear c10b0
                  try clear c11
                  try clear c11b0
                  try clear c16
                  try clear c16b0
                  try clear c18
                  try clear c18b0
                  try clear c20
                  try clear c20b0
                  try clear c22
                  try clear c22b0
                  try clear c22b1
                  try clear c22b2
                  try clear hcz15_0
                  try clear hcz15_1
                  try clear hcz15_2
                  try clear hcz15_3
                  try clear hcz15_4
                  try clear hcz17_0
                  try clear hcz17_1
                  try clear hcz17_2
                  try clear hcz17_3
                  try clear hcz17_4
                  try clear hcz19_0
                  try clear hcz19_1
                  try clear hcz19_2
                  try clear hcz19_3
                  try clear hcz19_4
                  try clear hcz21_0
                  try clear hcz21_1
                  try clear hcz21_2
                  try clear hcz21_3
                  try clear hcz21_4
                  try clear hcz23_0
                  try clear hcz23_1
                  try clear hcz23_2
                  try clear hcz23_3
                  try clear hcz23_4
                  try clear hcz24_0
                  try clear hcz24_1
                  try clear hcz24_2
                  try clear hcz24_3
                  try clear hcz24_4
                  try clear hfz15_0
                  try clear hfz15_1
                  try clear hfz15_2
                  try clear hfz15_3
                  try clear hfz15_4
                  try clear hfz17_0
                  try clear hfz17_1
                  try clear hfz17_2
                  try clear hfz17_3
                  try clear hfz17_4
                  try clear hfz19_0
                  try clear hfz19_1
                  try clear hfz19_2
                  try clear hfz19_3
                  try clear hfz19_4
                  try clear hfz21_0
                  try clear hfz21_1
                  try clear hfz21_2
                  try clear hfz21_3
                  try clear hfz21_4
                  try clear hfz23_0
                  try clear hfz23_1
                  try clear hfz23_2
                  try clear hfz23_3
                  try clear hfz23_4
                  try clear hfz24_0
                  try clear hfz24_1
                  try clear hfz24_2
                  try clear hfz24_3
                  try clear hfz24_4
                  try clear hx394_0
                  try clear hx394_1
                  try clear hx394_2
                  try clear hx394_3
                  try clear hx394_4
                  try clear p2
                  try clear p394
                  try clear q394
                  obtain ⟨kq, x69_11, rfl, HA, HJ11, HO_3, BK395, HB⟩ := hcut
                  cases kq with
                  | zero => exact absurd HA.out (by simp [pascalinelaw08_ScanCovers.j1])
                  | succ kj11 =>
                    have H := HA.out
                    clear HA
                    simp only [pascalinelaw08_ScanCovers.j1] at H
                    by_cases c25 : x69_11 = true
                    · subst c25
                      have H1 : (some false) = some r := by rw [if_pos rfl] at H; exact H
                      clear H
                      have H := H1
                      clear H1
                      obtain rfl := Option.some.inj H
                      go_wp2
                      go_ret
                      exact ⟨by first | rfl | (simp [errW_none, errW_some] <;> rfl) | (simp [*, errW_none, errW_some] <;> rfl), by repeat (first | (with_reducible first | exact HB.out | apply below_alloc | apply pw_below_drewN | apply below_drew1 | refine below_set ?_ GE395.out) | exact HB.out)⟩
                    · replace c25 := Bool.eq_false_iff.mpr c25
                      subst c25
                      have H1 : (if 0 ≤ ((rd_T32 t389 x7_1).f1) then (if ((rd_T32 t389 x7_1).f1) ≤ ((rd_T32 t389 x7_1).f2) then (if ((rd_T32 t389 x7_1).f2) ≤ (a0.size : Int) then (if ((rd_T32 t389 x7_1).f0) = 4 then (if ((a0.extract (((rd_T32 t389 x7_1).f1) : Int).toNat (((rd_T32 t389 x7_1).f2) : Int).toNat).size : Int) < 2 then (some false) else (if 1 ≤ (wrap64 (((a0.extract (((rd_T32 t389 x7_1).f1) : Int).toNat (((rd_T32 t389 x7_1).f2) : Int).toNat).size : Int) - 1)) then (if (wrap64 (((a0.extract (((rd_T32 t389 x7_1).f1) : Int).toNat (((rd_T32 t389 x7_1).f2) : Int).toNat).size : Int) - 1)) ≤ ((a0.extract (((rd_T32 t389 x7_1).f1) : Int).toNat (((rd_T32 t389 x7_1).f2) : Int).toNat).size : Int) then (if ((a0.extract (((rd_T32 t389 x7_1).f1) : Int).toNat (((rd_T32 t389 x7_1).f2) : Int).toNat).extract 1 ((wrap64 (((a0.extract (((rd_T32 t389 x7_1).f1) : Int).toNat (((rd_T32 t389 x7_1).f2) : Int).toNat).size : Int) - 1)) : Int).toNat).toList = ((rd_T32 t389 x7_1).f3).toList then (pascalinelaw08_ScanCovers.l0 kj11 a0 t389 ((rd_T32 t389 x7_1).f2) (wrap64 (x7_1 + 1))) else (some false)) else (none)) else (none))) else (if (a0.extract (((rd_T32 t389 x7_1).f1) : Int).toNat (((rd_T32 t389 x7_1).f2) : Int).toNat).toList = ((rd_T32 t389 x7_1).f3).toList then (pascalinelaw08_ScanCovers.l0 kj11 a0 t389 ((rd_T32 t389 x7_1).f2) (wrap64 (x7_1 + 1))) else (some false))) else (none)) else (none)) else (none)) = some r := by rw [if_neg (show ¬ (false = true) by decide)] at H; exact H
                      clear H
                      have H := H1
                      clear H1
                      by_cases c26 : 0 ≤ ((rd_T32 t389 x7_1).f1)
                      · rw [if_pos c26] at H
                        have c26b0 := eq_true c26
                        have c26b1 : decide (0 ≤ ((rd_T32 t389 x7_1).f1)) = true := decide_eq_true c26
                        clear c26
                        by_cases c27 : ((rd_T32 t389 x7_1).f1) ≤ ((rd_T32 t389 x7_1).f2)
                        · rw [if_pos c27] at H
                          have c27b0 := eq_true c27
                          have c27b1 : decide (((rd_T32 t389 x7_1).f1) ≤ ((rd_T32 t389 x7_1).f2)) = true := decide_eq_true c27
                          clear c27
                          by_cases c28 : ((rd_T32 t389 x7_1).f2) ≤ (a0.size : Int)
                          · rw [if_pos c28] at H
                            have c28b0 := eq_true c28
                            have c28b1 : decide (((rd_T32 t389 x7_1).f2) ≤ (a0.size : Int)) = true := decide_eq_true c28
                            clear c28
                            by_cases c29 : ((rd_T32 t389 x7_1).f0) = 4
                            · rw [if_pos c29] at H
                              have c29b0 : (((rd_T32 t389 x7_1).f0) == 4) = true := beq_iff_eq.mpr c29
                              have c29b1 : (((rd_T32 t389 x7_1).f0) != 4) = false := bne_eq_false_iff_eq.mpr c29
                              clear c29
                              have hsz_ : (a0.extract (((rd_T32 t389 x7_1).f1) : Int).toNat (((rd_T32 t389 x7_1).f2) : Int).toNat).size = (((rd_T32 t389 x7_1).f2) : Int).toNat - (((rd_T32 t389 x7_1).f1) : Int).toNat := by rw [ByteArray.size_extract, Nat.min_eq_left]; have := of_eq_true c28b0; omega
                              obtain ⟨sub_, hsub_⟩ : ∃ z : Nat, (((rd_T32 t389 x7_1).f2) : Int).toNat - (((rd_T32 t389 x7_1).f1) : Int).toNat = z := ⟨_, rfl⟩
                              have hsub2_ : (rd_T32 t389 x7_1).f2.toNat - (rd_T32 t389 x7_1).f1.toNat = sub_ := hsub_
                              rw [hsub_] at hsz_
                              rw [hsz_] at H
                              try rw [hsz_] at H
                              by_cases c30 : (sub_ : Int) < 2
                              · rw [if_pos c30] at H
                                have c30b0 : decide ((sub_ : Int) < 2) = true := decide_eq_true c30
                                have c30b1 : decide (sub_ < 2) = true := decide_eq_true (by omega)
                                clear c30
                                obtain rfl := Option.some.inj H
                                have hcz31_0 : wc.cell? ⟨gb395, 0, none⟩ = some (.int .i64 ((rd_T32 t389 x7_1).f0)) := (blk_cell BK395.out 0).trans rfl
                                have hcz31_1 : wc.cell? ⟨gb395, 1, none⟩ = some (.int .i64 ((rd_T32 t389 x7_1).f1)) := (blk_cell BK395.out 1).trans rfl
                                have hcz31_2 : wc.cell? ⟨gb395, 2, none⟩ = some (.int .i64 ((rd_T32 t389 x7_1).f2)) := (blk_cell BK395.out 2).trans rfl
                                have hcz31_3 : wc.cell? ⟨gb395, 3, none⟩ = some (.string ((rd_T32 t389 x7_1).f3)) := (blk_cell BK395.out 3).trans rfl
                                have hcz31_4 : wc.cell? ⟨gb395, 4, none⟩ = some (.int .i32 ((rd_T32 t389 x7_1).f4)) := (blk_cell BK395.out 4).trans rfl
                                have hfz31_0 := blk_frozen BK395.out 0
                                have hfz31_1 := blk_frozen BK395.out 1
                                have hfz31_2 := blk_frozen BK395.out 2
                                have hfz31_3 := blk_frozen BK395.out 3
                                have hfz31_4 := blk_frozen BK395.out 4
                                go_wp2
                                go_ret
                                exact ⟨by first | rfl | (simp [errW_none, errW_some] <;> rfl) | (simp [*, errW_none, errW_some] <;> rfl), by repeat (first | (with_reducible first | exact HB.out | apply below_alloc | apply pw_below_drewN | apply below_drew1 | refine below_set ?_ GE395.out) | exact HB.out)⟩
                              · rw [if_neg c30] at H
                                have c30b0 : decide ((sub_ : Int) < 2) = false := decide_eq_false c30
                                have c30b1 : decide (sub_ < 2) = false := decide_eq_false (by omega)
                                clear c30
                                by_cases c32 : 1 ≤ (wrap64 ((sub_ : Int) - 1))
                                · rw [if_pos c32] at H
                                  have c32b0 := eq_true c32
                                  have c32b1 : decide (1 ≤ (wrap64 ((sub_ : Int) - 1))) = true := decide_eq_true c32
                                  clear c32
                                  by_cases c33 : (wrap64 ((sub_ : Int) - 1)) ≤ (sub_ : Int)
                                  · rw [if_pos c33] at H
                                    have c33b0 := eq_true c33
                                    have c33b1 : decide ((wrap64 ((sub_ : Int) - 1)) ≤ (sub_ : Int)) = true := decide_eq_true c33
                                    clear c33
                                    by_cases c34 : ((a0.extract (((rd_T32 t389 x7_1).f1) : Int).toNat (((rd_T32 t389 x7_1).f2) : Int).toNat).extract 1 ((wrap64 ((sub_ : Int) - 1)) : Int).toNat).toList = ((rd_T32 t389 x7_1).f3).toList
                                    · rw [if_pos c34] at H
                                      have c34b0 : (((a0.extract (((rd_T32 t389 x7_1).f1) : Int).toNat (((rd_T32 t389 x7_1).f2) : Int).toNat).extract 1 ((wrap64 ((sub_ : Int) - 1)) : Int).toNat).toList == ((rd_T32 t389 x7_1).f3).toList) = true := beq_iff_eq.mpr c34
                                      have c34b1 : (((a0.extract (((rd_T32 t389 x7_1).f1) : Int).toNat (((rd_T32 t389 x7_1).f2) : Int).toNat).extract 1 ((wrap64 ((sub_ : Int) - 1)) : Int).toNat).toList != ((rd_T32 t389 x7_1).f3).toList) = false := bne_eq_false_iff_eq.mpr c34
                                      clear c34
                                      have H' := Aside0.mk H
                                      clear H
                                      have hcz35_0 : wc.cell? ⟨gb395, 0, none⟩ = some (.int .i64 ((rd_T32 t389 x7_1).f0)) := (blk_cell BK395.out 0).trans rfl
                                      have hcz35_1 : wc.cell? ⟨gb395, 1, none⟩ = some (.int .i64 ((rd_T32 t389 x7_1).f1)) := (blk_cell BK395.out 1).trans rfl
                                      have hcz35_2 : wc.cell? ⟨gb395, 2, none⟩ = some (.int .i64 ((rd_T32 t389 x7_1).f2)) := (blk_cell BK395.out 2).trans rfl
                                      have hcz35_3 : wc.cell? ⟨gb395, 3, none⟩ = some (.string ((rd_T32 t389 x7_1).f3)) := (blk_cell BK395.out 3).trans rfl
                                      have hcz35_4 : wc.cell? ⟨gb395, 4, none⟩ = some (.int .i32 ((rd_T32 t389 x7_1).f4)) := (blk_cell BK395.out 4).trans rfl
                                      have hfz35_0 := blk_frozen BK395.out 0
                                      have hfz35_1 := blk_frozen BK395.out 1
                                      have hfz35_2 := blk_frozen BK395.out 2
                                      have hfz35_3 := blk_frozen BK395.out 3
                                      have hfz35_4 := blk_frozen BK395.out 4
                                      go_wp2
                                      go_roundg kj11
                                      case measure => have := HK1.out; have := HJ11.out; omega
                                      case rel => exact ⟨(((rd_T32 t389 x7_1).f2)), (wrap64 (x7_1 + 1)), (by first | rfl | (simp; done) | (simp [*]; done)), (by first | rfl | (simp; done) | (simp [*]; done)), H', ⟨by have := HK1.out; have := HJ11.out; omega⟩, ⟨by (with_reducible repeat (first | apply Kd.R_alloc | apply Kd.R_drewN | apply Kd.R_drew)); exact Kd.R_mono HO_3.out (fun _ hk => trivial)⟩, ⟨by repeat (first | (with_reducible first | exact HB.out | apply below_alloc | apply pw_below_drewN | apply below_drew1 | refine below_set ?_ GE395.out) | exact HB.out)⟩⟩
                                    · rw [if_neg c34] at H
                                      have c34b0 : (((a0.extract (((rd_T32 t389 x7_1).f1) : Int).toNat (((rd_T32 t389 x7_1).f2) : Int).toNat).extract 1 ((wrap64 ((sub_ : Int) - 1)) : Int).toNat).toList == ((rd_T32 t389 x7_1).f3).toList) = false := beq_eq_false_iff_ne.mpr c34
                                      have c34b1 : (((a0.extract (((rd_T32 t389 x7_1).f1) : Int).toNat (((rd_T32 t389 x7_1).f2) : Int).toNat).extract 1 ((wrap64 ((sub_ : Int) - 1)) : Int).toNat).toList != ((rd_T32 t389 x7_1).f3).toList) = true := bne_iff_ne.mpr c34
                                      obtain rfl := Option.some.inj H
                                      have hcz36_0 : wc.cell? ⟨gb395, 0, none⟩ = some (.int .i64 ((rd_T32 t389 x7_1).f0)) := (blk_cell BK395.out 0).trans rfl
                                      have hcz36_1 : wc.cell? ⟨gb395, 1, none⟩ = some (.int .i64 ((rd_T32 t389 x7_1).f1)) := (blk_cell BK395.out 1).trans rfl
                                      have hcz36_2 : wc.cell? ⟨gb395, 2, none⟩ = some (.int .i64 ((rd_T32 t389 x7_1).f2)) := (blk_cell BK395.out 2).trans rfl
                                      have hcz36_3 : wc.cell? ⟨gb395, 3, none⟩ = some (.string ((rd_T32 t389 x7_1).f3)) := (blk_cell BK395.out 3).trans rfl
                                      have hcz36_4 : wc.cell? ⟨gb395, 4, none⟩ = some (.int .i32 ((rd_T32 t389 x7_1).f4)) := (blk_cell BK395.out 4).trans rfl
                                      have hfz36_0 := blk_frozen BK395.out 0
                                      have hfz36_1 := blk_frozen BK395.out 1
                                      have hfz36_2 := blk_frozen BK395.out 2
                                      have hfz36_3 := blk_frozen BK395.out 3
                                      have hfz36_4 := blk_frozen BK395.out 4
                                      go_wp2
                                      go_ret
                                      exact ⟨by first | rfl | (simp [errW_none, errW_some] <;> rfl) | (simp [*, errW_none, errW_some] <;> rfl), by repeat (first | (with_reducible first | exact HB.out | apply below_alloc | apply pw_below_drewN | apply below_drew1 | refine below_set ?_ GE395.out) | exact HB.out)⟩
                                  · rw [if_neg c33] at H
                                    exact absurd H (by simp)
                                · rw [if_neg c32] at H
                                  exact absurd H (by simp)
                            · rw [if_neg c29] at H
                              have c29b0 : (((rd_T32 t389 x7_1).f0) == 4) = false := beq_eq_false_iff_ne.mpr c29
                              have c29b1 : (((rd_T32 t389 x7_1).f0) != 4) = true := bne_iff_ne.mpr c29
                              by_cases c37 : (a0.extract (((rd_T32 t389 x7_1).f1) : Int).toNat (((rd_T32 t389 x7_1).f2) : Int).toNat).toList = ((rd_T32 t389 x7_1).f3).toList
                              · rw [if_pos c37] at H
                                have c37b0 : ((a0.extract (((rd_T32 t389 x7_1).f1) : Int).toNat (((rd_T32 t389 x7_1).f2) : Int).toNat).toList == ((rd_T32 t389 x7_1).f3).toList) = true := beq_iff_eq.mpr c37
                                have c37b1 : ((a0.extract (((rd_T32 t389 x7_1).f1) : Int).toNat (((rd_T32 t389 x7_1).f2) : Int).toNat).toList != ((rd_T32 t389 x7_1).f3).toList) = false := bne_eq_false_iff_eq.mpr c37
                                clear c37
                                have H' := Aside0.mk H
                                clear H
                                have hcz38_0 : wc.cell? ⟨gb395, 0, none⟩ = some (.int .i64 ((rd_T32 t389 x7_1).f0)) := (blk_cell BK395.out 0).trans rfl
                                have hcz38_1 : wc.cell? ⟨gb395, 1, none⟩ = some (.int .i64 ((rd_T32 t389 x7_1).f1)) := (blk_cell BK395.out 1).trans rfl
                                have hcz38_2 : wc.cell? ⟨gb395, 2, none⟩ = some (.int .i64 ((rd_T32 t389 x7_1).f2)) := (blk_cell BK395.out 2).trans rfl
                                have hcz38_3 : wc.cell? ⟨gb395, 3, none⟩ = some (.string ((rd_T32 t389 x7_1).f3)) := (blk_cell BK395.out 3).trans rfl
                                have hcz38_4 : wc.cell? ⟨gb395, 4, none⟩ = some (.int .i32 ((rd_T32 t389 x7_1).f4)) := (blk_cell BK395.out 4).trans rfl
                                have hfz38_0 := blk_frozen BK395.out 0
                                have hfz38_1 := blk_frozen BK395.out 1
                                have hfz38_2 := blk_frozen BK395.out 2
                                have hfz38_3 := blk_frozen BK395.out 3
                                have hfz38_4 := blk_frozen BK395.out 4
                                go_wp2
                                go_roundg kj11
                                case measure => have := HK1.out; have := HJ11.out; omega
                                case rel => exact ⟨(((rd_T32 t389 x7_1).f2)), (wrap64 (x7_1 + 1)), (by first | rfl | (simp; done) | (simp [*]; done)), (by first | rfl | (simp; done) | (simp [*]; done)), H', ⟨by have := HK1.out; have := HJ11.out; omega⟩, ⟨by (with_reducible repeat (first | apply Kd.R_alloc | apply Kd.R_drewN | apply Kd.R_drew)); exact Kd.R_mono HO_3.out (fun _ hk => trivial)⟩, ⟨by repeat (first | (with_reducible first | exact HB.out | apply below_alloc | apply pw_below_drewN | apply below_drew1 | refine below_set ?_ GE395.out) | exact HB.out)⟩⟩
                              · rw [if_neg c37] at H
                                have c37b0 : ((a0.extract (((rd_T32 t389 x7_1).f1) : Int).toNat (((rd_T32 t389 x7_1).f2) : Int).toNat).toList == ((rd_T32 t389 x7_1).f3).toList) = false := beq_eq_false_iff_ne.mpr c37
                                have c37b1 : ((a0.extract (((rd_T32 t389 x7_1).f1) : Int).toNat (((rd_T32 t389 x7_1).f2) : Int).toNat).toList != ((rd_T32 t389 x7_1).f3).toList) = true := bne_iff_ne.mpr c37
                                obtain rfl := Option.some.inj H
                                have hcz39_0 : wc.cell? ⟨gb395, 0, none⟩ = some (.int .i64 ((rd_T32 t389 x7_1).f0)) := (blk_cell BK395.out 0).trans rfl
                                have hcz39_1 : wc.cell? ⟨gb395, 1, none⟩ = some (.int .i64 ((rd_T32 t389 x7_1).f1)) := (blk_cell BK395.out 1).trans rfl
                                have hcz39_2 : wc.cell? ⟨gb395, 2, none⟩ = some (.int .i64 ((rd_T32 t389 x7_1).f2)) := (blk_cell BK395.out 2).trans rfl
                                have hcz39_3 : wc.cell? ⟨gb395, 3, none⟩ = some (.string ((rd_T32 t389 x7_1).f3)) := (blk_cell BK395.out 3).trans rfl
                                have hcz39_4 : wc.cell? ⟨gb395, 4, none⟩ = some (.int .i32 ((rd_T32 t389 x7_1).f4)) := (blk_cell BK395.out 4).trans rfl
                                have hfz39_0 := blk_frozen BK395.out 0
                                have hfz39_1 := blk_frozen BK395.out 1
                                have hfz39_2 := blk_frozen BK395.out 2
                                have hfz39_3 := blk_frozen BK395.out 3
                                have hfz39_4 := blk_frozen BK395.out 4
                                go_wp2
                                go_ret
                                exact ⟨by first | rfl | (simp [errW_none, errW_some] <;> rfl) | (simp [*, errW_none, errW_some] <;> rfl), by repeat (first | (with_reducible first | exact HB.out | apply below_alloc | apply pw_below_drewN | apply below_drew1 | refine below_set ?_ GE395.out) | exact HB.out)⟩
                          · rw [if_neg c28] at H
                            exact absurd H (by simp)
                        · rw [if_neg c27] at H
                          exact absurd H (by simp)
                      · rw [if_neg c26] at H
                        exact absurd H (by simp)
              · rw [if_neg c11] at H
                exact absurd H (by simp)
            · rw [if_neg c10] at H
              have c10b0 : decide (x7_1 < (t389.length : Int)) = false := decide_eq_false c10
              clear c10
              obtain rfl := Option.some.inj H
              obtain ⟨Ao40, co40, eo40⟩ := Kd.R_slice HO_3.out
              subst eo40
              go_wp2
              go_ret
              exact ⟨by first | rfl | (simp [errW_none, errW_some] <;> rfl) | (simp [*, errW_none, errW_some] <;> rfl), by repeat (first | (with_reducible first | exact HB.out | apply below_alloc | apply pw_below_drewN | apply below_drew1) | exact HB.out)⟩
      · rw [if_neg c7] at H
        have c7b0 : (t391 == 0) = false := beq_eq_false_iff_ne.mpr c7
        have c7b1 : (t391 != 0) = true := bne_iff_ne.mpr c7
        obtain rfl := Option.some.inj H
        go_enter Try.func6, Try.ntmps6
        go_wp2_with (first | ((with_reducible refine gate_callee (f := 8) rfl ?_); refine goesL_ (some 10) rfl rfl Try.func8 (by kernel_rfl) rfl #[] rfl (by (try simp only [List.map_toArray, List.map_cons, List.map_nil]); first | done | rfl | (simp only [List.length_drop, List.length_take]; rfl)) ?_; (with_reducible refine (pascalinelaw08_awake.calls k  true _ A2.out).mono ?_); rintro e w41 ⟨rfl, hb⟩; refine ⟨_, rfl, ?_⟩; have n0_ := Aside0.mk (below_step (by repeat (first | (with_reducible first | exact HB.out | apply below_alloc | apply pw_below_drewN | apply below_drew1) | exact HB.out)) hb); clear HB; have HB := n0_; clear n0_; (try clear hb); (try clear hb2); (try clear hk); (try clear hi)) | ((with_reducible refine gate_callee (f := 9) rfl ?_); refine goesL_ (some 17) rfl rfl Try.func9 (by kernel_rfl) rfl #[.string a0] rfl (by (try simp only [List.map_toArray, List.map_cons, List.map_nil]); first | done | rfl | (simp only [List.length_drop, List.length_take]; rfl)) ?_; (with_reducible refine (scan_All.calls k a0 t389 t390 t391 _ A6.out).mono ?_); rintro e w42 ⟨v392, rfl, ho0, hb⟩; refine ⟨_, rfl, ?_⟩; have n0_ := Aside0.mk (Kd.R_lower ho0 (below_size (by repeat (first | (with_reducible first | exact HB.out | apply below_alloc | apply pw_below_drewN | apply below_drew1) | exact HB.out)))); have n1_ := Aside0.mk (below_step (by repeat (first | (with_reducible first | exact HB.out | apply below_alloc | apply pw_below_drewN | apply below_drew1) | exact HB.out)) hb); clear HB; have HO393 := n0_; have HB := n1_; clear n0_ n1_; (try clear hb); (try clear hb2); (try clear hk); (try clear hi); (try clear ho0); obtain ⟨Ao43, co43, eo43⟩ := Kd.R_slice HO393.out; subst eo43))
        go_ret
        exact ⟨by first | rfl | (simp [errW_none, errW_some] <;> rfl) | (simp [*, errW_none, errW_some] <;> rfl), by repeat (first | (with_reducible first | exact HB.out | apply below_alloc | apply pw_below_drewN | apply below_drew1) | exact HB.out)⟩
  · replace c3 := Bool.eq_false_iff.mpr c3
    subst c3
    have H1 : (some false) = some r := by rw [if_neg (show ¬ (false = true) by decide)] at H; exact H
    clear H
    have H := H1
    clear H1
    obtain rfl := Option.some.inj H
    go_enter Try.func6, Try.ntmps6
    go_wp2_with (first | ((with_reducible refine gate_callee (f := 8) rfl ?_); refine goesL_ (some 10) rfl rfl Try.func8 (by kernel_rfl) rfl #[] rfl (by (try simp only [List.map_toArray, List.map_cons, List.map_nil]); first | done | rfl | (simp only [List.length_drop, List.length_take]; rfl)) ?_; (with_reducible refine (pascalinelaw08_awake.calls k  false _ A2.out).mono ?_); rintro e w44 ⟨rfl, hb⟩; refine ⟨_, rfl, ?_⟩; have n0_ := Aside0.mk (below_step (by repeat (first | (with_reducible first | exact HB.out | apply below_alloc | apply pw_below_drewN | apply below_drew1) | exact HB.out)) hb); clear HB; have HB := n0_; clear n0_; (try clear hb); (try clear hb2); (try clear hk); (try clear hi)))
    go_ret
    exact ⟨by first | rfl | (simp [errW_none, errW_some] <;> rfl) | (simp [*, errW_none, errW_some] <;> rfl), by repeat (first | (with_reducible first | exact HB.out | apply below_alloc | apply pw_below_drewN | apply below_drew1) | exact HB.out)⟩

/-- THE ONE PURE STATEMENT of pascalinelaw08_ScanCovers: yours. -/
def pascalinelaw08_ScanCovers.Pure : Prop := ∀ (a0 : ByteArray), a0.size ≤ 140737488351232 → ∃ k, pascalinelaw08_ScanCovers.f k a0 = some true
theorem pascalinelaw08_ScanCovers.walk (P : pascalinelaw08_ScanCovers.Pure) (a0 : ByteArray) (w : World) (w0 : a0.size ≤ 140737488351232) :
    Calls Try.prog 6 #[.string a0] w fun e w' => e = .returned (.bool true) ∧ Below w.heap.size w w' := by
  obtain ⟨k, h⟩ := P a0 w0
  refine (pascalinelaw08_ScanCovers.calls k a0 true w h).mono ?_
  rintro e w' ⟨rfl, hd⟩
  exact ⟨rfl, hd⟩

end Go.Proofs.Ytmalonlbnjiclaa.PAll
