-- Cut by shake.py (what this claim does not use is dropped) from a text that was printed by a turned copy of print.py (which functions: told by hand; relay.sh) out of the translation. Not trusted: Lean checks it.
import Derived.Test.YtehdhmhpmkkneaaBPAllx0
import Derived.Test.YtehdhmhpmkkneaaBMi
namespace Go.Proofs.Ytehdhmhpmkkneaa.PAll
open Go.RowKit Go.Proofs.YtehdhmhpmkkneaaW.PrintWords Go.Proofs.YtehdhmhpmkkneaaW.PrintLast Go.Proofs.YtehdhmhpmkkneaaW.PrintMore
attribute [local go_sem] max2_int min2_int max_two min_two max_three min_three max_four min_four   -- for this text's walks alone
set_option linter.unusedVariables false
set_option linter.unusedSimpArgs false
/-! ### pascalinelaw14_small: function 49 -/
mutual
def pascalinelaw14_small.j0 : Nat → Bool → ByteArray → Int → List (S93) → List (S80) → Option (Bool)
  | 0, _, _, _, _, _ => none
  | k + 1, x19, x347000, x347001, x347002, x347003 => if x19 = true then (some false) else (pascalinelaw14_small.l0 k 0 x347000 x347001 x347002 x347003)
def pascalinelaw14_small.l0 : Nat → Int → ByteArray → Int → List (S93) → List (S80) → Option (Bool)
  | 0, _, _, _, _, _ => none
  | k + 1, x3, x347000, x347001, x347002, x347003 => if x3 < (x347003.length : Int) then (if 0 ≤ x3 then (if (((rd_T80 x347003 x3).f0).size : Int) > 200 then (some false) else (if (((rd_T80 x347003 x3).f4).length : Int) > 40 then (some false) else (pascalinelaw14_small.l0 k (wrap64 (x3 + 1)) x347000 x347001 x347002 x347003))) else (none)) else (some true)
end
def pascalinelaw14_small.f (k : Nat) (a0_0 : ByteArray) (a0_1 : Int) (l0_2 : List (S93)) (l0_3 : List (S80)) : Option (Bool) := if (l0_2.length : Int) > 80 then (pascalinelaw14_small.j0 k true a0_0 a0_1 l0_2 l0_3) else (if (l0_3.length : Int) > 60 then (pascalinelaw14_small.j0 k true a0_0 a0_1 l0_2 l0_3) else (pascalinelaw14_small.j0 k (decide ((a0_0.size : Int) > 200)) a0_0 a0_1 l0_2 l0_3))
set_option maxHeartbeats 8000000 in
set_option maxRecDepth 100000 in
theorem pascalinelaw14_small.calls (k : Nat) (a0_0 : ByteArray) (a0_1 : Int) (A0_2 : Option Addr) (c0_2 : Nat) (l0_2 : List (S93)) (A0_3 : Option Addr) (c0_3 : Nat) (l0_3 : List (S80)) (r : Bool) (w : World) (hr0_2 : Kd.C k93 w A0_2 l0_2.length l0_2) (hc0_2 : l0_2.length ≤ c0_2) (hr0_3 : Kd.C k80 w A0_3 l0_3.length l0_3) (hc0_3 : l0_3.length ≤ c0_3) (h : pascalinelaw14_small.f k a0_0 a0_1 l0_2 l0_3 = some r) :
    Calls Try.prog 49 #[.agg #[.string a0_0, .int .u32 a0_1, .slice A0_2 l0_2.length c0_2, .slice A0_3 l0_3.length c0_3]] w fun e w' => e = .returned (.bool r) ∧ Below w.heap.size w w' := by
  have hu75 := Try.underlying75
  have HR0_2 := Aside0.mk hr0_2
  have HC0_2 := Aside0.mk hc0_2
  clear hr0_2 hc0_2
  have HR0_3 := Aside0.mk hr0_3
  have HC0_3 := Aside0.mk hc0_3
  clear hr0_3 hc0_3
  have HB := Aside0.mk (Below.refl w.heap.size w)
  have H : (if (l0_2.length : Int) > 80 then (pascalinelaw14_small.j0 k true a0_0 a0_1 l0_2 l0_3) else (if (l0_3.length : Int) > 60 then (pascalinelaw14_small.j0 k true a0_0 a0_1 l0_2 l0_3) else (pascalinelaw14_small.j0 k (decide ((a0_0.size : Int) > 200)) a0_0 a0_1 l0_2 l0_3))) = some r := h
  clear h
  have HC2 := Aside0.mk H
  clear H
  go_enter Try.func49, Try.ntmps49
  go_upto_region 1 with (first | ((with_reducible refine gate_dst (N := 1) rfl ?_); (try (refine gate_guard (by rfl) ?_; dsimp only)); refine box_event ?hg (N := 1) ?hd (cs := #[.string a0_0, .int .u32 a0_1, .slice A0_2 l0_2.length c0_2, .slice A0_3 l0_3.length c0_3]) (t := 75) ?hr ?_; (case hd => rfl); (case hg => rfl); (case hr => first | (go_simp; done) | (go_simp; rfl)); intro gb346 hg w3 hbox hb; have n0_ := Aside0.mk (below_step (by repeat (first | (with_reducible first | exact HB.out | apply below_alloc | apply pw_below_drewN | apply below_drew1) | exact HB.out)) hb); have n1_ := Aside0.mk (hbox); have n2_ := Aside0.mk ((by rw [hg]; exact (below_size (by repeat (first | (with_reducible first | exact HB.out | apply below_alloc | apply pw_below_drewN | apply below_drew1) | exact HB.out))) : w.heap.size ≤ gb346)); have n3_ := Aside0.mk ((by rw [hg]; exact (below_size (by repeat (first | (with_reducible first | exact HB.out | apply below_alloc | apply pw_below_drewN | apply below_drew1) | exact HB.out))) : w.heap.size ≤ gb346)); clear HB; have HB := n0_; have BK346 := n1_; have GW346 := n2_; have GE346 := n3_; clear n0_ n1_ n2_ n3_; clear hb hbox hg))
  (try simp only [Act.put, List.setIfInBounds_toArray, List.set_cons_zero, List.set_cons_succ])
  go_cut [19] (fun v19 wc => ∃ (kq : Nat) (x19_1 : Bool), v19 = .bool x19_1 ∧ Aside0 (pascalinelaw14_small.j0 kq x19_1 a0_0 a0_1 l0_2 l0_3 = some r) ∧ Aside0 (kq ≤ k) ∧ Aside0 (wc.heap[gb346]? = some (.cells #[.string a0_0, .int .u32 a0_1, (.slice A0_2 l0_2.length c0_2), (.slice A0_3 l0_3.length c0_3)] 75 (0, 0))) ∧ Aside0 (Below w.heap.size w wc))
  case first =>
    have H := HC2.out
    clear HC2
    by_cases c4 : (l0_2.length : Int) > 80
    · rw [if_pos c4] at H
      have c4b0 : decide (80 < (l0_2.length : Int)) = true := decide_eq_true c4
      have c4b1 : decide (80 < l0_2.length) = true := decide_eq_true (by omega)
      clear c4
      (first | rw [c4b0] | (simp only [i64_w, i32_w]; rw [c4b0]) | skip)
      have H' := Aside0.mk H
      clear H
      have hcz5_0 : w3.cell? ⟨gb346, 0, none⟩ = some (.string a0_0) := (blk_cell BK346.out 0).trans rfl
      have hcz5_1 : w3.cell? ⟨gb346, 1, none⟩ = some (.int .u32 a0_1) := (blk_cell BK346.out 1).trans rfl
      have hcz5_2 : w3.cell? ⟨gb346, 2, none⟩ = some (.slice A0_2 l0_2.length c0_2) := (blk_cell BK346.out 2).trans rfl
      have hcz5_3 : w3.cell? ⟨gb346, 3, none⟩ = some (.slice A0_3 l0_3.length c0_3) := (blk_cell BK346.out 3).trans rfl
      have hfz5_0 := blk_frozen BK346.out 0
      have hfz5_1 := blk_frozen BK346.out 1
      have hfz5_2 := blk_frozen BK346.out 2
      have hfz5_3 := blk_frozen BK346.out 3
      go_wp2
      go_meet
      case rel => exact ⟨_, (true), (by first | rfl | (simp; done) | (simp [*]; done)), H', ⟨by first | omega | exact Nat.le_refl _⟩, ⟨by (with_reducible repeat (first | refine blk_drewN ?_ _ | refine blk_drew ?_ | refine blk_alloc ?_ _)); exact BK346.out⟩, ⟨by repeat (first | (with_reducible first | exact HB.out | apply below_alloc | apply pw_below_drewN | apply below_drew1 | refine below_set ?_ GE346.out) | exact HB.out)⟩⟩
    · rw [if_neg c4] at H
      have c4b0 : decide (80 < (l0_2.length : Int)) = false := decide_eq_false c4
      have c4b1 : decide (80 < l0_2.length) = false := decide_eq_false (by omega)
      clear c4
      (first | rw [c4b0] | (simp only [i64_w, i32_w]; rw [c4b0]) | skip)
      by_cases c6 : (l0_3.length : Int) > 60
      · rw [if_pos c6] at H
        have c6b0 : decide (60 < (l0_3.length : Int)) = true := decide_eq_true c6
        have c6b1 : decide (60 < l0_3.length) = true := decide_eq_true (by omega)
        clear c6
        have H' := Aside0.mk H
        clear H
        have hcz7_0 : w3.cell? ⟨gb346, 0, none⟩ = some (.string a0_0) := (blk_cell BK346.out 0).trans rfl
        have hcz7_1 : w3.cell? ⟨gb346, 1, none⟩ = some (.int .u32 a0_1) := (blk_cell BK346.out 1).trans rfl
        have hcz7_2 : w3.cell? ⟨gb346, 2, none⟩ = some (.slice A0_2 l0_2.length c0_2) := (blk_cell BK346.out 2).trans rfl
        have hcz7_3 : w3.cell? ⟨gb346, 3, none⟩ = some (.slice A0_3 l0_3.length c0_3) := (blk_cell BK346.out 3).trans rfl
        have hfz7_0 := blk_frozen BK346.out 0
        have hfz7_1 := blk_frozen BK346.out 1
        have hfz7_2 := blk_frozen BK346.out 2
        have hfz7_3 := blk_frozen BK346.out 3
        go_wp2
        go_meet
        case rel => exact ⟨_, (true), (by first | rfl | (simp; done) | (simp [*]; done)), H', ⟨by first | omega | exact Nat.le_refl _⟩, ⟨by (with_reducible repeat (first | refine blk_drewN ?_ _ | refine blk_drew ?_ | refine blk_alloc ?_ _)); exact BK346.out⟩, ⟨by repeat (first | (with_reducible first | exact HB.out | apply below_alloc | apply pw_below_drewN | apply below_drew1 | refine below_set ?_ GE346.out) | exact HB.out)⟩⟩
      · rw [if_neg c6] at H
        have c6b0 : decide (60 < (l0_3.length : Int)) = false := decide_eq_false c6
        have c6b1 : decide (60 < l0_3.length) = false := decide_eq_false (by omega)
        clear c6
        have H' := Aside0.mk H
        clear H
        have hcz8_0 : w3.cell? ⟨gb346, 0, none⟩ = some (.string a0_0) := (blk_cell BK346.out 0).trans rfl
        have hcz8_1 : w3.cell? ⟨gb346, 1, none⟩ = some (.int .u32 a0_1) := (blk_cell BK346.out 1).trans rfl
        have hcz8_2 : w3.cell? ⟨gb346, 2, none⟩ = some (.slice A0_2 l0_2.length c0_2) := (blk_cell BK346.out 2).trans rfl
        have hcz8_3 : w3.cell? ⟨gb346, 3, none⟩ = some (.slice A0_3 l0_3.length c0_3) := (blk_cell BK346.out 3).trans rfl
        have hfz8_0 := blk_frozen BK346.out 0
        have hfz8_1 := blk_frozen BK346.out 1
        have hfz8_2 := blk_frozen BK346.out 2
        have hfz8_3 := blk_frozen BK346.out 3
        go_wp2
        go_meet
        case rel => exact ⟨_, (decide ((a0_0.size : Int) > 200)), (by first | rfl | (simp; done) | (simp [*]; done)), H', ⟨by first | omega | exact Nat.le_refl _⟩, ⟨by (with_reducible repeat (first | refine blk_drewN ?_ _ | refine blk_drew ?_ | refine blk_alloc ?_ _)); exact BK346.out⟩, ⟨by repeat (first | (with_reducible first | exact HB.out | apply below_alloc | apply pw_below_drewN | apply below_drew1 | refine below_set ?_ GE346.out) | exact HB.out)⟩⟩
  case rest =>
    clear HC2
    try clear p2
    try clear c4
    try clear c4b0
    try clear c4b1
    try clear c6
    try clear c6b0
    try clear c6b1
    try clear hcz5_0
    try clear hcz5_1
    try clear hcz5_2
    try clear hcz5_3
    try clear hcz7_0
    try clear hcz7_1
    try clear hcz7_2
    try clear hcz7_3
    try clear hcz8_0
    try clear hcz8_1
    try clear hcz8_2
    try clear hcz8_3
    try clear hfz5_0
    try clear hfz5_1
    try clear hfz5_2
    try clear hfz5_3
    try clear hfz7_0
    try clear hfz7_1
    try clear hfz7_2
    try clear hfz7_3
    try clear hfz8_0
    try clear hfz8_1
    try clear hfz8_2
    try clear hfz8_3
    obtain ⟨kq, x19_1, rfl, HA, HJ1, BK346, HB⟩ := hcut
    cases kq with
    | zero => exact absurd HA.out (by simp [pascalinelaw14_small.j0])
    | succ kj1 =>
      have H := HA.out
      clear HA
      simp only [pascalinelaw14_small.j0] at H
      by_cases c9 : x19_1 = true
      · subst c9
        have H1 : (some false) = some r := by rw [if_pos rfl] at H; exact H
        clear H
        have H := H1
        clear H1
        obtain rfl := Option.some.inj H
        go_wp2
        go_ret
        exact ⟨by first | rfl | (simp [errW_none, errW_some] <;> rfl) | (simp [*, errW_none, errW_some] <;> rfl), by repeat (first | (with_reducible first | exact HB.out | apply below_alloc | apply pw_below_drewN | apply below_drew1 | refine below_set ?_ GE346.out) | exact HB.out)⟩
      · replace c9 := Bool.eq_false_iff.mpr c9
        subst c9
        have H1 : (pascalinelaw14_small.l0 kj1 0 a0_0 a0_1 l0_2 l0_3) = some r := by rw [if_neg (show ¬ (false = true) by decide)] at H; exact H
        clear H
        have H := H1
        clear H1
        have H' := Aside0.mk H
        clear H
        go_wp2
        go_loopg [3] kj1 (fun kq v3 w' => ∃ (x3_2 : Int), v3 = .int .i64 x3_2 ∧ Aside0 (pascalinelaw14_small.l0 kq x3_2 a0_0 a0_1 l0_2 l0_3 = some r) ∧ Aside0 (kq ≤ kj1) ∧ Aside0 (w'.heap[gb346]? = some (.cells #[.string a0_0, .int .u32 a0_1, (.slice A0_2 l0_2.length c0_2), (.slice A0_3 l0_3.length c0_3)] 75 (0, 0))) ∧ Aside0 (Below w.heap.size w w'))
        case atStart => exact ⟨(0), (by first | rfl | (simp; done) | (simp [*]; done)), H', ⟨Nat.le_refl _⟩, ⟨by (with_reducible repeat (first | refine blk_drewN ?_ _ | refine blk_drew ?_ | refine blk_alloc ?_ _)); exact BK346.out⟩, ⟨by repeat (first | (with_reducible first | exact HB.out | apply below_alloc | apply pw_below_drewN | apply below_drew1 | refine below_set ?_ GE346.out) | exact HB.out)⟩⟩
        case round =>
          clear H'
          try clear p2
          try clear c4
          try clear c4b0
          try clear c4b1
          try clear c6
          try clear c6b0
          try clear c6b1
          try clear c9
          try clear hcz5_0
          try clear hcz5_1
          try clear hcz5_2
          try clear hcz5_3
          try clear hcz7_0
          try clear hcz7_1
          try clear hcz7_2
          try clear hcz7_3
          try clear hcz8_0
          try clear hcz8_1
          try clear hcz8_2
          try clear hcz8_3
          try clear hfz5_0
          try clear hfz5_1
          try clear hfz5_2
          try clear hfz5_3
          try clear hfz7_0
          try clear hfz7_1
          try clear hfz7_2
          try clear hfz7_3
          try clear hfz8_0
          try clear hfz8_1
          try clear hfz8_2
          try clear hfz8_3
          try clear p2
          obtain ⟨x3_2, rfl, HA, HK2, BK346, HB⟩ := hrel
          cases gk with
          | zero => exact absurd HA.out (by simp [pascalinelaw14_small.l0])
          | succ k2 =>
            have H := HA.out
            clear HA
            simp only [pascalinelaw14_small.l0] at H
            by_cases c10 : x3_2 < (l0_3.length : Int)
            · rw [if_pos c10] at H
              have c10b0 : decide (x3_2 < (l0_3.length : Int)) = true := decide_eq_true c10
              clear c10
              by_cases c11 : 0 ≤ x3_2
              · rw [if_pos c11] at H
                have c11b0 : decide (0 ≤ x3_2) = true := decide_eq_true c11
                clear c11
                by_cases c12 : (((rd_T80 l0_3 x3_2).f0).size : Int) > 200
                · rw [if_pos c12] at H
                  have c12b0 : decide (200 < (((rd_T80 l0_3 x3_2).f0).size : Int)) = true := decide_eq_true c12
                  have c12b1 : decide (200 < ((rd_T80 l0_3 x3_2).f0).size) = true := decide_eq_true (by omega)
                  clear c12
                  obtain rfl := Option.some.inj H
                  have hcz13_0 : wr.cell? ⟨gb346, 0, none⟩ = some (.string a0_0) := (blk_cell BK346.out 0).trans rfl
                  have hcz13_1 : wr.cell? ⟨gb346, 1, none⟩ = some (.int .u32 a0_1) := (blk_cell BK346.out 1).trans rfl
                  have hcz13_2 : wr.cell? ⟨gb346, 2, none⟩ = some (.slice A0_2 l0_2.length c0_2) := (blk_cell BK346.out 2).trans rfl
                  have hcz13_3 : wr.cell? ⟨gb346, 3, none⟩ = some (.slice A0_3 l0_3.length c0_3) := (blk_cell BK346.out 3).trans rfl
                  have hfz13_0 := blk_frozen BK346.out 0
                  have hfz13_1 := blk_frozen BK346.out 1
                  have hfz13_2 := blk_frozen BK346.out 2
                  have hfz13_3 := blk_frozen BK346.out 3
                  have p347 : 0 ≤ (x3_2 : Int) := of_decide_eq_true (by first | (with_reducible assumption) | assumption)
                  have q347 : x3_2 < (l0_3.length : Int) := of_decide_eq_true (by first | (with_reducible assumption) | assumption)
                  obtain ⟨ad347, A347_4, c347_4, e347, hx347_0, hx347_1, hx347_2, hx347_3, hx347_4, hl347_4, hi347_4⟩ := at_T80 HR0_3.out x3_2 p347 q347
                  cases e347
                  replace hx347_0 := (HB.out.cell (World.block_lt_of_cell? w _ hx347_0)).trans hx347_0
                  replace hx347_1 := (HB.out.cell (World.block_lt_of_cell? w _ hx347_1)).trans hx347_1
                  replace hx347_2 := (HB.out.cell (World.block_lt_of_cell? w _ hx347_2)).trans hx347_2
                  replace hx347_3 := (HB.out.cell (World.block_lt_of_cell? w _ hx347_3)).trans hx347_3
                  replace hx347_4 := (HB.out.cell (World.block_lt_of_cell? w _ hx347_4)).trans hx347_4
                  have HR347_4 := Aside0.mk hi347_4
                  have HC347_4 := Aside0.mk hl347_4
                  clear hi347_4 hl347_4
                  replace p347 := eq_true p347
                  replace q347 := eq_true q347
                  go_wp2
                  go_ret
                  exact ⟨by first | rfl | (simp [errW_none, errW_some] <;> rfl) | (simp [*, errW_none, errW_some] <;> rfl), by repeat (first | (with_reducible first | exact HB.out | apply below_alloc | apply pw_below_drewN | apply below_drew1 | refine below_set ?_ GE346.out) | exact HB.out)⟩
                · rw [if_neg c12] at H
                  have c12b0 : decide (200 < (((rd_T80 l0_3 x3_2).f0).size : Int)) = false := decide_eq_false c12
                  have c12b1 : decide (200 < ((rd_T80 l0_3 x3_2).f0).size) = false := decide_eq_false (by omega)
                  clear c12
                  by_cases c14 : (((rd_T80 l0_3 x3_2).f4).length : Int) > 40
                  · rw [if_pos c14] at H
                    have c14b0 : decide (40 < (((rd_T80 l0_3 x3_2).f4).length : Int)) = true := decide_eq_true c14
                    have c14b1 : decide (40 < ((rd_T80 l0_3 x3_2).f4).length) = true := decide_eq_true (by omega)
                    clear c14
                    obtain rfl := Option.some.inj H
                    have hcz15_0 : wr.cell? ⟨gb346, 0, none⟩ = some (.string a0_0) := (blk_cell BK346.out 0).trans rfl
                    have hcz15_1 : wr.cell? ⟨gb346, 1, none⟩ = some (.int .u32 a0_1) := (blk_cell BK346.out 1).trans rfl
                    have hcz15_2 : wr.cell? ⟨gb346, 2, none⟩ = some (.slice A0_2 l0_2.length c0_2) := (blk_cell BK346.out 2).trans rfl
                    have hcz15_3 : wr.cell? ⟨gb346, 3, none⟩ = some (.slice A0_3 l0_3.length c0_3) := (blk_cell BK346.out 3).trans rfl
                    have hfz15_0 := blk_frozen BK346.out 0
                    have hfz15_1 := blk_frozen BK346.out 1
                    have hfz15_2 := blk_frozen BK346.out 2
                    have hfz15_3 := blk_frozen BK346.out 3
                    have p347 : 0 ≤ (x3_2 : Int) := of_decide_eq_true (by first | (with_reducible assumption) | assumption)
                    have q347 : x3_2 < (l0_3.length : Int) := of_decide_eq_true (by first | (with_reducible assumption) | assumption)
                    obtain ⟨ad347, A347_4, c347_4, e347, hx347_0, hx347_1, hx347_2, hx347_3, hx347_4, hl347_4, hi347_4⟩ := at_T80 HR0_3.out x3_2 p347 q347
                    cases e347
                    replace hx347_0 := (HB.out.cell (World.block_lt_of_cell? w _ hx347_0)).trans hx347_0
                    replace hx347_1 := (HB.out.cell (World.block_lt_of_cell? w _ hx347_1)).trans hx347_1
                    replace hx347_2 := (HB.out.cell (World.block_lt_of_cell? w _ hx347_2)).trans hx347_2
                    replace hx347_3 := (HB.out.cell (World.block_lt_of_cell? w _ hx347_3)).trans hx347_3
                    replace hx347_4 := (HB.out.cell (World.block_lt_of_cell? w _ hx347_4)).trans hx347_4
                    have HR347_4 := Aside0.mk hi347_4
                    have HC347_4 := Aside0.mk hl347_4
                    clear hi347_4 hl347_4
                    replace p347 := eq_true p347
                    replace q347 := eq_true q347
                    have p348 : 0 ≤ (x3_2 : Int) := of_decide_eq_true (by first | (with_reducible assumption) | assumption)
                    have q348 : x3_2 < (l0_3.length : Int) := of_decide_eq_true (by first | (with_reducible assumption) | assumption)
                    obtain ⟨ad348, A348_4, c348_4, e348, hx348_0, hx348_1, hx348_2, hx348_3, hx348_4, hl348_4, hi348_4⟩ := at_T80 HR0_3.out x3_2 p348 q348
                    obtain rfl : ad347 = ad348 := (by injection e348)
                    replace hx348_0 := (HB.out.cell (World.block_lt_of_cell? w _ hx348_0)).trans hx348_0
                    replace hx348_1 := (HB.out.cell (World.block_lt_of_cell? w _ hx348_1)).trans hx348_1
                    replace hx348_2 := (HB.out.cell (World.block_lt_of_cell? w _ hx348_2)).trans hx348_2
                    replace hx348_3 := (HB.out.cell (World.block_lt_of_cell? w _ hx348_3)).trans hx348_3
                    replace hx348_4 := (HB.out.cell (World.block_lt_of_cell? w _ hx348_4)).trans hx348_4
                    have HR348_4 := Aside0.mk hi348_4
                    have HC348_4 := Aside0.mk hl348_4
                    clear hi348_4 hl348_4
                    replace p348 := eq_true p348
                    replace q348 := eq_true q348
                    have ea_ := Option.some.inj (hx347_4.symm.trans hx348_4)
                    injection ea_ with ea_ en_ ec_
                    subst ea_
                    subst ec_
                    clear en_
                    go_wp2
                    go_ret
                    exact ⟨by first | rfl | (simp [errW_none, errW_some] <;> rfl) | (simp [*, errW_none, errW_some] <;> rfl), by repeat (first | (with_reducible first | exact HB.out | apply below_alloc | apply pw_below_drewN | apply below_drew1 | refine below_set ?_ GE346.out) | exact HB.out)⟩
                  · rw [if_neg c14] at H
                    have c14b0 : decide (40 < (((rd_T80 l0_3 x3_2).f4).length : Int)) = false := decide_eq_false c14
                    have c14b1 : decide (40 < ((rd_T80 l0_3 x3_2).f4).length) = false := decide_eq_false (by omega)
                    clear c14
                    have H' := Aside0.mk H
                    clear H
                    have hcz16_0 : wr.cell? ⟨gb346, 0, none⟩ = some (.string a0_0) := (blk_cell BK346.out 0).trans rfl
                    have hcz16_1 : wr.cell? ⟨gb346, 1, none⟩ = some (.int .u32 a0_1) := (blk_cell BK346.out 1).trans rfl
                    have hcz16_2 : wr.cell? ⟨gb346, 2, none⟩ = some (.slice A0_2 l0_2.length c0_2) := (blk_cell BK346.out 2).trans rfl
                    have hcz16_3 : wr.cell? ⟨gb346, 3, none⟩ = some (.slice A0_3 l0_3.length c0_3) := (blk_cell BK346.out 3).trans rfl
                    have hfz16_0 := blk_frozen BK346.out 0
                    have hfz16_1 := blk_frozen BK346.out 1
                    have hfz16_2 := blk_frozen BK346.out 2
                    have hfz16_3 := blk_frozen BK346.out 3
                    have p347 : 0 ≤ (x3_2 : Int) := of_decide_eq_true (by first | (with_reducible assumption) | assumption)
                    have q347 : x3_2 < (l0_3.length : Int) := of_decide_eq_true (by first | (with_reducible assumption) | assumption)
                    obtain ⟨ad347, A347_4, c347_4, e347, hx347_0, hx347_1, hx347_2, hx347_3, hx347_4, hl347_4, hi347_4⟩ := at_T80 HR0_3.out x3_2 p347 q347
                    cases e347
                    replace hx347_0 := (HB.out.cell (World.block_lt_of_cell? w _ hx347_0)).trans hx347_0
                    replace hx347_1 := (HB.out.cell (World.block_lt_of_cell? w _ hx347_1)).trans hx347_1
                    replace hx347_2 := (HB.out.cell (World.block_lt_of_cell? w _ hx347_2)).trans hx347_2
                    replace hx347_3 := (HB.out.cell (World.block_lt_of_cell? w _ hx347_3)).trans hx347_3
                    replace hx347_4 := (HB.out.cell (World.block_lt_of_cell? w _ hx347_4)).trans hx347_4
                    have HR347_4 := Aside0.mk hi347_4
                    have HC347_4 := Aside0.mk hl347_4
                    clear hi347_4 hl347_4
                    replace p347 := eq_true p347
                    replace q347 := eq_true q347
                    have p348 : 0 ≤ (x3_2 : Int) := of_decide_eq_true (by first | (with_reducible assumption) | assumption)
                    have q348 : x3_2 < (l0_3.length : Int) := of_decide_eq_true (by first | (with_reducible assumption) | assumption)
                    obtain ⟨ad348, A348_4, c348_4, e348, hx348_0, hx348_1, hx348_2, hx348_3, hx348_4, hl348_4, hi348_4⟩ := at_T80 HR0_3.out x3_2 p348 q348
                    obtain rfl : ad347 = ad348 := (by injection e348)
                    replace hx348_0 := (HB.out.cell (World.block_lt_of_cell? w _ hx348_0)).trans hx348_0
                    replace hx348_1 := (HB.out.cell (World.block_lt_of_cell? w _ hx348_1)).trans hx348_1
                    replace hx348_2 := (HB.out.cell (World.block_lt_of_cell? w _ hx348_2)).trans hx348_2
                    replace hx348_3 := (HB.out.cell (World.block_lt_of_cell? w _ hx348_3)).trans hx348_3
                    replace hx348_4 := (HB.out.cell (World.block_lt_of_cell? w _ hx348_4)).trans hx348_4
                    have HR348_4 := Aside0.mk hi348_4
                    have HC348_4 := Aside0.mk hl348_4
                    clear hi348_4 hl348_4
                    replace p348 := eq_true p348
                    replace q348 := eq_true q348
                    have ea_ := Option.some.inj (hx347_4.symm.trans hx348_4)
                    injection ea_ with ea_ en_ ec_
                    subst ea_
                    subst ec_
                    clear en_
                    go_wp2
                    go_roundg k2
                    case measure => have := HJ1.out; have := HK2.out; omega
                    case rel => exact ⟨(wrap64 (x3_2 + 1)), (by first | rfl | (simp; done) | (simp [*]; done)), H', ⟨by have := HJ1.out; have := HK2.out; omega⟩, ⟨by (with_reducible repeat (first | refine blk_drewN ?_ _ | refine blk_drew ?_ | refine blk_alloc ?_ _)); exact BK346.out⟩, ⟨by repeat (first | (with_reducible first | exact HB.out | apply below_alloc | apply pw_below_drewN | apply below_drew1 | refine below_set ?_ GE346.out) | exact HB.out)⟩⟩
              · rw [if_neg c11] at H
                exact absurd H (by simp)
            · rw [if_neg c10] at H
              have c10b0 : decide (x3_2 < (l0_3.length : Int)) = false := decide_eq_false c10
              clear c10
              obtain rfl := Option.some.inj H
              have hcz17_0 : wr.cell? ⟨gb346, 0, none⟩ = some (.string a0_0) := (blk_cell BK346.out 0).trans rfl
              have hcz17_1 : wr.cell? ⟨gb346, 1, none⟩ = some (.int .u32 a0_1) := (blk_cell BK346.out 1).trans rfl
              have hcz17_2 : wr.cell? ⟨gb346, 2, none⟩ = some (.slice A0_2 l0_2.length c0_2) := (blk_cell BK346.out 2).trans rfl
              have hcz17_3 : wr.cell? ⟨gb346, 3, none⟩ = some (.slice A0_3 l0_3.length c0_3) := (blk_cell BK346.out 3).trans rfl
              have hfz17_0 := blk_frozen BK346.out 0
              have hfz17_1 := blk_frozen BK346.out 1
              have hfz17_2 := blk_frozen BK346.out 2
              have hfz17_3 := blk_frozen BK346.out 3
              go_wp2
              go_ret
              exact ⟨by first | rfl | (simp [errW_none, errW_some] <;> rfl) | (simp [*, errW_none, errW_some] <;> rfl), by repeat (first | (with_reducible first | exact HB.out | apply below_alloc | apply pw_below_drewN | apply below_drew1 | refine below_set ?_ GE346.out) | exact HB.out)⟩
end Go.Proofs.Ytehdhmhpmkkneaa.PAll
