-- Cut by shake.py (what this claim does not use is dropped) from a text that was printed by a turned copy of print.py (which functions: told by hand; relay.sh) out of the translation. Not trusted: Lean checks it.
import Derived.Test.YtehdhmhpmkkneaaBPAllx0
import Derived.Test.YtehdhmhpmkkneaaBMi
import Derived.Test.YtehdhmhpmkkneaaBPAlly25
import Derived.Test.YtehdhmhpmkkneaaBPAlly34
namespace Go.Proofs.Ytehdhmhpmkkneaa.PAll
open Go.RowKit Go.Proofs.YtehdhmhpmkkneaaW.PrintWords Go.Proofs.YtehdhmhpmkkneaaW.PrintLast Go.Proofs.YtehdhmhpmkkneaaW.PrintMore
attribute [local go_sem] max2_int min2_int max_two min_two max_three min_three max_four min_four   -- for this text's walks alone
set_option linter.unusedVariables false
set_option linter.unusedSimpArgs false
/-! ### pascalineref14_May: function 51 -/
mutual
def pascalineref14_May.j0 : Nat → Int → Bool → Bool → ByteArray → Int → Int → Int → List (S119) → Option (Int)
  | 0, _, _, _, _, _, _, _, _ => none
  | k + 1, x3, x4, x20, x350000, x350001, x350002, x350003, x350004 => if x20 = true then ((pascalineref14_basic.f x350002).bind fun t351 => (if t351 = true then (pascalineref14_May.j1 k x3 (x3 == 0) x350000 x350001 x350002 x350003 x350004) else (pascalineref14_May.j1 k x3 false x350000 x350001 x350002 x350003 x350004))) else (pascalineref14_May.j1 k x3 x4 x350000 x350001 x350002 x350003 x350004)
def pascalineref14_May.j1 : Nat → Int → Bool → ByteArray → Int → Int → Int → List (S119) → Option (Int)
  | 0, _, _, _, _, _, _, _ => none
  | k + 1, x3, x4, x350000, x350001, x350002, x350003, x350004 => if x350001 = 7 then (if x350002 = 0 then (pascalineref14_May.j2 k x3 (x3 == 0) x350000 x350001 x350002 x350003 x350004) else (pascalineref14_May.j2 k x3 false x350000 x350001 x350002 x350003 x350004)) else (pascalineref14_May.j2 k x3 x4 x350000 x350001 x350002 x350003 x350004)
def pascalineref14_May.j2 : Nat → Int → Bool → ByteArray → Int → Int → Int → List (S119) → Option (Int)
  | 0, _, _, _, _, _, _, _ => none
  | k + 1, x3, x4, x350000, x350001, x350002, x350003, x350004 => if x350001 = 6 then (if x350002 ≥ 0 then (if x350002 ≤ 3 then (pascalineref14_May.j3 k x3 (decide (x3 ≤ 16)) x350000 x350001 x350002 x350003 x350004) else (pascalineref14_May.j3 k x3 false x350000 x350001 x350002 x350003 x350004)) else (pascalineref14_May.j3 k x3 false x350000 x350001 x350002 x350003 x350004)) else (if x4 = true then (if x350001 = 1 then (some 0) else (if x350003 < 0 then (some 141) else (some 0))) else (some 141))
def pascalineref14_May.j3 : Nat → Int → Bool → ByteArray → Int → Int → Int → List (S119) → Option (Int)
  | 0, _, _, _, _, _, _, _ => none
  | k + 1, x3, x4, x350000, x350001, x350002, x350003, x350004 => pascalineref14_May.l0 k x3 x4 0 x350000 x350001 x350002 x350003 x350004
def pascalineref14_May.l0 : Nat → Int → Bool → Int → ByteArray → Int → Int → Int → List (S119) → Option (Int)
  | 0, _, _, _, _, _, _, _, _ => none
  | k + 1, x3, x4, x5, x350000, x350001, x350002, x350003, x350004 => if x5 < x3 then (if x4 = true then (if 0 ≤ x5 then (if x5 < (x350004.length : Int) then ((pascalineref14_basic.f ((rd_T119 x350004 x5).f0)).bind fun t353 => (pascalineref14_May.l0 k x3 t353 (wrap64 (x5 + 1)) x350000 x350001 x350002 x350003 x350004)) else (none)) else (none)) else (pascalineref14_May.l0 k x3 false (wrap64 (x5 + 1)) x350000 x350001 x350002 x350003 x350004)) else (if x4 = true then (if x350001 = 1 then (some 0) else (if x350003 < 0 then (some 141) else (some 0))) else (some 141))
end
def pascalineref14_May.f (k : Nat) (a0_0 : ByteArray) (a0_1 : Int) (a0_2 : Int) (a0_3 : Int) (l0_4 : List (S119)) : Option (Int) := (pascalineref14_Name.f k a0_0).bind fun t350 => (if t350 = true then (if a0_1 = 1 then (pascalineref14_May.j0 k (l0_4.length : Int) false true a0_0 a0_1 a0_2 a0_3 l0_4) else (pascalineref14_May.j0 k (l0_4.length : Int) false (a0_1 == 3) a0_0 a0_1 a0_2 a0_3 l0_4)) else (some 140))
set_option maxHeartbeats 8000000 in
set_option maxRecDepth 100000 in
theorem pascalineref14_May.calls (k : Nat) (a0_0 : ByteArray) (a0_1 : Int) (a0_2 : Int) (a0_3 : Int) (A0_4 : Option Addr) (c0_4 : Nat) (l0_4 : List (S119)) (r : Int) (w : World) (hr0_4 : Kd.C k119 w A0_4 l0_4.length l0_4) (hc0_4 : l0_4.length ≤ c0_4) (h : pascalineref14_May.f k a0_0 a0_1 a0_2 a0_3 l0_4 = some r) :
    Calls Try.prog 51 #[.agg #[.string a0_0, .int .i64 a0_1, .int .i64 a0_2, .int .i32 a0_3, .slice A0_4 l0_4.length c0_4]] w fun e w' => e = .returned (.int .i64 r) ∧ Below w.heap.size w w' := by
  have hu80 := Try.underlying80
  have HR0_4 := Aside0.mk hr0_4
  have HC0_4 := Aside0.mk hc0_4
  clear hr0_4 hc0_4
  have HB := Aside0.mk (Below.refl w.heap.size w)
  have H : ((pascalineref14_Name.f k a0_0).bind fun t350 => (if t350 = true then (if a0_1 = 1 then (pascalineref14_May.j0 k (l0_4.length : Int) false true a0_0 a0_1 a0_2 a0_3 l0_4) else (pascalineref14_May.j0 k (l0_4.length : Int) false (a0_1 == 3) a0_0 a0_1 a0_2 a0_3 l0_4)) else (some 140))) = some r := h
  clear h
  replace H := Option.bind_eq_some_iff.mp H
  obtain ⟨t350, A20, H⟩ := H
  replace H : (if t350 = true then (if a0_1 = 1 then (pascalineref14_May.j0 k (l0_4.length : Int) false true a0_0 a0_1 a0_2 a0_3 l0_4) else (pascalineref14_May.j0 k (l0_4.length : Int) false (a0_1 == 3) a0_0 a0_1 a0_2 a0_3 l0_4)) else (some 140)) = some r := H
  have A2 := Aside0.mk A20
  clear A20
  by_cases c3 : t350 = true
  · subst c3
    have H1 : (if a0_1 = 1 then (pascalineref14_May.j0 k (l0_4.length : Int) false true a0_0 a0_1 a0_2 a0_3 l0_4) else (pascalineref14_May.j0 k (l0_4.length : Int) false (a0_1 == 3) a0_0 a0_1 a0_2 a0_3 l0_4)) = some r := by rw [if_pos rfl] at H; exact H
    clear H
    have H := H1
    clear H1
    have HC4 := Aside0.mk H
    clear H
    go_enter Try.func51, Try.ntmps51
    go_upto_region 5 with (first | ((with_reducible refine gate_dst (N := 1) rfl ?_); refine box_event ?hg (N := 1) ?hd (cs := #[.string a0_0, .int .i64 a0_1, .int .i64 a0_2, .int .i32 a0_3, .slice A0_4 l0_4.length c0_4]) (t := 80) ?hr ?_; (case hd => rfl); (case hg => rfl); (case hr => first | (go_simp; done) | (go_simp; rfl)); intro gb349 hg w5 hbox hb; have n0_ := Aside0.mk (below_step (by repeat (first | (with_reducible first | exact HB.out | apply below_alloc | apply pw_below_drewN | apply below_drew1) | exact HB.out)) hb); have n1_ := Aside0.mk (hbox); have n2_ := Aside0.mk ((by rw [hg]; exact (below_size (by repeat (first | (with_reducible first | exact HB.out | apply below_alloc | apply pw_below_drewN | apply below_drew1) | exact HB.out))) : w.heap.size ≤ gb349)); have n3_ := Aside0.mk ((by rw [hg]; exact (below_size (by repeat (first | (with_reducible first | exact HB.out | apply below_alloc | apply pw_below_drewN | apply below_drew1) | exact HB.out))) : w.heap.size ≤ gb349)); clear HB; have HB := n0_; have BK349 := n1_; have GW349 := n2_; have GE349 := n3_; clear n0_ n1_ n2_ n3_; clear hb hbox hg; have hcz6_0 : w5.cell? ⟨gb349, 0, none⟩ = some (.string a0_0) := (blk_cell BK349.out 0).trans rfl; have hcz6_1 : w5.cell? ⟨gb349, 1, none⟩ = some (.int .i64 a0_1) := (blk_cell BK349.out 1).trans rfl; have hcz6_2 : w5.cell? ⟨gb349, 2, none⟩ = some (.int .i64 a0_2) := (blk_cell BK349.out 2).trans rfl; have hcz6_3 : w5.cell? ⟨gb349, 3, none⟩ = some (.int .i32 a0_3) := (blk_cell BK349.out 3).trans rfl; have hcz6_4 : w5.cell? ⟨gb349, 4, none⟩ = some (.slice A0_4 l0_4.length c0_4) := (blk_cell BK349.out 4).trans rfl; have hfz6_0 := blk_frozen BK349.out 0; have hfz6_1 := blk_frozen BK349.out 1; have hfz6_2 := blk_frozen BK349.out 2; have hfz6_3 := blk_frozen BK349.out 3; have hfz6_4 := blk_frozen BK349.out 4) | ((with_reducible refine gate_callee (f := 53) rfl ?_); refine goesL_ (some 8) rfl rfl Try.func53 (by kernel_rfl) rfl #[.string a0_0] rfl (by (try simp only [List.map_toArray, List.map_cons, List.map_nil]); first | done | rfl | (simp only [List.length_drop, List.length_take]; rfl)) ?_; (with_reducible refine (pascalineref14_Name.calls k a0_0 true _ A2.out).mono ?_); rintro e w' ⟨rfl, ⟨nd, rfl⟩⟩; refine ⟨_, rfl, ?_⟩))
    (try simp only [Act.put, List.setIfInBounds_toArray, List.set_cons_zero, List.set_cons_succ])
    go_cut [20] (fun v20 wc => ∃ (kq : Nat) (x20_3 : Bool), v20 = .bool x20_3 ∧ Aside0 (pascalineref14_May.j0 kq (l0_4.length : Int) false x20_3 a0_0 a0_1 a0_2 a0_3 l0_4 = some r) ∧ Aside0 (kq ≤ k) ∧ Aside0 (wc.heap[gb349]? = some (.cells #[.string a0_0, .int .i64 a0_1, .int .i64 a0_2, .int .i32 a0_3, (.slice A0_4 l0_4.length c0_4)] 80 (0, 0))) ∧ Aside0 (Below w.heap.size w wc))
    case first =>
      have H := HC4.out
      clear HC4
      by_cases c7 : a0_1 = 1
      · rw [if_pos c7] at H
        have c7b0 : (a0_1 == 1) = true := beq_iff_eq.mpr c7
        have c7b1 : (a0_1 != 1) = false := bne_eq_false_iff_eq.mpr c7
        clear c7
        (first | rw [c7b0] | (simp only [i64_w, i32_w]; rw [c7b0]) | skip)
        have H' := Aside0.mk H
        clear H
        have hcz8_0 : w5.cell? ⟨gb349, 0, none⟩ = some (.string a0_0) := (blk_cell BK349.out 0).trans rfl
        have hcz8_1 : w5.cell? ⟨gb349, 1, none⟩ = some (.int .i64 a0_1) := (blk_cell BK349.out 1).trans rfl
        have hcz8_2 : w5.cell? ⟨gb349, 2, none⟩ = some (.int .i64 a0_2) := (blk_cell BK349.out 2).trans rfl
        have hcz8_3 : w5.cell? ⟨gb349, 3, none⟩ = some (.int .i32 a0_3) := (blk_cell BK349.out 3).trans rfl
        have hcz8_4 : w5.cell? ⟨gb349, 4, none⟩ = some (.slice A0_4 l0_4.length c0_4) := (blk_cell BK349.out 4).trans rfl
        have hfz8_0 := blk_frozen BK349.out 0
        have hfz8_1 := blk_frozen BK349.out 1
        have hfz8_2 := blk_frozen BK349.out 2
        have hfz8_3 := blk_frozen BK349.out 3
        have hfz8_4 := blk_frozen BK349.out 4
        go_wp2
        go_meet
        case rel => exact ⟨_, (true), (by first | rfl | (simp; done) | (simp [*]; done)), H', ⟨by first | omega | exact Nat.le_refl _⟩, ⟨by (with_reducible repeat (first | refine blk_drewN ?_ _ | refine blk_drew ?_ | refine blk_alloc ?_ _)); exact BK349.out⟩, ⟨by repeat (first | (with_reducible first | exact HB.out | apply below_alloc | apply pw_below_drewN | apply below_drew1 | refine below_set ?_ GE349.out) | exact HB.out)⟩⟩
      · rw [if_neg c7] at H
        have c7b0 : (a0_1 == 1) = false := beq_eq_false_iff_ne.mpr c7
        have c7b1 : (a0_1 != 1) = true := bne_iff_ne.mpr c7
        (first | rw [c7b0] | (simp only [i64_w, i32_w]; rw [c7b0]) | skip)
        have H' := Aside0.mk H
        clear H
        have hcz9_0 : w5.cell? ⟨gb349, 0, none⟩ = some (.string a0_0) := (blk_cell BK349.out 0).trans rfl
        have hcz9_1 : w5.cell? ⟨gb349, 1, none⟩ = some (.int .i64 a0_1) := (blk_cell BK349.out 1).trans rfl
        have hcz9_2 : w5.cell? ⟨gb349, 2, none⟩ = some (.int .i64 a0_2) := (blk_cell BK349.out 2).trans rfl
        have hcz9_3 : w5.cell? ⟨gb349, 3, none⟩ = some (.int .i32 a0_3) := (blk_cell BK349.out 3).trans rfl
        have hcz9_4 : w5.cell? ⟨gb349, 4, none⟩ = some (.slice A0_4 l0_4.length c0_4) := (blk_cell BK349.out 4).trans rfl
        have hfz9_0 := blk_frozen BK349.out 0
        have hfz9_1 := blk_frozen BK349.out 1
        have hfz9_2 := blk_frozen BK349.out 2
        have hfz9_3 := blk_frozen BK349.out 3
        have hfz9_4 := blk_frozen BK349.out 4
        go_wp2
        go_meet
        case rel => exact ⟨_, ((a0_1 == 3)), (by first | rfl | (simp; done) | (simp [*]; done)), H', ⟨by first | omega | exact Nat.le_refl _⟩, ⟨by (with_reducible repeat (first | refine blk_drewN ?_ _ | refine blk_drew ?_ | refine blk_alloc ?_ _)); exact BK349.out⟩, ⟨by repeat (first | (with_reducible first | exact HB.out | apply below_alloc | apply pw_below_drewN | apply below_drew1 | refine below_set ?_ GE349.out) | exact HB.out)⟩⟩
    case rest =>
      clear HC4
      try clear p2
      try clear c3
      try clear c5
      try clear c7
      try clear c7b0
      try clear c7b1
      try clear hcz6_0
      try clear hcz6_1
      try clear hcz6_2
      try clear hcz6_3
      try clear hcz6_4
      try clear hcz8_0
      try clear hcz8_1
      try clear hcz8_2
      try clear hcz8_3
      try clear hcz8_4
      try clear hcz9_0
      try clear hcz9_1
      try clear hcz9_2
      try clear hcz9_3
      try clear hcz9_4
      try clear hfz6_0
      try clear hfz6_1
      try clear hfz6_2
      try clear hfz6_3
      try clear hfz6_4
      try clear hfz8_0
      try clear hfz8_1
      try clear hfz8_2
      try clear hfz8_3
      try clear hfz8_4
      try clear hfz9_0
      try clear hfz9_1
      try clear hfz9_2
      try clear hfz9_3
      try clear hfz9_4
      obtain ⟨kq, x20_3, rfl, HA, HJ3, BK349, HB⟩ := hcut
      cases kq with
      | zero => exact absurd HA.out (by simp [pascalineref14_May.j0])
      | succ kj3 =>
        have H := HA.out
        clear HA
        simp only [pascalineref14_May.j0] at H
        have HC10 := Aside0.mk H
        clear H
        go_upto_if 20 with (fail)
        go_cut [4] (fun v4 wc => ∃ (kq : Nat) (x4_9 : Bool), v4 = .bool x4_9 ∧ Aside0 (pascalineref14_May.j1 kq (l0_4.length : Int) x4_9 a0_0 a0_1 a0_2 a0_3 l0_4 = some r) ∧ Aside0 (kq ≤ kj3) ∧ Aside0 (wc.heap[gb349]? = some (.cells #[.string a0_0, .int .i64 a0_1, .int .i64 a0_2, .int .i32 a0_3, (.slice A0_4 l0_4.length c0_4)] 80 (0, 0))) ∧ Aside0 (Below w.heap.size w wc))
        case first =>
          have H := HC10.out
          clear HC10
          by_cases c11 : x20_3 = true
          · subst c11
            have H1 : ((pascalineref14_basic.f a0_2).bind fun t351 => (if t351 = true then (pascalineref14_May.j1 kj3 (l0_4.length : Int) ((l0_4.length : Int) == 0) a0_0 a0_1 a0_2 a0_3 l0_4) else (pascalineref14_May.j1 kj3 (l0_4.length : Int) false a0_0 a0_1 a0_2 a0_3 l0_4))) = some r := by rw [if_pos rfl] at H; exact H
            clear H
            have H := H1
            clear H1
            replace H := Option.bind_eq_some_iff.mp H
            obtain ⟨t351, A120, H⟩ := H
            replace H : (if t351 = true then (pascalineref14_May.j1 kj3 (l0_4.length : Int) ((l0_4.length : Int) == 0) a0_0 a0_1 a0_2 a0_3 l0_4) else (pascalineref14_May.j1 kj3 (l0_4.length : Int) false a0_0 a0_1 a0_2 a0_3 l0_4)) = some r := H
            have A12 := Aside0.mk A120
            clear A120
            by_cases c13 : t351 = true
            · subst c13
              have H1 : (pascalineref14_May.j1 kj3 (l0_4.length : Int) ((l0_4.length : Int) == 0) a0_0 a0_1 a0_2 a0_3 l0_4) = some r := by rw [if_pos rfl] at H; exact H
              clear H
              have H := H1
              clear H1
              have H' := Aside0.mk H
              clear H
              have hcz14_0 : wc.cell? ⟨gb349, 0, none⟩ = some (.string a0_0) := (blk_cell BK349.out 0).trans rfl
              have hcz14_1 : wc.cell? ⟨gb349, 1, none⟩ = some (.int .i64 a0_1) := (blk_cell BK349.out 1).trans rfl
              have hcz14_2 : wc.cell? ⟨gb349, 2, none⟩ = some (.int .i64 a0_2) := (blk_cell BK349.out 2).trans rfl
              have hcz14_3 : wc.cell? ⟨gb349, 3, none⟩ = some (.int .i32 a0_3) := (blk_cell BK349.out 3).trans rfl
              have hcz14_4 : wc.cell? ⟨gb349, 4, none⟩ = some (.slice A0_4 l0_4.length c0_4) := (blk_cell BK349.out 4).trans rfl
              have hfz14_0 := blk_frozen BK349.out 0
              have hfz14_1 := blk_frozen BK349.out 1
              have hfz14_2 := blk_frozen BK349.out 2
              have hfz14_3 := blk_frozen BK349.out 3
              have hfz14_4 := blk_frozen BK349.out 4
              go_wp2_with (first | ((with_reducible refine gate_callee (f := 93) rfl ?_); refine goesL_ (some 23) rfl rfl Try.func93 (by kernel_rfl) rfl #[.int .i64 a0_2] rfl (by (try simp only [List.map_toArray, List.map_cons, List.map_nil]); first | done | rfl | (simp only [List.length_drop, List.length_take]; rfl)) ?_; (with_reducible refine (pascalineref14_basic.calls a0_2 true _ A12.out).mono ?_); rintro e w' ⟨rfl, ⟨nd, rfl⟩⟩; refine ⟨_, rfl, ?_⟩))
              go_meet
              case rel => exact ⟨_, (((l0_4.length : Int) == 0)), (by first | rfl | (simp; done) | (simp [*]; done)), H', ⟨by have := HJ3.out; first | omega | exact Nat.le_refl _⟩, ⟨by (with_reducible repeat (first | refine blk_drewN ?_ _ | refine blk_drew ?_ | refine blk_alloc ?_ _)); exact BK349.out⟩, ⟨by repeat (first | (with_reducible first | exact HB.out | apply below_alloc | apply pw_below_drewN | apply below_drew1 | refine below_set ?_ GE349.out) | exact HB.out)⟩⟩
            · replace c13 := Bool.eq_false_iff.mpr c13
              subst c13
              have H1 : (pascalineref14_May.j1 kj3 (l0_4.length : Int) false a0_0 a0_1 a0_2 a0_3 l0_4) = some r := by rw [if_neg (show ¬ (false = true) by decide)] at H; exact H
              clear H
              have H := H1
              clear H1
              have H' := Aside0.mk H
              clear H
              have hcz15_0 : wc.cell? ⟨gb349, 0, none⟩ = some (.string a0_0) := (blk_cell BK349.out 0).trans rfl
              have hcz15_1 : wc.cell? ⟨gb349, 1, none⟩ = some (.int .i64 a0_1) := (blk_cell BK349.out 1).trans rfl
              have hcz15_2 : wc.cell? ⟨gb349, 2, none⟩ = some (.int .i64 a0_2) := (blk_cell BK349.out 2).trans rfl
              have hcz15_3 : wc.cell? ⟨gb349, 3, none⟩ = some (.int .i32 a0_3) := (blk_cell BK349.out 3).trans rfl
              have hcz15_4 : wc.cell? ⟨gb349, 4, none⟩ = some (.slice A0_4 l0_4.length c0_4) := (blk_cell BK349.out 4).trans rfl
              have hfz15_0 := blk_frozen BK349.out 0
              have hfz15_1 := blk_frozen BK349.out 1
              have hfz15_2 := blk_frozen BK349.out 2
              have hfz15_3 := blk_frozen BK349.out 3
              have hfz15_4 := blk_frozen BK349.out 4
              go_wp2_with (first | ((with_reducible refine gate_callee (f := 93) rfl ?_); refine goesL_ (some 23) rfl rfl Try.func93 (by kernel_rfl) rfl #[.int .i64 a0_2] rfl (by (try simp only [List.map_toArray, List.map_cons, List.map_nil]); first | done | rfl | (simp only [List.length_drop, List.length_take]; rfl)) ?_; (with_reducible refine (pascalineref14_basic.calls a0_2 false _ A12.out).mono ?_); rintro e w' ⟨rfl, ⟨nd, rfl⟩⟩; refine ⟨_, rfl, ?_⟩))
              go_meet
              case rel => exact ⟨_, (false), (by first | rfl | (simp; done) | (simp [*]; done)), H', ⟨by have := HJ3.out; first | omega | exact Nat.le_refl _⟩, ⟨by (with_reducible repeat (first | refine blk_drewN ?_ _ | refine blk_drew ?_ | refine blk_alloc ?_ _)); exact BK349.out⟩, ⟨by repeat (first | (with_reducible first | exact HB.out | apply below_alloc | apply pw_below_drewN | apply below_drew1 | refine below_set ?_ GE349.out) | exact HB.out)⟩⟩
          · replace c11 := Bool.eq_false_iff.mpr c11
            subst c11
            have H1 : (pascalineref14_May.j1 kj3 (l0_4.length : Int) false a0_0 a0_1 a0_2 a0_3 l0_4) = some r := by rw [if_neg (show ¬ (false = true) by decide)] at H; exact H
            clear H
            have H := H1
            clear H1
            have H' := Aside0.mk H
            clear H
            go_wp2
            go_meet
            case rel => exact ⟨_, (false), (by first | rfl | (simp; done) | (simp [*]; done)), H', ⟨by have := HJ3.out; first | omega | exact Nat.le_refl _⟩, ⟨by (with_reducible repeat (first | refine blk_drewN ?_ _ | refine blk_drew ?_ | refine blk_alloc ?_ _)); exact BK349.out⟩, ⟨by repeat (first | (with_reducible first | exact HB.out | apply below_alloc | apply pw_below_drewN | apply below_drew1 | refine below_set ?_ GE349.out) | exact HB.out)⟩⟩
        case rest =>
          clear HC10
          try clear c1
          try clear p2
          try clear c3
          try clear c5
          try clear c7
          try clear c7b0
          try clear c7b1
          try clear c9
          try clear c11
          try clear c13
          try clear hcz14_0
          try clear hcz14_1
          try clear hcz14_2
          try clear hcz14_3
          try clear hcz14_4
          try clear hcz15_0
          try clear hcz15_1
          try clear hcz15_2
          try clear hcz15_3
          try clear hcz15_4
          try clear hcz6_0
          try clear hcz6_1
          try clear hcz6_2
          try clear hcz6_3
          try clear hcz6_4
          try clear hcz8_0
          try clear hcz8_1
          try clear hcz8_2
          try clear hcz8_3
          try clear hcz8_4
          try clear hcz9_0
          try clear hcz9_1
          try clear hcz9_2
          try clear hcz9_3
          try clear hcz9_4
          try clear hfz14_0
          try clear hfz14_1
          try clear hfz14_2
          try clear hfz14_3
          try clear hfz14_4
          try clear hfz15_0
          try clear hfz15_1
          try clear hfz15_2
          try clear hfz15_3
          try clear hfz15_4
          try clear hfz6_0
          try clear hfz6_1
          try clear hfz6_2
          try clear hfz6_3
          try clear hfz6_4
          try clear hfz8_0
          try clear hfz8_1
          try clear hfz8_2
          try clear hfz8_3
          try clear hfz8_4
          try clear hfz9_0
          try clear hfz9_1
          try clear hfz9_2
          try clear hfz9_3
          try clear hfz9_4
          try clear p2
          obtain ⟨kq, x4_9, rfl, HA, HJ9, BK349, HB⟩ := hcut
          cases kq with
          | zero => exact absurd HA.out (by simp [pascalineref14_May.j1])
          | succ kj9 =>
            have H := HA.out
            clear HA
            simp only [pascalineref14_May.j1] at H
            have HC16 := Aside0.mk H
            clear H
            have hcz17_0 : wc.cell? ⟨gb349, 0, none⟩ = some (.string a0_0) := (blk_cell BK349.out 0).trans rfl
            have hcz17_1 : wc.cell? ⟨gb349, 1, none⟩ = some (.int .i64 a0_1) := (blk_cell BK349.out 1).trans rfl
            have hcz17_2 : wc.cell? ⟨gb349, 2, none⟩ = some (.int .i64 a0_2) := (blk_cell BK349.out 2).trans rfl
            have hcz17_3 : wc.cell? ⟨gb349, 3, none⟩ = some (.int .i32 a0_3) := (blk_cell BK349.out 3).trans rfl
            have hcz17_4 : wc.cell? ⟨gb349, 4, none⟩ = some (.slice A0_4 l0_4.length c0_4) := (blk_cell BK349.out 4).trans rfl
            have hfz17_0 := blk_frozen BK349.out 0
            have hfz17_1 := blk_frozen BK349.out 1
            have hfz17_2 := blk_frozen BK349.out 2
            have hfz17_3 := blk_frozen BK349.out 3
            have hfz17_4 := blk_frozen BK349.out 4
            go_upto_if 30 with (fail)
            go_cut [4] (fun v4 wc => ∃ (kq : Nat) (x4_15 : Bool), v4 = .bool x4_15 ∧ Aside0 (pascalineref14_May.j2 kq (l0_4.length : Int) x4_15 a0_0 a0_1 a0_2 a0_3 l0_4 = some r) ∧ Aside0 (kq ≤ kj9) ∧ Aside0 (wc.heap[gb349]? = some (.cells #[.string a0_0, .int .i64 a0_1, .int .i64 a0_2, .int .i32 a0_3, (.slice A0_4 l0_4.length c0_4)] 80 (0, 0))) ∧ Aside0 (Below w.heap.size w wc))
            case first =>
              have H := HC16.out
              clear HC16
              by_cases c18 : a0_1 = 7
              · rw [if_pos c18] at H
                have c18b0 : (a0_1 == 7) = true := beq_iff_eq.mpr c18
                have c18b1 : (a0_1 != 7) = false := bne_eq_false_iff_eq.mpr c18
                clear c18
                (first | rw [c18b0] | (simp only [i64_w, i32_w]; rw [c18b0]) | skip)
                by_cases c19 : a0_2 = 0
                · rw [if_pos c19] at H
                  have c19b0 : (a0_2 == 0) = true := beq_iff_eq.mpr c19
                  have c19b1 : (a0_2 != 0) = false := bne_eq_false_iff_eq.mpr c19
                  clear c19
                  have H' := Aside0.mk H
                  clear H
                  have hcz20_0 : wc.cell? ⟨gb349, 0, none⟩ = some (.string a0_0) := (blk_cell BK349.out 0).trans rfl
                  have hcz20_1 : wc.cell? ⟨gb349, 1, none⟩ = some (.int .i64 a0_1) := (blk_cell BK349.out 1).trans rfl
                  have hcz20_2 : wc.cell? ⟨gb349, 2, none⟩ = some (.int .i64 a0_2) := (blk_cell BK349.out 2).trans rfl
                  have hcz20_3 : wc.cell? ⟨gb349, 3, none⟩ = some (.int .i32 a0_3) := (blk_cell BK349.out 3).trans rfl
                  have hcz20_4 : wc.cell? ⟨gb349, 4, none⟩ = some (.slice A0_4 l0_4.length c0_4) := (blk_cell BK349.out 4).trans rfl
                  have hfz20_0 := blk_frozen BK349.out 0
                  have hfz20_1 := blk_frozen BK349.out 1
                  have hfz20_2 := blk_frozen BK349.out 2
                  have hfz20_3 := blk_frozen BK349.out 3
                  have hfz20_4 := blk_frozen BK349.out 4
                  go_wp2
                  go_meet
                  case rel => exact ⟨_, (((l0_4.length : Int) == 0)), (by first | rfl | (simp; done) | (simp [*]; done)), H', ⟨by have := HJ3.out; have := HJ9.out; first | omega | exact Nat.le_refl _⟩, ⟨by (with_reducible repeat (first | refine blk_drewN ?_ _ | refine blk_drew ?_ | refine blk_alloc ?_ _)); exact BK349.out⟩, ⟨by repeat (first | (with_reducible first | exact HB.out | apply below_alloc | apply pw_below_drewN | apply below_drew1 | refine below_set ?_ GE349.out) | exact HB.out)⟩⟩
                · rw [if_neg c19] at H
                  have c19b0 : (a0_2 == 0) = false := beq_eq_false_iff_ne.mpr c19
                  have c19b1 : (a0_2 != 0) = true := bne_iff_ne.mpr c19
                  have H' := Aside0.mk H
                  clear H
                  have hcz21_0 : wc.cell? ⟨gb349, 0, none⟩ = some (.string a0_0) := (blk_cell BK349.out 0).trans rfl
                  have hcz21_1 : wc.cell? ⟨gb349, 1, none⟩ = some (.int .i64 a0_1) := (blk_cell BK349.out 1).trans rfl
                  have hcz21_2 : wc.cell? ⟨gb349, 2, none⟩ = some (.int .i64 a0_2) := (blk_cell BK349.out 2).trans rfl
                  have hcz21_3 : wc.cell? ⟨gb349, 3, none⟩ = some (.int .i32 a0_3) := (blk_cell BK349.out 3).trans rfl
                  have hcz21_4 : wc.cell? ⟨gb349, 4, none⟩ = some (.slice A0_4 l0_4.length c0_4) := (blk_cell BK349.out 4).trans rfl
                  have hfz21_0 := blk_frozen BK349.out 0
                  have hfz21_1 := blk_frozen BK349.out 1
                  have hfz21_2 := blk_frozen BK349.out 2
                  have hfz21_3 := blk_frozen BK349.out 3
                  have hfz21_4 := blk_frozen BK349.out 4
                  go_wp2
                  go_meet
                  case rel => exact ⟨_, (false), (by first | rfl | (simp; done) | (simp [*]; done)), H', ⟨by have := HJ3.out; have := HJ9.out; first | omega | exact Nat.le_refl _⟩, ⟨by (with_reducible repeat (first | refine blk_drewN ?_ _ | refine blk_drew ?_ | refine blk_alloc ?_ _)); exact BK349.out⟩, ⟨by repeat (first | (with_reducible first | exact HB.out | apply below_alloc | apply pw_below_drewN | apply below_drew1 | refine below_set ?_ GE349.out) | exact HB.out)⟩⟩
              · rw [if_neg c18] at H
                have c18b0 : (a0_1 == 7) = false := beq_eq_false_iff_ne.mpr c18
                have c18b1 : (a0_1 != 7) = true := bne_iff_ne.mpr c18
                (first | rw [c18b0] | (simp only [i64_w, i32_w]; rw [c18b0]) | skip)
                have H' := Aside0.mk H
                clear H
                go_wp2
                go_meet
                case rel => exact ⟨_, (x4_9), (by first | rfl | (simp; done) | (simp [*]; done)), H', ⟨by have := HJ3.out; have := HJ9.out; first | omega | exact Nat.le_refl _⟩, ⟨by (with_reducible repeat (first | refine blk_drewN ?_ _ | refine blk_drew ?_ | refine blk_alloc ?_ _)); exact BK349.out⟩, ⟨by repeat (first | (with_reducible first | exact HB.out | apply below_alloc | apply pw_below_drewN | apply below_drew1 | refine below_set ?_ GE349.out) | exact HB.out)⟩⟩
            case rest =>
              clear HC16
              try clear c1
              try clear p2
              try clear c3
              try clear c5
              try clear c7
              try clear c7b0
              try clear c7b1
              try clear c9
              try clear c11
              try clear c13
              try clear c18
              try clear c18b0
              try clear c18b1
              try clear c19
              try clear c19b0
              try clear c19b1
              try clear hcz14_0
              try clear hcz14_1
              try clear hcz14_2
              try clear hcz14_3
              try clear hcz14_4
              try clear hcz15_0
              try clear hcz15_1
              try clear hcz15_2
              try clear hcz15_3
              try clear hcz15_4
              try clear hcz17_0
              try clear hcz17_1
              try clear hcz17_2
              try clear hcz17_3
              try clear hcz17_4
              try clear hcz20_0
              try clear hcz20_1
              try clear hcz20_2
              try clear hcz20_3
              try clear hcz20_4
              try clear hcz21_0
              try clear hcz21_1
              try clear hcz21_2
              try clear hcz21_3
              try clear hcz21_4
              try clear hcz6_0
              try clear hcz6_1
              try clear hcz6_2
              try clear hcz6_3
              try clear hcz6_4
              try clear hcz8_0
              try clear hcz8_1
              try clear hcz8_2
              try clear hcz8_3
              try clear hcz8_4
              try clear hcz9_0
              try clear hcz9_1
              try clear hcz9_2
              try clear hcz9_3
              try clear hcz9_4
              try clear hfz14_0
              try clear hfz14_1
              try clear hfz14_2
              try clear hfz14_3
              try clear hfz14_4
              try clear hfz15_0
              try clear hfz15_1
              try clear hfz15_2
              try clear hfz15_3
              try clear hfz15_4
              try clear hfz17_0
              try clear hfz17_1
              try clear hfz17_2
              try clear hfz17_3
              try clear hfz17_4
              try clear hfz20_0
              try clear hfz20_1
              try clear hfz20_2
              try clear hfz20_3
              try clear hfz20_4
              try clear hfz21_0
              try clear hfz21_1
              try clear hfz21_2
              try clear hfz21_3
              try clear hfz21_4
              try clear hfz6_0
              try clear hfz6_1
              try clear hfz6_2
              try clear hfz6_3
              try clear hfz6_4
              try clear hfz8_0
              try clear hfz8_1
              try clear hfz8_2
              try clear hfz8_3
              try clear hfz8_4
              try clear hfz9_0
              try clear hfz9_1
              try clear hfz9_2
              try clear hfz9_3
              try clear hfz9_4
              try clear p2
              obtain ⟨kq, x4_15, rfl, HA, HJ15, BK349, HB⟩ := hcut
              cases kq with
              | zero => exact absurd HA.out (by simp [pascalineref14_May.j2])
              | succ kj15 =>
                have H := HA.out
                clear HA
                simp only [pascalineref14_May.j2] at H
                by_cases c22 : a0_1 = 6
                · rw [if_pos c22] at H
                  have c22b0 : (a0_1 == 6) = true := beq_iff_eq.mpr c22
                  have c22b1 : (a0_1 != 6) = false := bne_eq_false_iff_eq.mpr c22
                  clear c22
                  have HC23 := Aside0.mk H
                  clear H
                  have hcz24_0 : wc.cell? ⟨gb349, 0, none⟩ = some (.string a0_0) := (blk_cell BK349.out 0).trans rfl
                  have hcz24_1 : wc.cell? ⟨gb349, 1, none⟩ = some (.int .i64 a0_1) := (blk_cell BK349.out 1).trans rfl
                  have hcz24_2 : wc.cell? ⟨gb349, 2, none⟩ = some (.int .i64 a0_2) := (blk_cell BK349.out 2).trans rfl
                  have hcz24_3 : wc.cell? ⟨gb349, 3, none⟩ = some (.int .i32 a0_3) := (blk_cell BK349.out 3).trans rfl
                  have hcz24_4 : wc.cell? ⟨gb349, 4, none⟩ = some (.slice A0_4 l0_4.length c0_4) := (blk_cell BK349.out 4).trans rfl
                  have hfz24_0 := blk_frozen BK349.out 0
                  have hfz24_1 := blk_frozen BK349.out 1
                  have hfz24_2 := blk_frozen BK349.out 2
                  have hfz24_3 := blk_frozen BK349.out 3
                  have hfz24_4 := blk_frozen BK349.out 4
                  go_upto_region 10 with (fail)
                  go_cut [4] (fun v4 wc => ∃ (kq : Nat) (x4_22 : Bool), v4 = .bool x4_22 ∧ Aside0 (pascalineref14_May.j3 kq (l0_4.length : Int) x4_22 a0_0 a0_1 a0_2 a0_3 l0_4 = some r) ∧ Aside0 (kq ≤ kj15) ∧ Aside0 (wc.heap[gb349]? = some (.cells #[.string a0_0, .int .i64 a0_1, .int .i64 a0_2, .int .i32 a0_3, (.slice A0_4 l0_4.length c0_4)] 80 (0, 0))) ∧ Aside0 (Below w.heap.size w wc))
                  case first =>
                    have H := HC23.out
                    clear HC23
                    by_cases c25 : a0_2 ≥ 0
                    · rw [if_pos c25] at H
                      have c25b0 : decide (0 ≤ a0_2) = true := decide_eq_true c25
                      clear c25
                      (first | rw [c25b0] | (simp only [i64_w, i32_w]; rw [c25b0]) | skip)
                      by_cases c26 : a0_2 ≤ 3
                      · rw [if_pos c26] at H
                        have c26b0 : decide (a0_2 ≤ 3) = true := decide_eq_true c26
                        clear c26
                        have H' := Aside0.mk H
                        clear H
                        have hcz27_0 : wc.cell? ⟨gb349, 0, none⟩ = some (.string a0_0) := (blk_cell BK349.out 0).trans rfl
                        have hcz27_1 : wc.cell? ⟨gb349, 1, none⟩ = some (.int .i64 a0_1) := (blk_cell BK349.out 1).trans rfl
                        have hcz27_2 : wc.cell? ⟨gb349, 2, none⟩ = some (.int .i64 a0_2) := (blk_cell BK349.out 2).trans rfl
                        have hcz27_3 : wc.cell? ⟨gb349, 3, none⟩ = some (.int .i32 a0_3) := (blk_cell BK349.out 3).trans rfl
                        have hcz27_4 : wc.cell? ⟨gb349, 4, none⟩ = some (.slice A0_4 l0_4.length c0_4) := (blk_cell BK349.out 4).trans rfl
                        have hfz27_0 := blk_frozen BK349.out 0
                        have hfz27_1 := blk_frozen BK349.out 1
                        have hfz27_2 := blk_frozen BK349.out 2
                        have hfz27_3 := blk_frozen BK349.out 3
                        have hfz27_4 := blk_frozen BK349.out 4
                        go_wp2
                        go_meet
                        case rel => exact ⟨_, (decide ((l0_4.length : Int) ≤ 16)), (by first | rfl | (simp; done) | (simp [*]; done)), H', ⟨by have := HJ3.out; have := HJ9.out; have := HJ15.out; first | omega | exact Nat.le_refl _⟩, ⟨by (with_reducible repeat (first | refine blk_drewN ?_ _ | refine blk_drew ?_ | refine blk_alloc ?_ _)); exact BK349.out⟩, ⟨by repeat (first | (with_reducible first | exact HB.out | apply below_alloc | apply pw_below_drewN | apply below_drew1 | refine below_set ?_ GE349.out) | exact HB.out)⟩⟩
                      · rw [if_neg c26] at H
                        have c26b0 : decide (a0_2 ≤ 3) = false := decide_eq_false c26
                        clear c26
                        have H' := Aside0.mk H
                        clear H
                        have hcz28_0 : wc.cell? ⟨gb349, 0, none⟩ = some (.string a0_0) := (blk_cell BK349.out 0).trans rfl
                        have hcz28_1 : wc.cell? ⟨gb349, 1, none⟩ = some (.int .i64 a0_1) := (blk_cell BK349.out 1).trans rfl
                        have hcz28_2 : wc.cell? ⟨gb349, 2, none⟩ = some (.int .i64 a0_2) := (blk_cell BK349.out 2).trans rfl
                        have hcz28_3 : wc.cell? ⟨gb349, 3, none⟩ = some (.int .i32 a0_3) := (blk_cell BK349.out 3).trans rfl
                        have hcz28_4 : wc.cell? ⟨gb349, 4, none⟩ = some (.slice A0_4 l0_4.length c0_4) := (blk_cell BK349.out 4).trans rfl
                        have hfz28_0 := blk_frozen BK349.out 0
                        have hfz28_1 := blk_frozen BK349.out 1
                        have hfz28_2 := blk_frozen BK349.out 2
                        have hfz28_3 := blk_frozen BK349.out 3
                        have hfz28_4 := blk_frozen BK349.out 4
                        go_wp2
                        go_meet
                        case rel => exact ⟨_, (false), (by first | rfl | (simp; done) | (simp [*]; done)), H', ⟨by have := HJ3.out; have := HJ9.out; have := HJ15.out; first | omega | exact Nat.le_refl _⟩, ⟨by (with_reducible repeat (first | refine blk_drewN ?_ _ | refine blk_drew ?_ | refine blk_alloc ?_ _)); exact BK349.out⟩, ⟨by repeat (first | (with_reducible first | exact HB.out | apply below_alloc | apply pw_below_drewN | apply below_drew1 | refine below_set ?_ GE349.out) | exact HB.out)⟩⟩
                    · rw [if_neg c25] at H
                      have c25b0 : decide (0 ≤ a0_2) = false := decide_eq_false c25
                      clear c25
                      (first | rw [c25b0] | (simp only [i64_w, i32_w]; rw [c25b0]) | skip)
                      have H' := Aside0.mk H
                      clear H
                      have hcz29_0 : wc.cell? ⟨gb349, 0, none⟩ = some (.string a0_0) := (blk_cell BK349.out 0).trans rfl
                      have hcz29_1 : wc.cell? ⟨gb349, 1, none⟩ = some (.int .i64 a0_1) := (blk_cell BK349.out 1).trans rfl
                      have hcz29_2 : wc.cell? ⟨gb349, 2, none⟩ = some (.int .i64 a0_2) := (blk_cell BK349.out 2).trans rfl
                      have hcz29_3 : wc.cell? ⟨gb349, 3, none⟩ = some (.int .i32 a0_3) := (blk_cell BK349.out 3).trans rfl
                      have hcz29_4 : wc.cell? ⟨gb349, 4, none⟩ = some (.slice A0_4 l0_4.length c0_4) := (blk_cell BK349.out 4).trans rfl
                      have hfz29_0 := blk_frozen BK349.out 0
                      have hfz29_1 := blk_frozen BK349.out 1
                      have hfz29_2 := blk_frozen BK349.out 2
                      have hfz29_3 := blk_frozen BK349.out 3
                      have hfz29_4 := blk_frozen BK349.out 4
                      go_wp2
                      go_meet
                      case rel => exact ⟨_, (false), (by first | rfl | (simp; done) | (simp [*]; done)), H', ⟨by have := HJ3.out; have := HJ9.out; have := HJ15.out; first | omega | exact Nat.le_refl _⟩, ⟨by (with_reducible repeat (first | refine blk_drewN ?_ _ | refine blk_drew ?_ | refine blk_alloc ?_ _)); exact BK349.out⟩, ⟨by repeat (first | (with_reducible first | exact HB.out | apply below_alloc | apply pw_below_drewN | apply below_drew1 | refine below_set ?_ GE349.out) | exact HB.out)⟩⟩
                  case rest =>
                    clear HC23
                    try clear c1
                    try clear c2
                    try clear p2
                    try clear c3
                    try clear c5
                    try clear c7
                    try clear c7b0
                    try clear c7b1
                    try clear c9
                    try clear c11
                    try clear c13
                    try clear c18
                    try clear c18b0
                    try clear c18b1
                    try clear c19
                    try clear c19b0
                    try clear c19b1
                    try clear c22
                    try clear c22b0
                    try clear c22b1
                    try clear c25
                    try clear c25b0
                    try clear c26
                    try clear c26b0
                    try clear hcz14_0
                    try clear hcz14_1
                    try clear hcz14_2
                    try clear hcz14_3
                    try clear hcz14_4
                    try clear hcz15_0
                    try clear hcz15_1
                    try clear hcz15_2
                    try clear hcz15_3
                    try clear hcz15_4
                    try clear hcz17_0
                    try clear hcz17_1
                    try clear hcz17_2
                    try clear hcz17_3
                    try clear hcz17_4
                    try clear hcz20_0
                    try clear hcz20_1
                    try clear hcz20_2
                    try clear hcz20_3
                    try clear hcz20_4
                    try clear hcz21_0
                    try clear hcz21_1
                    try clear hcz21_2
                    try clear hcz21_3
                    try clear hcz21_4
                    try clear hcz24_0
                    try clear hcz24_1
                    try clear hcz24_2
                    try clear hcz24_3
                    try clear hcz24_4
                    try clear hcz27_0
                    try clear hcz27_1
                    try clear hcz27_2
                    try clear hcz27_3
                    try clear hcz27_4
                    try clear hcz28_0
                    try clear hcz28_1
                    try clear hcz28_2
                    try clear hcz28_3
                    try clear hcz28_4
                    try clear hcz29_0
                    try clear hcz29_1
                    try clear hcz29_2
                    try clear hcz29_3
                    try clear hcz29_4
                    try clear hcz6_0
                    try clear hcz6_1
                    try clear hcz6_2
                    try clear hcz6_3
                    try clear hcz6_4
                    try clear hcz8_0
                    try clear hcz8_1
                    try clear hcz8_2
                    try clear hcz8_3
                    try clear hcz8_4
                    try clear hcz9_0
                    try clear hcz9_1
                    try clear hcz9_2
                    try clear hcz9_3
                    try clear hcz9_4
                    try clear hfz14_0
                    try clear hfz14_1
                    try clear hfz14_2
                    try clear hfz14_3
                    try clear hfz14_4
                    try clear hfz15_0
                    try clear hfz15_1
                    try clear hfz15_2
                    try clear hfz15_3
                    try clear hfz15_4
                    try clear hfz17_0
                    try clear hfz17_1
                    try clear hfz17_2
                    try clear hfz17_3
                    try clear hfz17_4
                    try clear hfz20_0
                    try clear hfz20_1
                    try clear hfz20_2
                    try clear hfz20_3
                    try clear hfz20_4
                    try clear hfz21_0
                    try clear hfz21_1
                    try clear hfz21_2
                    try clear hfz21_3
                    try clear hfz21_4
                    try clear hfz24_0
                    try clear hfz24_1
                    try clear hfz24_2
                    try clear hfz24_3
                    try clear hfz24_4
                    try clear hfz27_0
                    try clear hfz27_1
                    try clear hfz27_2
                    try clear hfz27_3
                    try clear hfz27_4
                    try clear hfz28_0
                    try clear hfz28_1
                    try clear hfz28_2
                    try clear hfz28_3
                    try clear hfz28_4
                    try clear hfz29_0
                    try clear hfz29_1
                    try clear hfz29_2
                    try clear hfz29_3
                    try clear hfz29_4
                    try clear hfz6_0
                    try clear hfz6_1
                    try clear hfz6_2
                    try clear hfz6_3
                    try clear hfz6_4
                    try clear hfz8_0
                    try clear hfz8_1
                    try clear hfz8_2
                    try clear hfz8_3
                    try clear hfz8_4
                    try clear hfz9_0
                    try clear hfz9_1
                    try clear hfz9_2
                    try clear hfz9_3
                    try clear hfz9_4
                    try clear p2
                    obtain ⟨kq, x4_22, rfl, HA, HJ22, BK349, HB⟩ := hcut
                    cases kq with
                    | zero => exact absurd HA.out (by simp [pascalineref14_May.j3])
                    | succ kj22 =>
                      have H := HA.out
                      clear HA
                      simp only [pascalineref14_May.j3] at H
                      have H' := Aside0.mk H
                      clear H
                      go_wp2
                      go_loopg [4, 5] kj22 (fun kq v4 v5 w' => ∃ (x4_5 : Bool) (x5_5 : Int), v4 = .bool x4_5 ∧ v5 = .int .i64 x5_5 ∧ Aside0 (pascalineref14_May.l0 kq (l0_4.length : Int) x4_5 x5_5 a0_0 a0_1 a0_2 a0_3 l0_4 = some r) ∧ Aside0 (kq ≤ kj22) ∧ Aside0 (w'.heap[gb349]? = some (.cells #[.string a0_0, .int .i64 a0_1, .int .i64 a0_2, .int .i32 a0_3, (.slice A0_4 l0_4.length c0_4)] 80 (0, 0))) ∧ Aside0 (Below w.heap.size w w'))
                      case atStart => exact ⟨(x4_22), (0), (by first | rfl | (simp; done) | (simp [*]; done)), (by first | rfl | (simp; done) | (simp [*]; done)), H', ⟨Nat.le_refl _⟩, ⟨by (with_reducible repeat (first | refine blk_drewN ?_ _ | refine blk_drew ?_ | refine blk_alloc ?_ _)); exact BK349.out⟩, ⟨by repeat (first | (with_reducible first | exact HB.out | apply below_alloc | apply pw_below_drewN | apply below_drew1 | refine below_set ?_ GE349.out) | exact HB.out)⟩⟩
                      case round =>
                        clear H'
                        try clear c1
                        try clear c2
                        try clear p2
                        try clear c3
                        try clear c5
                        try clear c7
                        try clear c7b0
                        try clear c7b1
                        try clear c9
                        try clear c11
                        try clear c13
                        try clear c18
                        try clear c18b0
                        try clear c18b1
                        try clear c19
                        try clear c19b0
                        try clear c19b1
                        try clear c22
                        try clear c22b0
                        try clear c22b1
                        try clear c25
                        try clear c25b0
                        try clear c26
                        try clear c26b0
                        try clear hcz14_0
                        try clear hcz14_1
                        try clear hcz14_2
                        try clear hcz14_3
                        try clear hcz14_4
                        try clear hcz15_0
                        try clear hcz15_1
                        try clear hcz15_2
                        try clear hcz15_3
                        try clear hcz15_4
                        try clear hcz17_0
                        try clear hcz17_1
                        try clear hcz17_2
                        try clear hcz17_3
                        try clear hcz17_4
                        try clear hcz20_0
                        try clear hcz20_1
                        try clear hcz20_2
                        try clear hcz20_3
                        try clear hcz20_4
                        try clear hcz21_0
                        try clear hcz21_1
                        try clear hcz21_2
                        try clear hcz21_3
                        try clear hcz21_4
                        try clear hcz24_0
                        try clear hcz24_1
                        try clear hcz24_2
                        try clear hcz24_3
                        try clear hcz24_4
                        try clear hcz27_0
                        try clear hcz27_1
                        try clear hcz27_2
                        try clear hcz27_3
                        try clear hcz27_4
                        try clear hcz28_0
                        try clear hcz28_1
                        try clear hcz28_2
                        try clear hcz28_3
                        try clear hcz28_4
                        try clear hcz29_0
                        try clear hcz29_1
                        try clear hcz29_2
                        try clear hcz29_3
                        try clear hcz29_4
                        try clear hcz6_0
                        try clear hcz6_1
                        try clear hcz6_2
                        try clear hcz6_3
                        try clear hcz6_4
                        try clear hcz8_0
                        try clear hcz8_1
                        try clear hcz8_2
                        try clear hcz8_3
                        try clear hcz8_4
                        try clear hcz9_0
                        try clear hcz9_1
                        try clear hcz9_2
                        try clear hcz9_3
                        try clear hcz9_4
                        try clear hfz14_0
                        try clear hfz14_1
                        try clear hfz14_2
                        try clear hfz14_3
                        try clear hfz14_4
                        try clear hfz15_0
                        try clear hfz15_1
                        try clear hfz15_2
                        try clear hfz15_3
                        try clear hfz15_4
                        try clear hfz17_0
                        try clear hfz17_1
                        try clear hfz17_2
                        try clear hfz17_3
                        try clear hfz17_4
                        try clear hfz20_0
                        try clear hfz20_1
                        try clear hfz20_2
                        try clear hfz20_3
                        try clear hfz20_4
                        try clear hfz21_0
                        try clear hfz21_1
                        try clear hfz21_2
                        try clear hfz21_3
                        try clear hfz21_4
                        try clear hfz24_0
                        try clear hfz24_1
                        try clear hfz24_2
                        try clear hfz24_3
                        try clear hfz24_4
                        try clear hfz27_0
                        try clear hfz27_1
                        try clear hfz27_2
                        try clear hfz27_3
                        try clear hfz27_4
                        try clear hfz28_0
                        try clear hfz28_1
                        try clear hfz28_2
                        try clear hfz28_3
                        try clear hfz28_4
                        try clear hfz29_0
                        try clear hfz29_1
                        try clear hfz29_2
                        try clear hfz29_3
                        try clear hfz29_4
                        try clear hfz6_0
                        try clear hfz6_1
                        try clear hfz6_2
                        try clear hfz6_3
                        try clear hfz6_4
                        try clear hfz8_0
                        try clear hfz8_1
                        try clear hfz8_2
                        try clear hfz8_3
                        try clear hfz8_4
                        try clear hfz9_0
                        try clear hfz9_1
                        try clear hfz9_2
                        try clear hfz9_3
                        try clear hfz9_4
                        try clear p2
                        obtain ⟨x4_5, x5_5, rfl, rfl, HA, HK5, BK349, HB⟩ := hrel
                        cases gk with
                        | zero => exact absurd HA.out (by simp [pascalineref14_May.l0])
                        | succ k5 =>
                          have H := HA.out
                          clear HA
                          simp only [pascalineref14_May.l0] at H
                          by_cases c30 : x5_5 < (l0_4.length : Int)
                          · rw [if_pos c30] at H
                            have c30b0 : decide (x5_5 < (l0_4.length : Int)) = true := decide_eq_true c30
                            clear c30
                            by_cases c31 : x4_5 = true
                            · subst c31
                              have H1 : (if 0 ≤ x5_5 then (if x5_5 < (l0_4.length : Int) then ((pascalineref14_basic.f ((rd_T119 l0_4 x5_5).f0)).bind fun t353 => (pascalineref14_May.l0 k5 (l0_4.length : Int) t353 (wrap64 (x5_5 + 1)) a0_0 a0_1 a0_2 a0_3 l0_4)) else (none)) else (none)) = some r := by rw [if_pos rfl] at H; exact H
                              clear H
                              have H := H1
                              clear H1
                              by_cases c32 : 0 ≤ x5_5
                              · rw [if_pos c32] at H
                                have c32b0 : decide (0 ≤ x5_5) = true := decide_eq_true c32
                                clear c32
                                by_cases c33 : x5_5 < (l0_4.length : Int)
                                · rw [if_pos c33] at H
                                  have c33b0 : decide (x5_5 < (l0_4.length : Int)) = true := decide_eq_true c33
                                  clear c33
                                  replace H := Option.bind_eq_some_iff.mp H
                                  obtain ⟨t353, A340, H⟩ := H
                                  replace H : (pascalineref14_May.l0 k5 (l0_4.length : Int) t353 (wrap64 (x5_5 + 1)) a0_0 a0_1 a0_2 a0_3 l0_4) = some r := H
                                  have A34 := Aside0.mk A340
                                  clear A340
                                  have H' := Aside0.mk H
                                  clear H
                                  have hcz35_0 : wr.cell? ⟨gb349, 0, none⟩ = some (.string a0_0) := (blk_cell BK349.out 0).trans rfl
                                  have hcz35_1 : wr.cell? ⟨gb349, 1, none⟩ = some (.int .i64 a0_1) := (blk_cell BK349.out 1).trans rfl
                                  have hcz35_2 : wr.cell? ⟨gb349, 2, none⟩ = some (.int .i64 a0_2) := (blk_cell BK349.out 2).trans rfl
                                  have hcz35_3 : wr.cell? ⟨gb349, 3, none⟩ = some (.int .i32 a0_3) := (blk_cell BK349.out 3).trans rfl
                                  have hcz35_4 : wr.cell? ⟨gb349, 4, none⟩ = some (.slice A0_4 l0_4.length c0_4) := (blk_cell BK349.out 4).trans rfl
                                  have hfz35_0 := blk_frozen BK349.out 0
                                  have hfz35_1 := blk_frozen BK349.out 1
                                  have hfz35_2 := blk_frozen BK349.out 2
                                  have hfz35_3 := blk_frozen BK349.out 3
                                  have hfz35_4 := blk_frozen BK349.out 4
                                  have p352 : 0 ≤ (x5_5 : Int) := of_decide_eq_true (by first | (with_reducible assumption) | assumption)
                                  have q352 : x5_5 < (l0_4.length : Int) := of_decide_eq_true (by first | (with_reducible assumption) | assumption)
                                  obtain ⟨ad352, e352, hx352_0, hx352_1⟩ := at_T119 HR0_4.out x5_5 p352 q352
                                  cases e352
                                  replace hx352_0 := (HB.out.cell (World.block_lt_of_cell? w _ hx352_0)).trans hx352_0
                                  replace hx352_1 := (HB.out.cell (World.block_lt_of_cell? w _ hx352_1)).trans hx352_1
                                  replace p352 := eq_true p352
                                  replace q352 := eq_true q352
                                  go_wp2_with (first | (go_at_call 93; (with_reducible refine (pascalineref14_basic.calls ((rd_T119 l0_4 x5_5).f0) t353 _ A34.out).mono ?_); rintro e w' ⟨rfl, ⟨nd, rfl⟩⟩))
                                  go_roundg k5
                                  case measure => have := HJ3.out; have := HJ9.out; have := HJ15.out; have := HJ22.out; have := HK5.out; omega
                                  case rel => exact ⟨(t353), (wrap64 (x5_5 + 1)), (by first | rfl | (simp; done) | (simp [*]; done)), (by first | rfl | (simp; done) | (simp [*]; done)), H', ⟨by have := HJ3.out; have := HJ9.out; have := HJ15.out; have := HJ22.out; have := HK5.out; omega⟩, ⟨by (with_reducible repeat (first | refine blk_drewN ?_ _ | refine blk_drew ?_ | refine blk_alloc ?_ _)); exact BK349.out⟩, ⟨by repeat (first | (with_reducible first | exact HB.out | apply below_alloc | apply pw_below_drewN | apply below_drew1 | refine below_set ?_ GE349.out) | exact HB.out)⟩⟩
                                · rw [if_neg c33] at H
                                  exact absurd H (by simp)
                              · rw [if_neg c32] at H
                                exact absurd H (by simp)
                            · replace c31 := Bool.eq_false_iff.mpr c31
                              subst c31
                              have H1 : (pascalineref14_May.l0 k5 (l0_4.length : Int) false (wrap64 (x5_5 + 1)) a0_0 a0_1 a0_2 a0_3 l0_4) = some r := by rw [if_neg (show ¬ (false = true) by decide)] at H; exact H
                              clear H
                              have H := H1
                              clear H1
                              have H' := Aside0.mk H
                              clear H
                              go_wp2
                              go_roundg k5
                              case measure => have := HJ3.out; have := HJ9.out; have := HJ15.out; have := HJ22.out; have := HK5.out; omega
                              case rel => exact ⟨(false), (wrap64 (x5_5 + 1)), (by first | rfl | (simp; done) | (simp [*]; done)), (by first | rfl | (simp; done) | (simp [*]; done)), H', ⟨by have := HJ3.out; have := HJ9.out; have := HJ15.out; have := HJ22.out; have := HK5.out; omega⟩, ⟨by (with_reducible repeat (first | refine blk_drewN ?_ _ | refine blk_drew ?_ | refine blk_alloc ?_ _)); exact BK349.out⟩, ⟨by repeat (first | (with_reducible first | exact HB.out | apply below_alloc | apply pw_below_drewN | apply below_drew1 | refine below_set ?_ GE349.out) | exact HB.out)⟩⟩
                          · rw [if_neg c30] at H
                            have c30b0 : decide (x5_5 < (l0_4.length : Int)) = false := decide_eq_false c30
                            clear c30
                            by_cases c36 : x4_5 = true
                            · subst c36
                              have H1 : (if a0_1 = 1 then (some 0) else (if a0_3 < 0 then (some 141) else (some 0))) = some r := by rw [if_pos rfl] at H; exact H
                              clear H
                              have H := H1
                              clear H1
                              by_cases c37 : a0_1 = 1
                              · rw [if_pos c37] at H
                                have c37b0 : (a0_1 == 1) = true := beq_iff_eq.mpr c37
                                have c37b1 : (a0_1 != 1) = false := bne_eq_false_iff_eq.mpr c37
                                clear c37
                                obtain rfl := Option.some.inj H
                                have hcz38_0 : wr.cell? ⟨gb349, 0, none⟩ = some (.string a0_0) := (blk_cell BK349.out 0).trans rfl
                                have hcz38_1 : wr.cell? ⟨gb349, 1, none⟩ = some (.int .i64 a0_1) := (blk_cell BK349.out 1).trans rfl
                                have hcz38_2 : wr.cell? ⟨gb349, 2, none⟩ = some (.int .i64 a0_2) := (blk_cell BK349.out 2).trans rfl
                                have hcz38_3 : wr.cell? ⟨gb349, 3, none⟩ = some (.int .i32 a0_3) := (blk_cell BK349.out 3).trans rfl
                                have hcz38_4 : wr.cell? ⟨gb349, 4, none⟩ = some (.slice A0_4 l0_4.length c0_4) := (blk_cell BK349.out 4).trans rfl
                                have hfz38_0 := blk_frozen BK349.out 0
                                have hfz38_1 := blk_frozen BK349.out 1
                                have hfz38_2 := blk_frozen BK349.out 2
                                have hfz38_3 := blk_frozen BK349.out 3
                                have hfz38_4 := blk_frozen BK349.out 4
                                go_wp2
                                go_ret
                                exact ⟨by first | rfl | (simp [errW_none, errW_some] <;> rfl) | (simp [*, errW_none, errW_some] <;> rfl), by repeat (first | (with_reducible first | exact HB.out | apply below_alloc | apply pw_below_drewN | apply below_drew1 | refine below_set ?_ GE349.out) | exact HB.out)⟩
                              · rw [if_neg c37] at H
                                have c37b0 : (a0_1 == 1) = false := beq_eq_false_iff_ne.mpr c37
                                have c37b1 : (a0_1 != 1) = true := bne_iff_ne.mpr c37
                                by_cases c39 : a0_3 < 0
                                · rw [if_pos c39] at H
                                  have c39b0 : decide (a0_3 < 0) = true := decide_eq_true c39
                                  clear c39
                                  obtain rfl := Option.some.inj H
                                  have hcz40_0 : wr.cell? ⟨gb349, 0, none⟩ = some (.string a0_0) := (blk_cell BK349.out 0).trans rfl
                                  have hcz40_1 : wr.cell? ⟨gb349, 1, none⟩ = some (.int .i64 a0_1) := (blk_cell BK349.out 1).trans rfl
                                  have hcz40_2 : wr.cell? ⟨gb349, 2, none⟩ = some (.int .i64 a0_2) := (blk_cell BK349.out 2).trans rfl
                                  have hcz40_3 : wr.cell? ⟨gb349, 3, none⟩ = some (.int .i32 a0_3) := (blk_cell BK349.out 3).trans rfl
                                  have hcz40_4 : wr.cell? ⟨gb349, 4, none⟩ = some (.slice A0_4 l0_4.length c0_4) := (blk_cell BK349.out 4).trans rfl
                                  have hfz40_0 := blk_frozen BK349.out 0
                                  have hfz40_1 := blk_frozen BK349.out 1
                                  have hfz40_2 := blk_frozen BK349.out 2
                                  have hfz40_3 := blk_frozen BK349.out 3
                                  have hfz40_4 := blk_frozen BK349.out 4
                                  go_wp2
                                  go_ret
                                  exact ⟨by first | rfl | (simp [errW_none, errW_some] <;> rfl) | (simp [*, errW_none, errW_some] <;> rfl), by repeat (first | (with_reducible first | exact HB.out | apply below_alloc | apply pw_below_drewN | apply below_drew1 | refine below_set ?_ GE349.out) | exact HB.out)⟩
                                · rw [if_neg c39] at H
                                  have c39b0 : decide (a0_3 < 0) = false := decide_eq_false c39
                                  clear c39
                                  obtain rfl := Option.some.inj H
                                  have hcz41_0 : wr.cell? ⟨gb349, 0, none⟩ = some (.string a0_0) := (blk_cell BK349.out 0).trans rfl
                                  have hcz41_1 : wr.cell? ⟨gb349, 1, none⟩ = some (.int .i64 a0_1) := (blk_cell BK349.out 1).trans rfl
                                  have hcz41_2 : wr.cell? ⟨gb349, 2, none⟩ = some (.int .i64 a0_2) := (blk_cell BK349.out 2).trans rfl
                                  have hcz41_3 : wr.cell? ⟨gb349, 3, none⟩ = some (.int .i32 a0_3) := (blk_cell BK349.out 3).trans rfl
                                  have hcz41_4 : wr.cell? ⟨gb349, 4, none⟩ = some (.slice A0_4 l0_4.length c0_4) := (blk_cell BK349.out 4).trans rfl
                                  have hfz41_0 := blk_frozen BK349.out 0
                                  have hfz41_1 := blk_frozen BK349.out 1
                                  have hfz41_2 := blk_frozen BK349.out 2
                                  have hfz41_3 := blk_frozen BK349.out 3
                                  have hfz41_4 := blk_frozen BK349.out 4
                                  go_wp2
                                  go_ret
                                  exact ⟨by first | rfl | (simp [errW_none, errW_some] <;> rfl) | (simp [*, errW_none, errW_some] <;> rfl), by repeat (first | (with_reducible first | exact HB.out | apply below_alloc | apply pw_below_drewN | apply below_drew1 | refine below_set ?_ GE349.out) | exact HB.out)⟩
                            · replace c36 := Bool.eq_false_iff.mpr c36
                              subst c36
                              have H1 : (some 141) = some r := by rw [if_neg (show ¬ (false = true) by decide)] at H; exact H
                              clear H
                              have H := H1
                              clear H1
                              obtain rfl := Option.some.inj H
                              go_wp2
                              go_ret
                              exact ⟨by first | rfl | (simp [errW_none, errW_some] <;> rfl) | (simp [*, errW_none, errW_some] <;> rfl), by repeat (first | (with_reducible first | exact HB.out | apply below_alloc | apply pw_below_drewN | apply below_drew1 | refine below_set ?_ GE349.out) | exact HB.out)⟩
                · rw [if_neg c22] at H
                  have c22b0 : (a0_1 == 6) = false := beq_eq_false_iff_ne.mpr c22
                  have c22b1 : (a0_1 != 6) = true := bne_iff_ne.mpr c22
                  by_cases c42 : x4_15 = true
                  · subst c42
                    have H1 : (if a0_1 = 1 then (some 0) else (if a0_3 < 0 then (some 141) else (some 0))) = some r := by rw [if_pos rfl] at H; exact H
                    clear H
                    have H := H1
                    clear H1
                    by_cases c43 : a0_1 = 1
                    · rw [if_pos c43] at H
                      have c43b0 : (a0_1 == 1) = true := beq_iff_eq.mpr c43
                      have c43b1 : (a0_1 != 1) = false := bne_eq_false_iff_eq.mpr c43
                      clear c43
                      obtain rfl := Option.some.inj H
                      have hcz44_0 : wc.cell? ⟨gb349, 0, none⟩ = some (.string a0_0) := (blk_cell BK349.out 0).trans rfl
                      have hcz44_1 : wc.cell? ⟨gb349, 1, none⟩ = some (.int .i64 a0_1) := (blk_cell BK349.out 1).trans rfl
                      have hcz44_2 : wc.cell? ⟨gb349, 2, none⟩ = some (.int .i64 a0_2) := (blk_cell BK349.out 2).trans rfl
                      have hcz44_3 : wc.cell? ⟨gb349, 3, none⟩ = some (.int .i32 a0_3) := (blk_cell BK349.out 3).trans rfl
                      have hcz44_4 : wc.cell? ⟨gb349, 4, none⟩ = some (.slice A0_4 l0_4.length c0_4) := (blk_cell BK349.out 4).trans rfl
                      have hfz44_0 := blk_frozen BK349.out 0
                      have hfz44_1 := blk_frozen BK349.out 1
                      have hfz44_2 := blk_frozen BK349.out 2
                      have hfz44_3 := blk_frozen BK349.out 3
                      have hfz44_4 := blk_frozen BK349.out 4
                      go_wp2
                      go_ret
                      exact ⟨by first | rfl | (simp [errW_none, errW_some] <;> rfl) | (simp [*, errW_none, errW_some] <;> rfl), by repeat (first | (with_reducible first | exact HB.out | apply below_alloc | apply pw_below_drewN | apply below_drew1 | refine below_set ?_ GE349.out) | exact HB.out)⟩
                    · rw [if_neg c43] at H
                      have c43b0 : (a0_1 == 1) = false := beq_eq_false_iff_ne.mpr c43
                      have c43b1 : (a0_1 != 1) = true := bne_iff_ne.mpr c43
                      by_cases c45 : a0_3 < 0
                      · rw [if_pos c45] at H
                        have c45b0 : decide (a0_3 < 0) = true := decide_eq_true c45
                        clear c45
                        obtain rfl := Option.some.inj H
                        have hcz46_0 : wc.cell? ⟨gb349, 0, none⟩ = some (.string a0_0) := (blk_cell BK349.out 0).trans rfl
                        have hcz46_1 : wc.cell? ⟨gb349, 1, none⟩ = some (.int .i64 a0_1) := (blk_cell BK349.out 1).trans rfl
                        have hcz46_2 : wc.cell? ⟨gb349, 2, none⟩ = some (.int .i64 a0_2) := (blk_cell BK349.out 2).trans rfl
                        have hcz46_3 : wc.cell? ⟨gb349, 3, none⟩ = some (.int .i32 a0_3) := (blk_cell BK349.out 3).trans rfl
                        have hcz46_4 : wc.cell? ⟨gb349, 4, none⟩ = some (.slice A0_4 l0_4.length c0_4) := (blk_cell BK349.out 4).trans rfl
                        have hfz46_0 := blk_frozen BK349.out 0
                        have hfz46_1 := blk_frozen BK349.out 1
                        have hfz46_2 := blk_frozen BK349.out 2
                        have hfz46_3 := blk_frozen BK349.out 3
                        have hfz46_4 := blk_frozen BK349.out 4
                        go_wp2
                        go_ret
                        exact ⟨by first | rfl | (simp [errW_none, errW_some] <;> rfl) | (simp [*, errW_none, errW_some] <;> rfl), by repeat (first | (with_reducible first | exact HB.out | apply below_alloc | apply pw_below_drewN | apply below_drew1 | refine below_set ?_ GE349.out) | exact HB.out)⟩
                      · rw [if_neg c45] at H
                        have c45b0 : decide (a0_3 < 0) = false := decide_eq_false c45
                        clear c45
                        obtain rfl := Option.some.inj H
                        have hcz47_0 : wc.cell? ⟨gb349, 0, none⟩ = some (.string a0_0) := (blk_cell BK349.out 0).trans rfl
                        have hcz47_1 : wc.cell? ⟨gb349, 1, none⟩ = some (.int .i64 a0_1) := (blk_cell BK349.out 1).trans rfl
                        have hcz47_2 : wc.cell? ⟨gb349, 2, none⟩ = some (.int .i64 a0_2) := (blk_cell BK349.out 2).trans rfl
                        have hcz47_3 : wc.cell? ⟨gb349, 3, none⟩ = some (.int .i32 a0_3) := (blk_cell BK349.out 3).trans rfl
                        have hcz47_4 : wc.cell? ⟨gb349, 4, none⟩ = some (.slice A0_4 l0_4.length c0_4) := (blk_cell BK349.out 4).trans rfl
                        have hfz47_0 := blk_frozen BK349.out 0
                        have hfz47_1 := blk_frozen BK349.out 1
                        have hfz47_2 := blk_frozen BK349.out 2
                        have hfz47_3 := blk_frozen BK349.out 3
                        have hfz47_4 := blk_frozen BK349.out 4
                        go_wp2
                        go_ret
                        exact ⟨by first | rfl | (simp [errW_none, errW_some] <;> rfl) | (simp [*, errW_none, errW_some] <;> rfl), by repeat (first | (with_reducible first | exact HB.out | apply below_alloc | apply pw_below_drewN | apply below_drew1 | refine below_set ?_ GE349.out) | exact HB.out)⟩
                  · replace c42 := Bool.eq_false_iff.mpr c42
                    subst c42
                    have H1 : (some 141) = some r := by rw [if_neg (show ¬ (false = true) by decide)] at H; exact H
                    clear H
                    have H := H1
                    clear H1
                    obtain rfl := Option.some.inj H
                    have hcz48_0 : wc.cell? ⟨gb349, 0, none⟩ = some (.string a0_0) := (blk_cell BK349.out 0).trans rfl
                    have hcz48_1 : wc.cell? ⟨gb349, 1, none⟩ = some (.int .i64 a0_1) := (blk_cell BK349.out 1).trans rfl
                    have hcz48_2 : wc.cell? ⟨gb349, 2, none⟩ = some (.int .i64 a0_2) := (blk_cell BK349.out 2).trans rfl
                    have hcz48_3 : wc.cell? ⟨gb349, 3, none⟩ = some (.int .i32 a0_3) := (blk_cell BK349.out 3).trans rfl
                    have hcz48_4 : wc.cell? ⟨gb349, 4, none⟩ = some (.slice A0_4 l0_4.length c0_4) := (blk_cell BK349.out 4).trans rfl
                    have hfz48_0 := blk_frozen BK349.out 0
                    have hfz48_1 := blk_frozen BK349.out 1
                    have hfz48_2 := blk_frozen BK349.out 2
                    have hfz48_3 := blk_frozen BK349.out 3
                    have hfz48_4 := blk_frozen BK349.out 4
                    go_wp2
                    go_ret
                    exact ⟨by first | rfl | (simp [errW_none, errW_some] <;> rfl) | (simp [*, errW_none, errW_some] <;> rfl), by repeat (first | (with_reducible first | exact HB.out | apply below_alloc | apply pw_below_drewN | apply below_drew1 | refine below_set ?_ GE349.out) | exact HB.out)⟩
  · replace c3 := Bool.eq_false_iff.mpr c3
    subst c3
    have H1 : (some 140) = some r := by rw [if_neg (show ¬ (false = true) by decide)] at H; exact H
    clear H
    have H := H1
    clear H1
    obtain rfl := Option.some.inj H
    go_enter Try.func51, Try.ntmps51
    go_wp2_with (first | ((with_reducible refine gate_dst (N := 1) rfl ?_); refine box_event ?hg (N := 1) ?hd (cs := #[.string a0_0, .int .i64 a0_1, .int .i64 a0_2, .int .i32 a0_3, .slice A0_4 l0_4.length c0_4]) (t := 80) ?hr ?_; (case hd => rfl); (case hg => rfl); (case hr => first | (go_simp; done) | (go_simp; rfl)); intro gb349 hg w49 hbox hb; have n0_ := Aside0.mk (below_step (by repeat (first | (with_reducible first | exact HB.out | apply below_alloc | apply pw_below_drewN | apply below_drew1) | exact HB.out)) hb); have n1_ := Aside0.mk (hbox); have n2_ := Aside0.mk ((by rw [hg]; exact (below_size (by repeat (first | (with_reducible first | exact HB.out | apply below_alloc | apply pw_below_drewN | apply below_drew1) | exact HB.out))) : w.heap.size ≤ gb349)); have n3_ := Aside0.mk ((by rw [hg]; exact (below_size (by repeat (first | (with_reducible first | exact HB.out | apply below_alloc | apply pw_below_drewN | apply below_drew1) | exact HB.out))) : w.heap.size ≤ gb349)); clear HB; have HB := n0_; have BK349 := n1_; have GW349 := n2_; have GE349 := n3_; clear n0_ n1_ n2_ n3_; clear hb hbox hg; have hcz50_0 : w49.cell? ⟨gb349, 0, none⟩ = some (.string a0_0) := (blk_cell BK349.out 0).trans rfl; have hcz50_1 : w49.cell? ⟨gb349, 1, none⟩ = some (.int .i64 a0_1) := (blk_cell BK349.out 1).trans rfl; have hcz50_2 : w49.cell? ⟨gb349, 2, none⟩ = some (.int .i64 a0_2) := (blk_cell BK349.out 2).trans rfl; have hcz50_3 : w49.cell? ⟨gb349, 3, none⟩ = some (.int .i32 a0_3) := (blk_cell BK349.out 3).trans rfl; have hcz50_4 : w49.cell? ⟨gb349, 4, none⟩ = some (.slice A0_4 l0_4.length c0_4) := (blk_cell BK349.out 4).trans rfl; have hfz50_0 := blk_frozen BK349.out 0; have hfz50_1 := blk_frozen BK349.out 1; have hfz50_2 := blk_frozen BK349.out 2; have hfz50_3 := blk_frozen BK349.out 3; have hfz50_4 := blk_frozen BK349.out 4) | ((with_reducible refine gate_callee (f := 53) rfl ?_); refine goesL_ (some 8) rfl rfl Try.func53 (by kernel_rfl) rfl #[.string a0_0] rfl (by (try simp only [List.map_toArray, List.map_cons, List.map_nil]); first | done | rfl | (simp only [List.length_drop, List.length_take]; rfl)) ?_; (with_reducible refine (pascalineref14_Name.calls k a0_0 false _ A2.out).mono ?_); rintro e w' ⟨rfl, ⟨nd, rfl⟩⟩; refine ⟨_, rfl, ?_⟩))
    go_ret
    exact ⟨by first | rfl | (simp [errW_none, errW_some] <;> rfl) | (simp [*, errW_none, errW_some] <;> rfl), by repeat (first | (with_reducible first | exact HB.out | apply below_alloc | apply pw_below_drewN | apply below_drew1 | refine below_set ?_ GE349.out) | exact HB.out)⟩
end Go.Proofs.Ytehdhmhpmkkneaa.PAll
