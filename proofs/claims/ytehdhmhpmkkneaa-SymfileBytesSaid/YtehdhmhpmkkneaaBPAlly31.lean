-- Cut by shake.py (what this claim does not use is dropped) from a text that was printed by a turned copy of print.py (which functions: told by hand; relay.sh) out of the translation. Not trusted: Lean checks it.
import Derived.Test.YtehdhmhpmkkneaaBPAllx0
import Derived.Test.YtehdhmhpmkkneaaBMi
import Derived.Test.YtehdhmhpmkkneaaBPAllx18
import Derived.Test.YtehdhmhpmkkneaaBMb
namespace Go.Proofs.Ytehdhmhpmkkneaa.PAll
open Go.RowKit Go.Proofs.YtehdhmhpmkkneaaW.PrintWords Go.Proofs.YtehdhmhpmkkneaaW.PrintLast Go.Proofs.YtehdhmhpmkkneaaW.PrintMore
attribute [local go_sem] max2_int min2_int max_two min_two max_three min_three max_four min_four   -- for this text's walks alone
set_option linter.unusedVariables false
set_option linter.unusedSimpArgs false
/-! ### symfile_May: function 50 -/
mutual
def symfile_May.j0 : Nat → Bool → Int → Bool → ByteArray → Int → Int → Int → List (S119) → Option (Int)
  | 0, _, _, _, _, _, _, _, _ => none
  | k + 1, x3, x11, x12, x336000, x336001, x336002, x336003, x336004 => if x12 = true then ((symfile_basic.f x336002).bind fun t337 => (if t337 = true then (if ((x336004.length : Int) = 0) then (if x336001 = 1 then (some 0) else (if x336003 < 0 then (some 141) else (some 0))) else (some 141)) else (some 141))) else (if x11 = 7 then (if x336002 = 0 then (if ((x336004.length : Int) = 0) then (if x336001 = 1 then (some 0) else (if x336003 < 0 then (some 141) else (some 0))) else (some 141)) else (some 141)) else (if x11 = 6 then (if x336002 = 0 then (symfile_May.j1 k (decide ((x336004.length : Int) ≤ 16)) x336000 x336001 x336002 x336003 x336004) else ((symfile_basic.f x336002).bind fun t338 => (if t338 = true then (symfile_May.j1 k (decide ((x336004.length : Int) ≤ 16)) x336000 x336001 x336002 x336003 x336004) else (symfile_May.j1 k false x336000 x336001 x336002 x336003 x336004)))) else (if x3 = true then (if x336001 = 1 then (some 0) else (if x336003 < 0 then (some 141) else (some 0))) else (some 141))))
def symfile_May.j1 : Nat → Bool → ByteArray → Int → Int → Int → List (S119) → Option (Int)
  | 0, _, _, _, _, _, _ => none
  | k + 1, x3, x336000, x336001, x336002, x336003, x336004 => symfile_May.l0 k x3 x336004 (x336004.length : Int) 0 x336000 x336001 x336002 x336003 x336004
def symfile_May.l0 : Nat → Bool → List (S119) → Int → Int → ByteArray → Int → Int → Int → List (S119) → Option (Int)
  | 0, _, _, _, _, _, _, _, _, _ => none
  | k + 1, x3, x52, x53, x54, x336000, x336001, x336002, x336003, x336004 => if x54 < x53 then (if 0 ≤ x54 then (if x54 < (x52.length : Int) then (if x3 = true then ((symfile_basic.f ((rd_T119 x52 x54).f0)).bind fun t341 => (symfile_May.l0 k t341 x52 x53 (wrap64 (x54 + 1)) x336000 x336001 x336002 x336003 x336004)) else (symfile_May.l0 k false x52 x53 (wrap64 (x54 + 1)) x336000 x336001 x336002 x336003 x336004)) else (none)) else (none)) else (if x3 = true then (if x336001 = 1 then (some 0) else (if x336003 < 0 then (some 141) else (some 0))) else (some 141))
end
def symfile_May.f (k : Nat) (a0_0 : ByteArray) (a0_1 : Int) (a0_2 : Int) (a0_3 : Int) (l0_4 : List (S119)) : Option (Int) := (symfile_Name.f k a0_0).bind fun t336 => (if t336 = true then (if a0_1 = 1 then (symfile_May.j0 k false a0_1 (a0_1 == 1) a0_0 a0_1 a0_2 a0_3 l0_4) else (symfile_May.j0 k false a0_1 (a0_1 == 3) a0_0 a0_1 a0_2 a0_3 l0_4)) else (some 140))
set_option maxHeartbeats 8000000 in
set_option maxRecDepth 100000 in
theorem symfile_May.calls (k : Nat) (a0_0 : ByteArray) (a0_1 : Int) (a0_2 : Int) (a0_3 : Int) (A0_4 : Option Addr) (c0_4 : Nat) (l0_4 : List (S119)) (r : Int) (w : World) (hr0_4 : Kd.C k119 w A0_4 l0_4.length l0_4) (hc0_4 : l0_4.length ≤ c0_4) (h : symfile_May.f k a0_0 a0_1 a0_2 a0_3 l0_4 = some r) :
    Calls Try.prog 50 #[.agg #[.string a0_0, .int .i64 a0_1, .int .i64 a0_2, .int .i32 a0_3, .slice A0_4 l0_4.length c0_4]] w fun e w' => e = .returned (.int .i64 r) ∧ Below w.heap.size w w' := by
  have hu80 := Try.underlying80
  have hu119 := Try.underlying119
  have HR0_4 := Aside0.mk hr0_4
  have HC0_4 := Aside0.mk hc0_4
  clear hr0_4 hc0_4
  have HB := Aside0.mk (Below.refl w.heap.size w)
  have H : ((symfile_Name.f k a0_0).bind fun t336 => (if t336 = true then (if a0_1 = 1 then (symfile_May.j0 k false a0_1 (a0_1 == 1) a0_0 a0_1 a0_2 a0_3 l0_4) else (symfile_May.j0 k false a0_1 (a0_1 == 3) a0_0 a0_1 a0_2 a0_3 l0_4)) else (some 140))) = some r := h
  clear h
  replace H := Option.bind_eq_some_iff.mp H
  obtain ⟨t336, A20, H⟩ := H
  replace H : (if t336 = true then (if a0_1 = 1 then (symfile_May.j0 k false a0_1 (a0_1 == 1) a0_0 a0_1 a0_2 a0_3 l0_4) else (symfile_May.j0 k false a0_1 (a0_1 == 3) a0_0 a0_1 a0_2 a0_3 l0_4)) else (some 140)) = some r := H
  have A2 := Aside0.mk A20
  clear A20
  by_cases c3 : t336 = true
  · subst c3
    have H1 : (if a0_1 = 1 then (symfile_May.j0 k false a0_1 (a0_1 == 1) a0_0 a0_1 a0_2 a0_3 l0_4) else (symfile_May.j0 k false a0_1 (a0_1 == 3) a0_0 a0_1 a0_2 a0_3 l0_4)) = some r := by rw [if_pos rfl] at H; exact H
    clear H
    have H := H1
    clear H1
    have HC4 := Aside0.mk H
    clear H
    go_enter Try.func50, Try.ntmps50
    go_upto_if 12 with (first | ((with_reducible refine gate_dst (N := 1) rfl ?_); (try (refine gate_guard (by rfl) ?_; dsimp only)); refine box_event ?hg (N := 1) ?hd (cs := #[.string a0_0, .int .i64 a0_1, .int .i64 a0_2, .int .i32 a0_3, .slice A0_4 l0_4.length c0_4]) (t := 80) ?hr ?_; (case hd => rfl); (case hg => rfl); (case hr => first | (go_simp; done) | (go_simp; rfl)); intro gb335 hg w5 hbox hb; have n0_ := Aside0.mk (below_step (by repeat (first | (with_reducible first | exact HB.out | apply below_alloc | apply pw_below_drewN | apply below_drew1) | exact HB.out)) hb); have n1_ := Aside0.mk (hbox); have n2_ := Aside0.mk ((by rw [hg]; exact (below_size (by repeat (first | (with_reducible first | exact HB.out | apply below_alloc | apply pw_below_drewN | apply below_drew1) | exact HB.out))) : w.heap.size ≤ gb335)); have n3_ := Aside0.mk ((by rw [hg]; exact (below_size (by repeat (first | (with_reducible first | exact HB.out | apply below_alloc | apply pw_below_drewN | apply below_drew1) | exact HB.out))) : w.heap.size ≤ gb335)); clear HB; have HB := n0_; have BK335 := n1_; have GW335 := n2_; have GE335 := n3_; clear n0_ n1_ n2_ n3_; clear hb hbox hg; have hcz6_0 : w5.cell? ⟨gb335, 0, none⟩ = some (.string a0_0) := (blk_cell BK335.out 0).trans rfl; have hcz6_1 : w5.cell? ⟨gb335, 1, none⟩ = some (.int .i64 a0_1) := (blk_cell BK335.out 1).trans rfl; have hcz6_2 : w5.cell? ⟨gb335, 2, none⟩ = some (.int .i64 a0_2) := (blk_cell BK335.out 2).trans rfl; have hcz6_3 : w5.cell? ⟨gb335, 3, none⟩ = some (.int .i32 a0_3) := (blk_cell BK335.out 3).trans rfl; have hcz6_4 : w5.cell? ⟨gb335, 4, none⟩ = some (.slice A0_4 l0_4.length c0_4) := (blk_cell BK335.out 4).trans rfl; have hfz6_0 := blk_frozen BK335.out 0; have hfz6_1 := blk_frozen BK335.out 1; have hfz6_2 := blk_frozen BK335.out 2; have hfz6_3 := blk_frozen BK335.out 3; have hfz6_4 := blk_frozen BK335.out 4) | ((with_reducible refine gate_callee (f := 52) rfl ?_); refine goesL_ (some 8) rfl rfl Try.func52 (by kernel_rfl) rfl #[.string a0_0] rfl (by (try simp only [List.map_toArray, List.map_cons, List.map_nil]); first | done | rfl | (simp only [List.length_drop, List.length_take]; rfl)) ?_; (with_reducible refine (symfile_Name.calls k a0_0 true _ A2.out).mono ?_); rintro e w' ⟨rfl, ⟨nd, rfl⟩⟩; refine ⟨_, rfl, ?_⟩))
    (try simp only [Act.put, List.setIfInBounds_toArray, List.set_cons_zero, List.set_cons_succ])
    go_cut [12] (fun v12 wc => ∃ (kq : Nat) (x12_3 : Bool), v12 = .bool x12_3 ∧ Aside0 (symfile_May.j0 kq false a0_1 x12_3 a0_0 a0_1 a0_2 a0_3 l0_4 = some r) ∧ Aside0 (kq ≤ k) ∧ Aside0 (wc.heap[gb335]? = some (.cells #[.string a0_0, .int .i64 a0_1, .int .i64 a0_2, .int .i32 a0_3, (.slice A0_4 l0_4.length c0_4)] 80 (0, 0))) ∧ Aside0 (Below w.heap.size w wc))
    case first =>
      have H := HC4.out
      clear HC4
      by_cases c7 : a0_1 = 1
      · rw [if_pos c7] at H
        have c7b0 : (a0_1 == 1) = true := beq_iff_eq.mpr c7
        have c7b1 : (a0_1 != 1) = false := bne_eq_false_iff_eq.mpr c7
        clear c7
        (first | rw [c7b0] | (simp only [i64_w, i32_w]; rw [c7b0]) | skip)
        have H' := Aside0.mk H
        clear H
        go_wp2
        go_meet
        case rel => exact ⟨_, ((a0_1 == 1)), (by first | rfl | (simp; done) | (simp [*]; done)), H', ⟨by first | omega | exact Nat.le_refl _⟩, ⟨by (with_reducible repeat (first | refine blk_drewN ?_ _ | refine blk_drew ?_ | refine blk_alloc ?_ _)); exact BK335.out⟩, ⟨by repeat (first | (with_reducible first | exact HB.out | apply below_alloc | apply pw_below_drewN | apply below_drew1 | refine below_set ?_ GE335.out) | exact HB.out)⟩⟩
      · rw [if_neg c7] at H
        have c7b0 : (a0_1 == 1) = false := beq_eq_false_iff_ne.mpr c7
        have c7b1 : (a0_1 != 1) = true := bne_iff_ne.mpr c7
        (first | rw [c7b0] | (simp only [i64_w, i32_w]; rw [c7b0]) | skip)
        have H' := Aside0.mk H
        clear H
        go_wp2
        go_meet
        case rel => exact ⟨_, ((a0_1 == 3)), (by first | rfl | (simp; done) | (simp [*]; done)), H', ⟨by first | omega | exact Nat.le_refl _⟩, ⟨by (with_reducible repeat (first | refine blk_drewN ?_ _ | refine blk_drew ?_ | refine blk_alloc ?_ _)); exact BK335.out⟩, ⟨by repeat (first | (with_reducible first | exact HB.out | apply below_alloc | apply pw_below_drewN | apply below_drew1 | refine below_set ?_ GE335.out) | exact HB.out)⟩⟩
    case rest =>
      clear HC4
      try clear p2
      try clear c3
      try clear c5
      try clear c7
      try clear c7b0
      try clear c7b1
      try clear hcz6_0
      try clear hcz6_1
      try clear hcz6_2
      try clear hcz6_3
      try clear hcz6_4
      try clear hfz6_0
      try clear hfz6_1
      try clear hfz6_2
      try clear hfz6_3
      try clear hfz6_4
      obtain ⟨kq, x12_3, rfl, HA, HJ3, BK335, HB⟩ := hcut
      cases kq with
      | zero => exact absurd HA.out (by simp [symfile_May.j0])
      | succ kj3 =>
        have H := HA.out
        clear HA
        simp only [symfile_May.j0] at H
        by_cases c8 : x12_3 = true
        · subst c8
          have H1 : ((symfile_basic.f a0_2).bind fun t337 => (if t337 = true then (if ((l0_4.length : Int) = 0) then (if a0_1 = 1 then (some 0) else (if a0_3 < 0 then (some 141) else (some 0))) else (some 141)) else (some 141))) = some r := by rw [if_pos rfl] at H; exact H
          clear H
          have H := H1
          clear H1
          replace H := Option.bind_eq_some_iff.mp H
          obtain ⟨t337, A90, H⟩ := H
          replace H : (if t337 = true then (if ((l0_4.length : Int) = 0) then (if a0_1 = 1 then (some 0) else (if a0_3 < 0 then (some 141) else (some 0))) else (some 141)) else (some 141)) = some r := H
          have A9 := Aside0.mk A90
          clear A90
          by_cases c10 : t337 = true
          · subst c10
            have H1 : (if ((l0_4.length : Int) = 0) then (if a0_1 = 1 then (some 0) else (if a0_3 < 0 then (some 141) else (some 0))) else (some 141)) = some r := by rw [if_pos rfl] at H; exact H
            clear H
            have H := H1
            clear H1
            by_cases c11 : ((l0_4.length : Int) = 0)
            · rw [if_pos c11] at H
              have c11b0 : ((l0_4.length : Int) == 0) = true := beq_iff_eq.mpr c11
              have c11b1 : ((l0_4.length : Int) != 0) = false := bne_eq_false_iff_eq.mpr c11
              clear c11
              by_cases c12 : a0_1 = 1
              · rw [if_pos c12] at H
                have c12b0 : (a0_1 == 1) = true := beq_iff_eq.mpr c12
                have c12b1 : (a0_1 != 1) = false := bne_eq_false_iff_eq.mpr c12
                clear c12
                obtain rfl := Option.some.inj H
                have hcz13_0 : wc.cell? ⟨gb335, 0, none⟩ = some (.string a0_0) := (blk_cell BK335.out 0).trans rfl
                have hcz13_1 : wc.cell? ⟨gb335, 1, none⟩ = some (.int .i64 a0_1) := (blk_cell BK335.out 1).trans rfl
                have hcz13_2 : wc.cell? ⟨gb335, 2, none⟩ = some (.int .i64 a0_2) := (blk_cell BK335.out 2).trans rfl
                have hcz13_3 : wc.cell? ⟨gb335, 3, none⟩ = some (.int .i32 a0_3) := (blk_cell BK335.out 3).trans rfl
                have hcz13_4 : wc.cell? ⟨gb335, 4, none⟩ = some (.slice A0_4 l0_4.length c0_4) := (blk_cell BK335.out 4).trans rfl
                have hfz13_0 := blk_frozen BK335.out 0
                have hfz13_1 := blk_frozen BK335.out 1
                have hfz13_2 := blk_frozen BK335.out 2
                have hfz13_3 := blk_frozen BK335.out 3
                have hfz13_4 := blk_frozen BK335.out 4
                go_wp2_with (first | ((with_reducible refine gate_callee (f := 92) rfl ?_); refine goesL_ (some 17) rfl rfl Try.func92 (by kernel_rfl) rfl #[.int .i64 a0_2] rfl (by (try simp only [List.map_toArray, List.map_cons, List.map_nil]); first | done | rfl | (simp only [List.length_drop, List.length_take]; rfl)) ?_; (with_reducible refine (symfile_basic.calls a0_2 true _ A9.out).mono ?_); rintro e w' ⟨rfl, ⟨nd, rfl⟩⟩; refine ⟨_, rfl, ?_⟩))
                go_ret
                exact ⟨by first | rfl | (simp [errW_none, errW_some] <;> rfl) | (simp [*, errW_none, errW_some] <;> rfl), by repeat (first | (with_reducible first | exact HB.out | apply below_alloc | apply pw_below_drewN | apply below_drew1 | refine below_set ?_ GE335.out) | exact HB.out)⟩
              · rw [if_neg c12] at H
                have c12b0 : (a0_1 == 1) = false := beq_eq_false_iff_ne.mpr c12
                have c12b1 : (a0_1 != 1) = true := bne_iff_ne.mpr c12
                by_cases c14 : a0_3 < 0
                · rw [if_pos c14] at H
                  have c14b0 : decide (a0_3 < 0) = true := decide_eq_true c14
                  clear c14
                  obtain rfl := Option.some.inj H
                  have hcz15_0 : wc.cell? ⟨gb335, 0, none⟩ = some (.string a0_0) := (blk_cell BK335.out 0).trans rfl
                  have hcz15_1 : wc.cell? ⟨gb335, 1, none⟩ = some (.int .i64 a0_1) := (blk_cell BK335.out 1).trans rfl
                  have hcz15_2 : wc.cell? ⟨gb335, 2, none⟩ = some (.int .i64 a0_2) := (blk_cell BK335.out 2).trans rfl
                  have hcz15_3 : wc.cell? ⟨gb335, 3, none⟩ = some (.int .i32 a0_3) := (blk_cell BK335.out 3).trans rfl
                  have hcz15_4 : wc.cell? ⟨gb335, 4, none⟩ = some (.slice A0_4 l0_4.length c0_4) := (blk_cell BK335.out 4).trans rfl
                  have hfz15_0 := blk_frozen BK335.out 0
                  have hfz15_1 := blk_frozen BK335.out 1
                  have hfz15_2 := blk_frozen BK335.out 2
                  have hfz15_3 := blk_frozen BK335.out 3
                  have hfz15_4 := blk_frozen BK335.out 4
                  go_wp2_with (first | ((with_reducible refine gate_callee (f := 92) rfl ?_); refine goesL_ (some 17) rfl rfl Try.func92 (by kernel_rfl) rfl #[.int .i64 a0_2] rfl (by (try simp only [List.map_toArray, List.map_cons, List.map_nil]); first | done | rfl | (simp only [List.length_drop, List.length_take]; rfl)) ?_; (with_reducible refine (symfile_basic.calls a0_2 true _ A9.out).mono ?_); rintro e w' ⟨rfl, ⟨nd, rfl⟩⟩; refine ⟨_, rfl, ?_⟩))
                  go_ret
                  exact ⟨by first | rfl | (simp [errW_none, errW_some] <;> rfl) | (simp [*, errW_none, errW_some] <;> rfl), by repeat (first | (with_reducible first | exact HB.out | apply below_alloc | apply pw_below_drewN | apply below_drew1 | refine below_set ?_ GE335.out) | exact HB.out)⟩
                · rw [if_neg c14] at H
                  have c14b0 : decide (a0_3 < 0) = false := decide_eq_false c14
                  clear c14
                  obtain rfl := Option.some.inj H
                  have hcz16_0 : wc.cell? ⟨gb335, 0, none⟩ = some (.string a0_0) := (blk_cell BK335.out 0).trans rfl
                  have hcz16_1 : wc.cell? ⟨gb335, 1, none⟩ = some (.int .i64 a0_1) := (blk_cell BK335.out 1).trans rfl
                  have hcz16_2 : wc.cell? ⟨gb335, 2, none⟩ = some (.int .i64 a0_2) := (blk_cell BK335.out 2).trans rfl
                  have hcz16_3 : wc.cell? ⟨gb335, 3, none⟩ = some (.int .i32 a0_3) := (blk_cell BK335.out 3).trans rfl
                  have hcz16_4 : wc.cell? ⟨gb335, 4, none⟩ = some (.slice A0_4 l0_4.length c0_4) := (blk_cell BK335.out 4).trans rfl
                  have hfz16_0 := blk_frozen BK335.out 0
                  have hfz16_1 := blk_frozen BK335.out 1
                  have hfz16_2 := blk_frozen BK335.out 2
                  have hfz16_3 := blk_frozen BK335.out 3
                  have hfz16_4 := blk_frozen BK335.out 4
                  go_wp2_with (first | ((with_reducible refine gate_callee (f := 92) rfl ?_); refine goesL_ (some 17) rfl rfl Try.func92 (by kernel_rfl) rfl #[.int .i64 a0_2] rfl (by (try simp only [List.map_toArray, List.map_cons, List.map_nil]); first | done | rfl | (simp only [List.length_drop, List.length_take]; rfl)) ?_; (with_reducible refine (symfile_basic.calls a0_2 true _ A9.out).mono ?_); rintro e w' ⟨rfl, ⟨nd, rfl⟩⟩; refine ⟨_, rfl, ?_⟩))
                  go_ret
                  exact ⟨by first | rfl | (simp [errW_none, errW_some] <;> rfl) | (simp [*, errW_none, errW_some] <;> rfl), by repeat (first | (with_reducible first | exact HB.out | apply below_alloc | apply pw_below_drewN | apply below_drew1 | refine below_set ?_ GE335.out) | exact HB.out)⟩
            · rw [if_neg c11] at H
              have c11b0 : ((l0_4.length : Int) == 0) = false := beq_eq_false_iff_ne.mpr c11
              have c11b1 : ((l0_4.length : Int) != 0) = true := bne_iff_ne.mpr c11
              have c11b2 : ¬ (l0_4 = []) := fun h_ => c11 (by rw [h_]; rfl)
              obtain rfl := Option.some.inj H
              have hcz17_0 : wc.cell? ⟨gb335, 0, none⟩ = some (.string a0_0) := (blk_cell BK335.out 0).trans rfl
              have hcz17_1 : wc.cell? ⟨gb335, 1, none⟩ = some (.int .i64 a0_1) := (blk_cell BK335.out 1).trans rfl
              have hcz17_2 : wc.cell? ⟨gb335, 2, none⟩ = some (.int .i64 a0_2) := (blk_cell BK335.out 2).trans rfl
              have hcz17_3 : wc.cell? ⟨gb335, 3, none⟩ = some (.int .i32 a0_3) := (blk_cell BK335.out 3).trans rfl
              have hcz17_4 : wc.cell? ⟨gb335, 4, none⟩ = some (.slice A0_4 l0_4.length c0_4) := (blk_cell BK335.out 4).trans rfl
              have hfz17_0 := blk_frozen BK335.out 0
              have hfz17_1 := blk_frozen BK335.out 1
              have hfz17_2 := blk_frozen BK335.out 2
              have hfz17_3 := blk_frozen BK335.out 3
              have hfz17_4 := blk_frozen BK335.out 4
              go_wp2_with (first | ((with_reducible refine gate_callee (f := 92) rfl ?_); refine goesL_ (some 17) rfl rfl Try.func92 (by kernel_rfl) rfl #[.int .i64 a0_2] rfl (by (try simp only [List.map_toArray, List.map_cons, List.map_nil]); first | done | rfl | (simp only [List.length_drop, List.length_take]; rfl)) ?_; (with_reducible refine (symfile_basic.calls a0_2 true _ A9.out).mono ?_); rintro e w' ⟨rfl, ⟨nd, rfl⟩⟩; refine ⟨_, rfl, ?_⟩))
              go_ret
              exact ⟨by first | rfl | (simp [errW_none, errW_some] <;> rfl) | (simp [*, errW_none, errW_some] <;> rfl), by repeat (first | (with_reducible first | exact HB.out | apply below_alloc | apply pw_below_drewN | apply below_drew1 | refine below_set ?_ GE335.out) | exact HB.out)⟩
          · replace c10 := Bool.eq_false_iff.mpr c10
            subst c10
            have H1 : (some 141) = some r := by rw [if_neg (show ¬ (false = true) by decide)] at H; exact H
            clear H
            have H := H1
            clear H1
            obtain rfl := Option.some.inj H
            have hcz18_0 : wc.cell? ⟨gb335, 0, none⟩ = some (.string a0_0) := (blk_cell BK335.out 0).trans rfl
            have hcz18_1 : wc.cell? ⟨gb335, 1, none⟩ = some (.int .i64 a0_1) := (blk_cell BK335.out 1).trans rfl
            have hcz18_2 : wc.cell? ⟨gb335, 2, none⟩ = some (.int .i64 a0_2) := (blk_cell BK335.out 2).trans rfl
            have hcz18_3 : wc.cell? ⟨gb335, 3, none⟩ = some (.int .i32 a0_3) := (blk_cell BK335.out 3).trans rfl
            have hcz18_4 : wc.cell? ⟨gb335, 4, none⟩ = some (.slice A0_4 l0_4.length c0_4) := (blk_cell BK335.out 4).trans rfl
            have hfz18_0 := blk_frozen BK335.out 0
            have hfz18_1 := blk_frozen BK335.out 1
            have hfz18_2 := blk_frozen BK335.out 2
            have hfz18_3 := blk_frozen BK335.out 3
            have hfz18_4 := blk_frozen BK335.out 4
            go_wp2_with (first | ((with_reducible refine gate_callee (f := 92) rfl ?_); refine goesL_ (some 17) rfl rfl Try.func92 (by kernel_rfl) rfl #[.int .i64 a0_2] rfl (by (try simp only [List.map_toArray, List.map_cons, List.map_nil]); first | done | rfl | (simp only [List.length_drop, List.length_take]; rfl)) ?_; (with_reducible refine (symfile_basic.calls a0_2 false _ A9.out).mono ?_); rintro e w' ⟨rfl, ⟨nd, rfl⟩⟩; refine ⟨_, rfl, ?_⟩))
            go_ret
            exact ⟨by first | rfl | (simp [errW_none, errW_some] <;> rfl) | (simp [*, errW_none, errW_some] <;> rfl), by repeat (first | (with_reducible first | exact HB.out | apply below_alloc | apply pw_below_drewN | apply below_drew1 | refine below_set ?_ GE335.out) | exact HB.out)⟩
        · replace c8 := Bool.eq_false_iff.mpr c8
          subst c8
          have H1 : (if a0_1 = 7 then (if a0_2 = 0 then (if ((l0_4.length : Int) = 0) then (if a0_1 = 1 then (some 0) else (if a0_3 < 0 then (some 141) else (some 0))) else (some 141)) else (some 141)) else (if a0_1 = 6 then (if a0_2 = 0 then (symfile_May.j1 kj3 (decide ((l0_4.length : Int) ≤ 16)) a0_0 a0_1 a0_2 a0_3 l0_4) else ((symfile_basic.f a0_2).bind fun t338 => (if t338 = true then (symfile_May.j1 kj3 (decide ((l0_4.length : Int) ≤ 16)) a0_0 a0_1 a0_2 a0_3 l0_4) else (symfile_May.j1 kj3 false a0_0 a0_1 a0_2 a0_3 l0_4)))) else (if false = true then (if a0_1 = 1 then (some 0) else (if a0_3 < 0 then (some 141) else (some 0))) else (some 141)))) = some r := by rw [if_neg (show ¬ (false = true) by decide)] at H; exact H
          clear H
          have H := H1
          clear H1
          by_cases c19 : a0_1 = 7
          · rw [if_pos c19] at H
            have c19b0 : (a0_1 == 7) = true := beq_iff_eq.mpr c19
            have c19b1 : (a0_1 != 7) = false := bne_eq_false_iff_eq.mpr c19
            clear c19
            by_cases c20 : a0_2 = 0
            · rw [if_pos c20] at H
              have c20b0 : (a0_2 == 0) = true := beq_iff_eq.mpr c20
              have c20b1 : (a0_2 != 0) = false := bne_eq_false_iff_eq.mpr c20
              clear c20
              by_cases c21 : ((l0_4.length : Int) = 0)
              · rw [if_pos c21] at H
                have c21b0 : ((l0_4.length : Int) == 0) = true := beq_iff_eq.mpr c21
                have c21b1 : ((l0_4.length : Int) != 0) = false := bne_eq_false_iff_eq.mpr c21
                clear c21
                by_cases c22 : a0_1 = 1
                · rw [if_pos c22] at H
                  have c22b0 : (a0_1 == 1) = true := beq_iff_eq.mpr c22
                  have c22b1 : (a0_1 != 1) = false := bne_eq_false_iff_eq.mpr c22
                  clear c22
                  obtain rfl := Option.some.inj H
                  have hcz23_0 : wc.cell? ⟨gb335, 0, none⟩ = some (.string a0_0) := (blk_cell BK335.out 0).trans rfl
                  have hcz23_1 : wc.cell? ⟨gb335, 1, none⟩ = some (.int .i64 a0_1) := (blk_cell BK335.out 1).trans rfl
                  have hcz23_2 : wc.cell? ⟨gb335, 2, none⟩ = some (.int .i64 a0_2) := (blk_cell BK335.out 2).trans rfl
                  have hcz23_3 : wc.cell? ⟨gb335, 3, none⟩ = some (.int .i32 a0_3) := (blk_cell BK335.out 3).trans rfl
                  have hcz23_4 : wc.cell? ⟨gb335, 4, none⟩ = some (.slice A0_4 l0_4.length c0_4) := (blk_cell BK335.out 4).trans rfl
                  have hfz23_0 := blk_frozen BK335.out 0
                  have hfz23_1 := blk_frozen BK335.out 1
                  have hfz23_2 := blk_frozen BK335.out 2
                  have hfz23_3 := blk_frozen BK335.out 3
                  have hfz23_4 := blk_frozen BK335.out 4
                  go_wp2
                  go_ret
                  exact ⟨by first | rfl | (simp [errW_none, errW_some] <;> rfl) | (simp [*, errW_none, errW_some] <;> rfl), by repeat (first | (with_reducible first | exact HB.out | apply below_alloc | apply pw_below_drewN | apply below_drew1 | refine below_set ?_ GE335.out) | exact HB.out)⟩
                · rw [if_neg c22] at H
                  have c22b0 : (a0_1 == 1) = false := beq_eq_false_iff_ne.mpr c22
                  have c22b1 : (a0_1 != 1) = true := bne_iff_ne.mpr c22
                  by_cases c24 : a0_3 < 0
                  · rw [if_pos c24] at H
                    have c24b0 : decide (a0_3 < 0) = true := decide_eq_true c24
                    clear c24
                    obtain rfl := Option.some.inj H
                    have hcz25_0 : wc.cell? ⟨gb335, 0, none⟩ = some (.string a0_0) := (blk_cell BK335.out 0).trans rfl
                    have hcz25_1 : wc.cell? ⟨gb335, 1, none⟩ = some (.int .i64 a0_1) := (blk_cell BK335.out 1).trans rfl
                    have hcz25_2 : wc.cell? ⟨gb335, 2, none⟩ = some (.int .i64 a0_2) := (blk_cell BK335.out 2).trans rfl
                    have hcz25_3 : wc.cell? ⟨gb335, 3, none⟩ = some (.int .i32 a0_3) := (blk_cell BK335.out 3).trans rfl
                    have hcz25_4 : wc.cell? ⟨gb335, 4, none⟩ = some (.slice A0_4 l0_4.length c0_4) := (blk_cell BK335.out 4).trans rfl
                    have hfz25_0 := blk_frozen BK335.out 0
                    have hfz25_1 := blk_frozen BK335.out 1
                    have hfz25_2 := blk_frozen BK335.out 2
                    have hfz25_3 := blk_frozen BK335.out 3
                    have hfz25_4 := blk_frozen BK335.out 4
                    go_wp2
                    go_ret
                    exact ⟨by first | rfl | (simp [errW_none, errW_some] <;> rfl) | (simp [*, errW_none, errW_some] <;> rfl), by repeat (first | (with_reducible first | exact HB.out | apply below_alloc | apply pw_below_drewN | apply below_drew1 | refine below_set ?_ GE335.out) | exact HB.out)⟩
                  · rw [if_neg c24] at H
                    have c24b0 : decide (a0_3 < 0) = false := decide_eq_false c24
                    clear c24
                    obtain rfl := Option.some.inj H
                    have hcz26_0 : wc.cell? ⟨gb335, 0, none⟩ = some (.string a0_0) := (blk_cell BK335.out 0).trans rfl
                    have hcz26_1 : wc.cell? ⟨gb335, 1, none⟩ = some (.int .i64 a0_1) := (blk_cell BK335.out 1).trans rfl
                    have hcz26_2 : wc.cell? ⟨gb335, 2, none⟩ = some (.int .i64 a0_2) := (blk_cell BK335.out 2).trans rfl
                    have hcz26_3 : wc.cell? ⟨gb335, 3, none⟩ = some (.int .i32 a0_3) := (blk_cell BK335.out 3).trans rfl
                    have hcz26_4 : wc.cell? ⟨gb335, 4, none⟩ = some (.slice A0_4 l0_4.length c0_4) := (blk_cell BK335.out 4).trans rfl
                    have hfz26_0 := blk_frozen BK335.out 0
                    have hfz26_1 := blk_frozen BK335.out 1
                    have hfz26_2 := blk_frozen BK335.out 2
                    have hfz26_3 := blk_frozen BK335.out 3
                    have hfz26_4 := blk_frozen BK335.out 4
                    go_wp2
                    go_ret
                    exact ⟨by first | rfl | (simp [errW_none, errW_some] <;> rfl) | (simp [*, errW_none, errW_some] <;> rfl), by repeat (first | (with_reducible first | exact HB.out | apply below_alloc | apply pw_below_drewN | apply below_drew1 | refine below_set ?_ GE335.out) | exact HB.out)⟩
              · rw [if_neg c21] at H
                have c21b0 : ((l0_4.length : Int) == 0) = false := beq_eq_false_iff_ne.mpr c21
                have c21b1 : ((l0_4.length : Int) != 0) = true := bne_iff_ne.mpr c21
                have c21b2 : ¬ (l0_4 = []) := fun h_ => c21 (by rw [h_]; rfl)
                obtain rfl := Option.some.inj H
                have hcz27_0 : wc.cell? ⟨gb335, 0, none⟩ = some (.string a0_0) := (blk_cell BK335.out 0).trans rfl
                have hcz27_1 : wc.cell? ⟨gb335, 1, none⟩ = some (.int .i64 a0_1) := (blk_cell BK335.out 1).trans rfl
                have hcz27_2 : wc.cell? ⟨gb335, 2, none⟩ = some (.int .i64 a0_2) := (blk_cell BK335.out 2).trans rfl
                have hcz27_3 : wc.cell? ⟨gb335, 3, none⟩ = some (.int .i32 a0_3) := (blk_cell BK335.out 3).trans rfl
                have hcz27_4 : wc.cell? ⟨gb335, 4, none⟩ = some (.slice A0_4 l0_4.length c0_4) := (blk_cell BK335.out 4).trans rfl
                have hfz27_0 := blk_frozen BK335.out 0
                have hfz27_1 := blk_frozen BK335.out 1
                have hfz27_2 := blk_frozen BK335.out 2
                have hfz27_3 := blk_frozen BK335.out 3
                have hfz27_4 := blk_frozen BK335.out 4
                go_wp2
                go_ret
                exact ⟨by first | rfl | (simp [errW_none, errW_some] <;> rfl) | (simp [*, errW_none, errW_some] <;> rfl), by repeat (first | (with_reducible first | exact HB.out | apply below_alloc | apply pw_below_drewN | apply below_drew1 | refine below_set ?_ GE335.out) | exact HB.out)⟩
            · rw [if_neg c20] at H
              have c20b0 : (a0_2 == 0) = false := beq_eq_false_iff_ne.mpr c20
              have c20b1 : (a0_2 != 0) = true := bne_iff_ne.mpr c20
              obtain rfl := Option.some.inj H
              have hcz28_0 : wc.cell? ⟨gb335, 0, none⟩ = some (.string a0_0) := (blk_cell BK335.out 0).trans rfl
              have hcz28_1 : wc.cell? ⟨gb335, 1, none⟩ = some (.int .i64 a0_1) := (blk_cell BK335.out 1).trans rfl
              have hcz28_2 : wc.cell? ⟨gb335, 2, none⟩ = some (.int .i64 a0_2) := (blk_cell BK335.out 2).trans rfl
              have hcz28_3 : wc.cell? ⟨gb335, 3, none⟩ = some (.int .i32 a0_3) := (blk_cell BK335.out 3).trans rfl
              have hcz28_4 : wc.cell? ⟨gb335, 4, none⟩ = some (.slice A0_4 l0_4.length c0_4) := (blk_cell BK335.out 4).trans rfl
              have hfz28_0 := blk_frozen BK335.out 0
              have hfz28_1 := blk_frozen BK335.out 1
              have hfz28_2 := blk_frozen BK335.out 2
              have hfz28_3 := blk_frozen BK335.out 3
              have hfz28_4 := blk_frozen BK335.out 4
              go_wp2
              go_ret
              exact ⟨by first | rfl | (simp [errW_none, errW_some] <;> rfl) | (simp [*, errW_none, errW_some] <;> rfl), by repeat (first | (with_reducible first | exact HB.out | apply below_alloc | apply pw_below_drewN | apply below_drew1 | refine below_set ?_ GE335.out) | exact HB.out)⟩
          · rw [if_neg c19] at H
            have c19b0 : (a0_1 == 7) = false := beq_eq_false_iff_ne.mpr c19
            have c19b1 : (a0_1 != 7) = true := bne_iff_ne.mpr c19
            by_cases c29 : a0_1 = 6
            · rw [if_pos c29] at H
              have c29b0 : (a0_1 == 6) = true := beq_iff_eq.mpr c29
              have c29b1 : (a0_1 != 6) = false := bne_eq_false_iff_eq.mpr c29
              clear c29
              have HC30 := Aside0.mk H
              clear H
              go_upto_region 11 with (fail)
              go_cut [3] (fun v3 wc => ∃ (kq : Nat) (x3_29 : Bool), v3 = .bool x3_29 ∧ Aside0 (symfile_May.j1 kq x3_29 a0_0 a0_1 a0_2 a0_3 l0_4 = some r) ∧ Aside0 (kq ≤ kj3) ∧ Aside0 (wc.heap[gb335]? = some (.cells #[.string a0_0, .int .i64 a0_1, .int .i64 a0_2, .int .i32 a0_3, (.slice A0_4 l0_4.length c0_4)] 80 (0, 0))) ∧ Aside0 (Below w.heap.size w wc))
              case first =>
                have H := HC30.out
                clear HC30
                by_cases c31 : a0_2 = 0
                · rw [if_pos c31] at H
                  have c31b0 : (a0_2 == 0) = true := beq_iff_eq.mpr c31
                  have c31b1 : (a0_2 != 0) = false := bne_eq_false_iff_eq.mpr c31
                  clear c31
                  (first | rw [c31b0] | (simp only [i64_w, i32_w]; rw [c31b0]) | skip)
                  have H' := Aside0.mk H
                  clear H
                  have hcz32_0 : wc.cell? ⟨gb335, 0, none⟩ = some (.string a0_0) := (blk_cell BK335.out 0).trans rfl
                  have hcz32_1 : wc.cell? ⟨gb335, 1, none⟩ = some (.int .i64 a0_1) := (blk_cell BK335.out 1).trans rfl
                  have hcz32_2 : wc.cell? ⟨gb335, 2, none⟩ = some (.int .i64 a0_2) := (blk_cell BK335.out 2).trans rfl
                  have hcz32_3 : wc.cell? ⟨gb335, 3, none⟩ = some (.int .i32 a0_3) := (blk_cell BK335.out 3).trans rfl
                  have hcz32_4 : wc.cell? ⟨gb335, 4, none⟩ = some (.slice A0_4 l0_4.length c0_4) := (blk_cell BK335.out 4).trans rfl
                  have hfz32_0 := blk_frozen BK335.out 0
                  have hfz32_1 := blk_frozen BK335.out 1
                  have hfz32_2 := blk_frozen BK335.out 2
                  have hfz32_3 := blk_frozen BK335.out 3
                  have hfz32_4 := blk_frozen BK335.out 4
                  go_wp2
                  go_meet
                  case rel => exact ⟨_, (decide ((l0_4.length : Int) ≤ 16)), (by first | rfl | (simp; done) | (simp [*]; done)), H', ⟨by have := HJ3.out; first | omega | exact Nat.le_refl _⟩, ⟨by (with_reducible repeat (first | refine blk_drewN ?_ _ | refine blk_drew ?_ | refine blk_alloc ?_ _)); exact BK335.out⟩, ⟨by repeat (first | (with_reducible first | exact HB.out | apply below_alloc | apply pw_below_drewN | apply below_drew1 | refine below_set ?_ GE335.out) | exact HB.out)⟩⟩
                · rw [if_neg c31] at H
                  have c31b0 : (a0_2 == 0) = false := beq_eq_false_iff_ne.mpr c31
                  have c31b1 : (a0_2 != 0) = true := bne_iff_ne.mpr c31
                  (first | rw [c31b0] | (simp only [i64_w, i32_w]; rw [c31b0]) | skip)
                  replace H := Option.bind_eq_some_iff.mp H
                  obtain ⟨t338, A330, H⟩ := H
                  replace H : (if t338 = true then (symfile_May.j1 kj3 (decide ((l0_4.length : Int) ≤ 16)) a0_0 a0_1 a0_2 a0_3 l0_4) else (symfile_May.j1 kj3 false a0_0 a0_1 a0_2 a0_3 l0_4)) = some r := H
                  have A33 := Aside0.mk A330
                  clear A330
                  by_cases c34 : t338 = true
                  · subst c34
                    have H1 : (symfile_May.j1 kj3 (decide ((l0_4.length : Int) ≤ 16)) a0_0 a0_1 a0_2 a0_3 l0_4) = some r := by rw [if_pos rfl] at H; exact H
                    clear H
                    have H := H1
                    clear H1
                    have H' := Aside0.mk H
                    clear H
                    have hcz35_0 : wc.cell? ⟨gb335, 0, none⟩ = some (.string a0_0) := (blk_cell BK335.out 0).trans rfl
                    have hcz35_1 : wc.cell? ⟨gb335, 1, none⟩ = some (.int .i64 a0_1) := (blk_cell BK335.out 1).trans rfl
                    have hcz35_2 : wc.cell? ⟨gb335, 2, none⟩ = some (.int .i64 a0_2) := (blk_cell BK335.out 2).trans rfl
                    have hcz35_3 : wc.cell? ⟨gb335, 3, none⟩ = some (.int .i32 a0_3) := (blk_cell BK335.out 3).trans rfl
                    have hcz35_4 : wc.cell? ⟨gb335, 4, none⟩ = some (.slice A0_4 l0_4.length c0_4) := (blk_cell BK335.out 4).trans rfl
                    have hfz35_0 := blk_frozen BK335.out 0
                    have hfz35_1 := blk_frozen BK335.out 1
                    have hfz35_2 := blk_frozen BK335.out 2
                    have hfz35_3 := blk_frozen BK335.out 3
                    have hfz35_4 := blk_frozen BK335.out 4
                    go_wp2_with (first | (go_at_call 92; (with_reducible refine (symfile_basic.calls a0_2 true _ A33.out).mono ?_); rintro e w' ⟨rfl, ⟨nd, rfl⟩⟩))
                    go_meet
                    case rel => exact ⟨_, (decide ((l0_4.length : Int) ≤ 16)), (by first | rfl | (simp; done) | (simp [*]; done)), H', ⟨by have := HJ3.out; first | omega | exact Nat.le_refl _⟩, ⟨by (with_reducible repeat (first | refine blk_drewN ?_ _ | refine blk_drew ?_ | refine blk_alloc ?_ _)); exact BK335.out⟩, ⟨by repeat (first | (with_reducible first | exact HB.out | apply below_alloc | apply pw_below_drewN | apply below_drew1 | refine below_set ?_ GE335.out) | exact HB.out)⟩⟩
                  · replace c34 := Bool.eq_false_iff.mpr c34
                    subst c34
                    have H1 : (symfile_May.j1 kj3 false a0_0 a0_1 a0_2 a0_3 l0_4) = some r := by rw [if_neg (show ¬ (false = true) by decide)] at H; exact H
                    clear H
                    have H := H1
                    clear H1
                    have H' := Aside0.mk H
                    clear H
                    have hcz36_0 : wc.cell? ⟨gb335, 0, none⟩ = some (.string a0_0) := (blk_cell BK335.out 0).trans rfl
                    have hcz36_1 : wc.cell? ⟨gb335, 1, none⟩ = some (.int .i64 a0_1) := (blk_cell BK335.out 1).trans rfl
                    have hcz36_2 : wc.cell? ⟨gb335, 2, none⟩ = some (.int .i64 a0_2) := (blk_cell BK335.out 2).trans rfl
                    have hcz36_3 : wc.cell? ⟨gb335, 3, none⟩ = some (.int .i32 a0_3) := (blk_cell BK335.out 3).trans rfl
                    have hcz36_4 : wc.cell? ⟨gb335, 4, none⟩ = some (.slice A0_4 l0_4.length c0_4) := (blk_cell BK335.out 4).trans rfl
                    have hfz36_0 := blk_frozen BK335.out 0
                    have hfz36_1 := blk_frozen BK335.out 1
                    have hfz36_2 := blk_frozen BK335.out 2
                    have hfz36_3 := blk_frozen BK335.out 3
                    have hfz36_4 := blk_frozen BK335.out 4
                    go_wp2_with (first | (go_at_call 92; (with_reducible refine (symfile_basic.calls a0_2 false _ A33.out).mono ?_); rintro e w' ⟨rfl, ⟨nd, rfl⟩⟩))
                    go_meet
                    case rel => exact ⟨_, (false), (by first | rfl | (simp; done) | (simp [*]; done)), H', ⟨by have := HJ3.out; first | omega | exact Nat.le_refl _⟩, ⟨by (with_reducible repeat (first | refine blk_drewN ?_ _ | refine blk_drew ?_ | refine blk_alloc ?_ _)); exact BK335.out⟩, ⟨by repeat (first | (with_reducible first | exact HB.out | apply below_alloc | apply pw_below_drewN | apply below_drew1 | refine below_set ?_ GE335.out) | exact HB.out)⟩⟩
              case rest =>
                clear HC30
                try clear c1
                try clear c2
                try clear p2
                try clear c3
                try clear c5
                try clear c7
                try clear c7b0
                try clear c7b1
                try clear c8
                try clear c9
                try clear c10
                try clear c11
                try clear c11b0
                try clear c11b1
                try clear c11b2
                try clear c12
                try clear c12b0
                try clear c12b1
                try clear c14
                try clear c14b0
                try clear c19
                try clear c19b0
                try clear c19b1
                try clear c20
                try clear c20b0
                try clear c20b1
                try clear c21
                try clear c21b0
                try clear c21b1
                try clear c21b2
                try clear c22
                try clear c22b0
                try clear c22b1
                try clear c24
                try clear c24b0
                try clear c29
                try clear c29b0
                try clear c29b1
                try clear c31
                try clear c31b0
                try clear c31b1
                try clear c34
                try clear hcz13_0
                try clear hcz13_1
                try clear hcz13_2
                try clear hcz13_3
                try clear hcz13_4
                try clear hcz15_0
                try clear hcz15_1
                try clear hcz15_2
                try clear hcz15_3
                try clear hcz15_4
                try clear hcz16_0
                try clear hcz16_1
                try clear hcz16_2
                try clear hcz16_3
                try clear hcz16_4
                try clear hcz17_0
                try clear hcz17_1
                try clear hcz17_2
                try clear hcz17_3
                try clear hcz17_4
                try clear hcz18_0
                try clear hcz18_1
                try clear hcz18_2
                try clear hcz18_3
                try clear hcz18_4
                try clear hcz23_0
                try clear hcz23_1
                try clear hcz23_2
                try clear hcz23_3
                try clear hcz23_4
                try clear hcz25_0
                try clear hcz25_1
                try clear hcz25_2
                try clear hcz25_3
                try clear hcz25_4
                try clear hcz26_0
                try clear hcz26_1
                try clear hcz26_2
                try clear hcz26_3
                try clear hcz26_4
                try clear hcz27_0
                try clear hcz27_1
                try clear hcz27_2
                try clear hcz27_3
                try clear hcz27_4
                try clear hcz28_0
                try clear hcz28_1
                try clear hcz28_2
                try clear hcz28_3
                try clear hcz28_4
                try clear hcz32_0
                try clear hcz32_1
                try clear hcz32_2
                try clear hcz32_3
                try clear hcz32_4
                try clear hcz35_0
                try clear hcz35_1
                try clear hcz35_2
                try clear hcz35_3
                try clear hcz35_4
                try clear hcz36_0
                try clear hcz36_1
                try clear hcz36_2
                try clear hcz36_3
                try clear hcz36_4
                try clear hcz6_0
                try clear hcz6_1
                try clear hcz6_2
                try clear hcz6_3
                try clear hcz6_4
                try clear hfz13_0
                try clear hfz13_1
                try clear hfz13_2
                try clear hfz13_3
                try clear hfz13_4
                try clear hfz15_0
                try clear hfz15_1
                try clear hfz15_2
                try clear hfz15_3
                try clear hfz15_4
                try clear hfz16_0
                try clear hfz16_1
                try clear hfz16_2
                try clear hfz16_3
                try clear hfz16_4
                try clear hfz17_0
                try clear hfz17_1
                try clear hfz17_2
                try clear hfz17_3
                try clear hfz17_4
                try clear hfz18_0
                try clear hfz18_1
                try clear hfz18_2
                try clear hfz18_3
                try clear hfz18_4
                try clear hfz23_0
                try clear hfz23_1
                try clear hfz23_2
                try clear hfz23_3
                try clear hfz23_4
                try clear hfz25_0
                try clear hfz25_1
                try clear hfz25_2
                try clear hfz25_3
                try clear hfz25_4
                try clear hfz26_0
                try clear hfz26_1
                try clear hfz26_2
                try clear hfz26_3
                try clear hfz26_4
                try clear hfz27_0
                try clear hfz27_1
                try clear hfz27_2
                try clear hfz27_3
                try clear hfz27_4
                try clear hfz28_0
                try clear hfz28_1
                try clear hfz28_2
                try clear hfz28_3
                try clear hfz28_4
                try clear hfz32_0
                try clear hfz32_1
                try clear hfz32_2
                try clear hfz32_3
                try clear hfz32_4
                try clear hfz35_0
                try clear hfz35_1
                try clear hfz35_2
                try clear hfz35_3
                try clear hfz35_4
                try clear hfz36_0
                try clear hfz36_1
                try clear hfz36_2
                try clear hfz36_3
                try clear hfz36_4
                try clear hfz6_0
                try clear hfz6_1
                try clear hfz6_2
                try clear hfz6_3
                try clear hfz6_4
                try clear p2
                obtain ⟨kq, x3_29, rfl, HA, HJ29, BK335, HB⟩ := hcut
                cases kq with
                | zero => exact absurd HA.out (by simp [symfile_May.j1])
                | succ kj29 =>
                  have H := HA.out
                  clear HA
                  simp only [symfile_May.j1] at H
                  have H' := Aside0.mk H
                  clear H
                  have hcz37_0 : wc.cell? ⟨gb335, 0, none⟩ = some (.string a0_0) := (blk_cell BK335.out 0).trans rfl
                  have hcz37_1 : wc.cell? ⟨gb335, 1, none⟩ = some (.int .i64 a0_1) := (blk_cell BK335.out 1).trans rfl
                  have hcz37_2 : wc.cell? ⟨gb335, 2, none⟩ = some (.int .i64 a0_2) := (blk_cell BK335.out 2).trans rfl
                  have hcz37_3 : wc.cell? ⟨gb335, 3, none⟩ = some (.int .i32 a0_3) := (blk_cell BK335.out 3).trans rfl
                  have hcz37_4 : wc.cell? ⟨gb335, 4, none⟩ = some (.slice A0_4 l0_4.length c0_4) := (blk_cell BK335.out 4).trans rfl
                  have hfz37_0 := blk_frozen BK335.out 0
                  have hfz37_1 := blk_frozen BK335.out 1
                  have hfz37_2 := blk_frozen BK335.out 2
                  have hfz37_3 := blk_frozen BK335.out 3
                  have hfz37_4 := blk_frozen BK335.out 4
                  go_wp2
                  go_loopg [3, 54] kj29 (fun kq v3 v54 w' => ∃ (x3_3 : Bool) (x54_3 : Int), v3 = .bool x3_3 ∧ v54 = .int .i64 x54_3 ∧ Aside0 (symfile_May.l0 kq x3_3 l0_4 (l0_4.length : Int) x54_3 a0_0 a0_1 a0_2 a0_3 l0_4 = some r) ∧ Aside0 (kq ≤ kj29) ∧ Aside0 (w'.heap[gb335]? = some (.cells #[.string a0_0, .int .i64 a0_1, .int .i64 a0_2, .int .i32 a0_3, (.slice A0_4 l0_4.length c0_4)] 80 (0, 0))) ∧ Aside0 (Below w.heap.size w w'))
                  case atStart => exact ⟨(x3_29), (0), (by first | rfl | (simp; done) | (simp [*]; done)), (by first | rfl | (simp; done) | (simp [*]; done)), H', ⟨Nat.le_refl _⟩, ⟨by (with_reducible repeat (first | refine blk_drewN ?_ _ | refine blk_drew ?_ | refine blk_alloc ?_ _)); exact BK335.out⟩, ⟨by repeat (first | (with_reducible first | exact HB.out | apply below_alloc | apply pw_below_drewN | apply below_drew1 | refine below_set ?_ GE335.out) | exact HB.out)⟩⟩
                  case round =>
                    clear H'
                    try clear c1
                    try clear c2
                    try clear p2
                    try clear c3
                    try clear c5
                    try clear c7
                    try clear c7b0
                    try clear c7b1
                    try clear c8
                    try clear c9
                    try clear c10
                    try clear c11
                    try clear c11b0
                    try clear c11b1
                    try clear c11b2
                    try clear c12
                    try clear c12b0
                    try clear c12b1
                    try clear c14
                    try clear c14b0
                    try clear c19
                    try clear c19b0
                    try clear c19b1
                    try clear c20
                    try clear c20b0
                    try clear c20b1
                    try clear c21
                    try clear c21b0
                    try clear c21b1
                    try clear c21b2
                    try clear c22
                    try clear c22b0
                    try clear c22b1
                    try clear c24
                    try clear c24b0
                    try clear c29
                    try clear c29b0
                    try clear c29b1
                    try clear c31
                    try clear c31b0
                    try clear c31b1
                    try clear c34
                    try clear hcz13_0
                    try clear hcz13_1
                    try clear hcz13_2
                    try clear hcz13_3
                    try clear hcz13_4
                    try clear hcz15_0
                    try clear hcz15_1
                    try clear hcz15_2
                    try clear hcz15_3
                    try clear hcz15_4
                    try clear hcz16_0
                    try clear hcz16_1
                    try clear hcz16_2
                    try clear hcz16_3
                    try clear hcz16_4
                    try clear hcz17_0
                    try clear hcz17_1
                    try clear hcz17_2
                    try clear hcz17_3
                    try clear hcz17_4
                    try clear hcz18_0
                    try clear hcz18_1
                    try clear hcz18_2
                    try clear hcz18_3
                    try clear hcz18_4
                    try clear hcz23_0
                    try clear hcz23_1
                    try clear hcz23_2
                    try clear hcz23_3
                    try clear hcz23_4
                    try clear hcz25_0
                    try clear hcz25_1
                    try clear hcz25_2
                    try clear hcz25_3
                    try clear hcz25_4
                    try clear hcz26_0
                    try clear hcz26_1
                    try clear hcz26_2
                    try clear hcz26_3
                    try clear hcz26_4
                    try clear hcz27_0
                    try clear hcz27_1
                    try clear hcz27_2
                    try clear hcz27_3
                    try clear hcz27_4
                    try clear hcz28_0
                    try clear hcz28_1
                    try clear hcz28_2
                    try clear hcz28_3
                    try clear hcz28_4
                    try clear hcz32_0
                    try clear hcz32_1
                    try clear hcz32_2
                    try clear hcz32_3
                    try clear hcz32_4
                    try clear hcz35_0
                    try clear hcz35_1
                    try clear hcz35_2
                    try clear hcz35_3
                    try clear hcz35_4
                    try clear hcz36_0
                    try clear hcz36_1
                    try clear hcz36_2
                    try clear hcz36_3
                    try clear hcz36_4
                    try clear hcz37_0
                    try clear hcz37_1
                    try clear hcz37_2
                    try clear hcz37_3
                    try clear hcz37_4
                    try clear hcz6_0
                    try clear hcz6_1
                    try clear hcz6_2
                    try clear hcz6_3
                    try clear hcz6_4
                    try clear hfz13_0
                    try clear hfz13_1
                    try clear hfz13_2
                    try clear hfz13_3
                    try clear hfz13_4
                    try clear hfz15_0
                    try clear hfz15_1
                    try clear hfz15_2
                    try clear hfz15_3
                    try clear hfz15_4
                    try clear hfz16_0
                    try clear hfz16_1
                    try clear hfz16_2
                    try clear hfz16_3
                    try clear hfz16_4
                    try clear hfz17_0
                    try clear hfz17_1
                    try clear hfz17_2
                    try clear hfz17_3
                    try clear hfz17_4
                    try clear hfz18_0
                    try clear hfz18_1
                    try clear hfz18_2
                    try clear hfz18_3
                    try clear hfz18_4
                    try clear hfz23_0
                    try clear hfz23_1
                    try clear hfz23_2
                    try clear hfz23_3
                    try clear hfz23_4
                    try clear hfz25_0
                    try clear hfz25_1
                    try clear hfz25_2
                    try clear hfz25_3
                    try clear hfz25_4
                    try clear hfz26_0
                    try clear hfz26_1
                    try clear hfz26_2
                    try clear hfz26_3
                    try clear hfz26_4
                    try clear hfz27_0
                    try clear hfz27_1
                    try clear hfz27_2
                    try clear hfz27_3
                    try clear hfz27_4
                    try clear hfz28_0
                    try clear hfz28_1
                    try clear hfz28_2
                    try clear hfz28_3
                    try clear hfz28_4
                    try clear hfz32_0
                    try clear hfz32_1
                    try clear hfz32_2
                    try clear hfz32_3
                    try clear hfz32_4
                    try clear hfz35_0
                    try clear hfz35_1
                    try clear hfz35_2
                    try clear hfz35_3
                    try clear hfz35_4
                    try clear hfz36_0
                    try clear hfz36_1
                    try clear hfz36_2
                    try clear hfz36_3
                    try clear hfz36_4
                    try clear hfz37_0
                    try clear hfz37_1
                    try clear hfz37_2
                    try clear hfz37_3
                    try clear hfz37_4
                    try clear hfz6_0
                    try clear hfz6_1
                    try clear hfz6_2
                    try clear hfz6_3
                    try clear hfz6_4
                    try clear p2
                    obtain ⟨x3_3, x54_3, rfl, rfl, HA, HK3, BK335, HB⟩ := hrel
                    cases gk with
                    | zero => exact absurd HA.out (by simp [symfile_May.l0])
                    | succ k3 =>
                      have H := HA.out
                      clear HA
                      simp only [symfile_May.l0] at H
                      by_cases c38 : x54_3 < (l0_4.length : Int)
                      · rw [if_pos c38] at H
                        have c38b0 : decide (x54_3 < (l0_4.length : Int)) = true := decide_eq_true c38
                        clear c38
                        by_cases c39 : 0 ≤ x54_3
                        · rw [if_pos c39] at H
                          have c39b0 : decide (0 ≤ x54_3) = true := decide_eq_true c39
                          clear c39
                          by_cases c40 : x54_3 < (l0_4.length : Int)
                          · rw [if_pos c40] at H
                            have c40b0 : decide (x54_3 < (l0_4.length : Int)) = true := decide_eq_true c40
                            clear c40
                            by_cases c41 : x3_3 = true
                            · subst c41
                              have H1 : ((symfile_basic.f ((rd_T119 l0_4 x54_3).f0)).bind fun t341 => (symfile_May.l0 k3 t341 l0_4 (l0_4.length : Int) (wrap64 (x54_3 + 1)) a0_0 a0_1 a0_2 a0_3 l0_4)) = some r := by rw [if_pos rfl] at H; exact H
                              clear H
                              have H := H1
                              clear H1
                              replace H := Option.bind_eq_some_iff.mp H
                              obtain ⟨t341, A420, H⟩ := H
                              replace H : (symfile_May.l0 k3 t341 l0_4 (l0_4.length : Int) (wrap64 (x54_3 + 1)) a0_0 a0_1 a0_2 a0_3 l0_4) = some r := H
                              have A42 := Aside0.mk A420
                              clear A420
                              have H' := Aside0.mk H
                              clear H
                              have p339 : 0 ≤ (x54_3 : Int) := of_decide_eq_true (by first | (with_reducible assumption) | assumption)
                              have q339 : x54_3 < (l0_4.length : Int) := of_decide_eq_true (by first | (with_reducible assumption) | assumption)
                              obtain ⟨ad339, e339, hx339_0, hx339_1⟩ := at_T119 HR0_4.out x54_3 p339 q339
                              cases e339
                              replace hx339_0 := (HB.out.cell (World.block_lt_of_cell? w _ hx339_0)).trans hx339_0
                              replace hx339_1 := (HB.out.cell (World.block_lt_of_cell? w _ hx339_1)).trans hx339_1
                              replace p339 := eq_true p339
                              replace q339 := eq_true q339
                              go_wp2_with (first | ((with_reducible refine gate_dst (N := 5) rfl ?_); (try (refine gate_guard (by rfl) ?_; dsimp only)); refine box_event ?hg (N := 5) ?hd (cs := #[.int .i64 0, .bool false]) (t := 119) ?hr ?_; (case hd => rfl); (case hg => rfl); (case hr => first | (go_simp; done) | (go_simp; rfl)); intro gb340 hg w43 hbox hb; have n0_ := Aside0.mk (blk_below (g := gb335) (o := .cells #[.string a0_0, .int .i64 a0_1, .int .i64 a0_2, .int .i32 a0_3, .slice (some ad339) l0_4.length c0_4] 80 (0, 0)) (by (with_reducible repeat (first | refine blk_drewN ?_ _ | refine blk_drew ?_ | refine blk_alloc ?_ _)); exact BK335.out) hb); have n1_ := Aside0.mk (below_step (by repeat (first | (with_reducible first | exact HB.out | apply below_alloc | apply pw_below_drewN | apply below_drew1 | refine below_set ?_ GE335.out) | exact HB.out)) hb); have n2_ := Aside0.mk (hbox); have n3_ := Aside0.mk ((by rw [hg]; exact (below_size (by repeat (first | (with_reducible first | exact HB.out | apply below_alloc | apply pw_below_drewN | apply below_drew1 | refine below_set ?_ GE335.out) | exact HB.out))) : w.heap.size ≤ gb340)); have n4_ := Aside0.mk ((by rw [hg]; exact (below_size (by repeat (first | (with_reducible first | exact HB.out | apply below_alloc | apply pw_below_drewN | apply below_drew1 | refine below_set ?_ GE335.out) | exact HB.out))) : w.heap.size ≤ gb340)); have n5_ := Aside0.mk ((by rw [hg]; exact Nat.ne_of_lt (blk_lt (g := gb335) (o := .cells #[.string a0_0, .int .i64 a0_1, .int .i64 a0_2, .int .i32 a0_3, .slice (some ad339) l0_4.length c0_4] 80 (0, 0)) (by (with_reducible repeat (first | refine blk_drewN ?_ _ | refine blk_drew ?_ | refine blk_alloc ?_ _)); exact BK335.out)) : gb335 ≠ gb340)); have n6_ := Aside0.mk ((by rw [hg]; exact Nat.ne_of_gt (blk_lt (g := gb335) (o := .cells #[.string a0_0, .int .i64 a0_1, .int .i64 a0_2, .int .i32 a0_3, .slice (some ad339) l0_4.length c0_4] 80 (0, 0)) (by (with_reducible repeat (first | refine blk_drewN ?_ _ | refine blk_drew ?_ | refine blk_alloc ?_ _)); exact BK335.out)) : gb340 ≠ gb335)); clear BK335; clear HB; have BK335 := n0_; have HB := n1_; have BK340 := n2_; have GW340 := n3_; have GE340 := n4_; have NB335_340 := n5_; have NB340_335 := n6_; clear n0_ n1_ n2_ n3_ n4_ n5_ n6_; clear hb hbox hg; have hnb44 := NB340_335.out; have hnc44 := NB335_340.out; have hcz45_0 : w43.cell? ⟨gb340, 0, none⟩ = some (.int .i64 0) := (blk_cell BK340.out 0).trans rfl; have hcz45_1 : w43.cell? ⟨gb340, 1, none⟩ = some (.bool false) := (blk_cell BK340.out 1).trans rfl; have hfz45_0 := blk_frozen BK340.out 0; have hfz45_1 := blk_frozen BK340.out 1) | (go_at_call 92; (with_reducible refine (symfile_basic.calls ((rd_T119 l0_4 x54_3).f0) t341 _ A42.out).mono ?_); rintro e w' ⟨rfl, ⟨nd, rfl⟩⟩))
                              go_roundg k3
                              case measure => have := HJ3.out; have := HJ29.out; have := HK3.out; omega
                              case rel => exact ⟨(t341), (wrap64 (x54_3 + 1)), (by first | rfl | (simp; done) | (simp [*]; done)), (by first | rfl | (simp; done) | (simp [*]; done)), H', ⟨by have := HJ3.out; have := HJ29.out; have := HK3.out; omega⟩, ⟨by (with_reducible repeat (first | refine blk_drewN ?_ _ | refine blk_drew ?_ | refine blk_alloc ?_ _)); refine blk_far ?_ NB335_340.out _; (with_reducible repeat (first | refine blk_drewN ?_ _ | refine blk_drew ?_ | refine blk_alloc ?_ _)); refine blk_far ?_ NB335_340.out _; (with_reducible repeat (first | refine blk_drewN ?_ _ | refine blk_drew ?_ | refine blk_alloc ?_ _)); exact BK335.out⟩, ⟨by repeat (first | (with_reducible first | exact HB.out | apply below_alloc | apply pw_below_drewN | apply below_drew1 | refine below_set ?_ GE335.out | refine below_set ?_ GE340.out) | exact HB.out)⟩⟩
                            · replace c41 := Bool.eq_false_iff.mpr c41
                              subst c41
                              have H1 : (symfile_May.l0 k3 false l0_4 (l0_4.length : Int) (wrap64 (x54_3 + 1)) a0_0 a0_1 a0_2 a0_3 l0_4) = some r := by rw [if_neg (show ¬ (false = true) by decide)] at H; exact H
                              clear H
                              have H := H1
                              clear H1
                              have H' := Aside0.mk H
                              clear H
                              have p339 : 0 ≤ (x54_3 : Int) := of_decide_eq_true (by first | (with_reducible assumption) | assumption)
                              have q339 : x54_3 < (l0_4.length : Int) := of_decide_eq_true (by first | (with_reducible assumption) | assumption)
                              obtain ⟨ad339, e339, hx339_0, hx339_1⟩ := at_T119 HR0_4.out x54_3 p339 q339
                              cases e339
                              replace hx339_0 := (HB.out.cell (World.block_lt_of_cell? w _ hx339_0)).trans hx339_0
                              replace hx339_1 := (HB.out.cell (World.block_lt_of_cell? w _ hx339_1)).trans hx339_1
                              replace p339 := eq_true p339
                              replace q339 := eq_true q339
                              go_wp2_with (first | ((with_reducible refine gate_dst (N := 5) rfl ?_); (try (refine gate_guard (by rfl) ?_; dsimp only)); refine box_event ?hg (N := 5) ?hd (cs := #[.int .i64 0, .bool false]) (t := 119) ?hr ?_; (case hd => rfl); (case hg => rfl); (case hr => first | (go_simp; done) | (go_simp; rfl)); intro gb340 hg w46 hbox hb; have n0_ := Aside0.mk (blk_below (g := gb335) (o := .cells #[.string a0_0, .int .i64 a0_1, .int .i64 a0_2, .int .i32 a0_3, .slice (some ad339) l0_4.length c0_4] 80 (0, 0)) (by (with_reducible repeat (first | refine blk_drewN ?_ _ | refine blk_drew ?_ | refine blk_alloc ?_ _)); exact BK335.out) hb); have n1_ := Aside0.mk (below_step (by repeat (first | (with_reducible first | exact HB.out | apply below_alloc | apply pw_below_drewN | apply below_drew1 | refine below_set ?_ GE335.out) | exact HB.out)) hb); have n2_ := Aside0.mk (hbox); have n3_ := Aside0.mk ((by rw [hg]; exact (below_size (by repeat (first | (with_reducible first | exact HB.out | apply below_alloc | apply pw_below_drewN | apply below_drew1 | refine below_set ?_ GE335.out) | exact HB.out))) : w.heap.size ≤ gb340)); have n4_ := Aside0.mk ((by rw [hg]; exact (below_size (by repeat (first | (with_reducible first | exact HB.out | apply below_alloc | apply pw_below_drewN | apply below_drew1 | refine below_set ?_ GE335.out) | exact HB.out))) : w.heap.size ≤ gb340)); have n5_ := Aside0.mk ((by rw [hg]; exact Nat.ne_of_lt (blk_lt (g := gb335) (o := .cells #[.string a0_0, .int .i64 a0_1, .int .i64 a0_2, .int .i32 a0_3, .slice (some ad339) l0_4.length c0_4] 80 (0, 0)) (by (with_reducible repeat (first | refine blk_drewN ?_ _ | refine blk_drew ?_ | refine blk_alloc ?_ _)); exact BK335.out)) : gb335 ≠ gb340)); have n6_ := Aside0.mk ((by rw [hg]; exact Nat.ne_of_gt (blk_lt (g := gb335) (o := .cells #[.string a0_0, .int .i64 a0_1, .int .i64 a0_2, .int .i32 a0_3, .slice (some ad339) l0_4.length c0_4] 80 (0, 0)) (by (with_reducible repeat (first | refine blk_drewN ?_ _ | refine blk_drew ?_ | refine blk_alloc ?_ _)); exact BK335.out)) : gb340 ≠ gb335)); clear BK335; clear HB; have BK335 := n0_; have HB := n1_; have BK340 := n2_; have GW340 := n3_; have GE340 := n4_; have NB335_340 := n5_; have NB340_335 := n6_; clear n0_ n1_ n2_ n3_ n4_ n5_ n6_; clear hb hbox hg; have hnb47 := NB340_335.out; have hnc47 := NB335_340.out; have hcz48_0 : w46.cell? ⟨gb340, 0, none⟩ = some (.int .i64 0) := (blk_cell BK340.out 0).trans rfl; have hcz48_1 : w46.cell? ⟨gb340, 1, none⟩ = some (.bool false) := (blk_cell BK340.out 1).trans rfl; have hfz48_0 := blk_frozen BK340.out 0; have hfz48_1 := blk_frozen BK340.out 1))
                              go_roundg k3
                              case measure => have := HJ3.out; have := HJ29.out; have := HK3.out; omega
                              case rel => exact ⟨(false), (wrap64 (x54_3 + 1)), (by first | rfl | (simp; done) | (simp [*]; done)), (by first | rfl | (simp; done) | (simp [*]; done)), H', ⟨by have := HJ3.out; have := HJ29.out; have := HK3.out; omega⟩, ⟨by (with_reducible repeat (first | refine blk_drewN ?_ _ | refine blk_drew ?_ | refine blk_alloc ?_ _)); refine blk_far ?_ NB335_340.out _; (with_reducible repeat (first | refine blk_drewN ?_ _ | refine blk_drew ?_ | refine blk_alloc ?_ _)); refine blk_far ?_ NB335_340.out _; (with_reducible repeat (first | refine blk_drewN ?_ _ | refine blk_drew ?_ | refine blk_alloc ?_ _)); exact BK335.out⟩, ⟨by repeat (first | (with_reducible first | exact HB.out | apply below_alloc | apply pw_below_drewN | apply below_drew1 | refine below_set ?_ GE335.out | refine below_set ?_ GE340.out) | exact HB.out)⟩⟩
                          · rw [if_neg c40] at H
                            exact absurd H (by simp)
                        · rw [if_neg c39] at H
                          exact absurd H (by simp)
                      · rw [if_neg c38] at H
                        have c38b0 : decide (x54_3 < (l0_4.length : Int)) = false := decide_eq_false c38
                        clear c38
                        by_cases c49 : x3_3 = true
                        · subst c49
                          have H1 : (if a0_1 = 1 then (some 0) else (if a0_3 < 0 then (some 141) else (some 0))) = some r := by rw [if_pos rfl] at H; exact H
                          clear H
                          have H := H1
                          clear H1
                          by_cases c50 : a0_1 = 1
                          · rw [if_pos c50] at H
                            have c50b0 : (a0_1 == 1) = true := beq_iff_eq.mpr c50
                            have c50b1 : (a0_1 != 1) = false := bne_eq_false_iff_eq.mpr c50
                            clear c50
                            obtain rfl := Option.some.inj H
                            have hcz51_0 : wr.cell? ⟨gb335, 0, none⟩ = some (.string a0_0) := (blk_cell BK335.out 0).trans rfl
                            have hcz51_1 : wr.cell? ⟨gb335, 1, none⟩ = some (.int .i64 a0_1) := (blk_cell BK335.out 1).trans rfl
                            have hcz51_2 : wr.cell? ⟨gb335, 2, none⟩ = some (.int .i64 a0_2) := (blk_cell BK335.out 2).trans rfl
                            have hcz51_3 : wr.cell? ⟨gb335, 3, none⟩ = some (.int .i32 a0_3) := (blk_cell BK335.out 3).trans rfl
                            have hcz51_4 : wr.cell? ⟨gb335, 4, none⟩ = some (.slice A0_4 l0_4.length c0_4) := (blk_cell BK335.out 4).trans rfl
                            have hfz51_0 := blk_frozen BK335.out 0
                            have hfz51_1 := blk_frozen BK335.out 1
                            have hfz51_2 := blk_frozen BK335.out 2
                            have hfz51_3 := blk_frozen BK335.out 3
                            have hfz51_4 := blk_frozen BK335.out 4
                            go_wp2
                            go_ret
                            exact ⟨by first | rfl | (simp [errW_none, errW_some] <;> rfl) | (simp [*, errW_none, errW_some] <;> rfl), by repeat (first | (with_reducible first | exact HB.out | apply below_alloc | apply pw_below_drewN | apply below_drew1 | refine below_set ?_ GE335.out) | exact HB.out)⟩
                          · rw [if_neg c50] at H
                            have c50b0 : (a0_1 == 1) = false := beq_eq_false_iff_ne.mpr c50
                            have c50b1 : (a0_1 != 1) = true := bne_iff_ne.mpr c50
                            by_cases c52 : a0_3 < 0
                            · rw [if_pos c52] at H
                              have c52b0 : decide (a0_3 < 0) = true := decide_eq_true c52
                              clear c52
                              obtain rfl := Option.some.inj H
                              have hcz53_0 : wr.cell? ⟨gb335, 0, none⟩ = some (.string a0_0) := (blk_cell BK335.out 0).trans rfl
                              have hcz53_1 : wr.cell? ⟨gb335, 1, none⟩ = some (.int .i64 a0_1) := (blk_cell BK335.out 1).trans rfl
                              have hcz53_2 : wr.cell? ⟨gb335, 2, none⟩ = some (.int .i64 a0_2) := (blk_cell BK335.out 2).trans rfl
                              have hcz53_3 : wr.cell? ⟨gb335, 3, none⟩ = some (.int .i32 a0_3) := (blk_cell BK335.out 3).trans rfl
                              have hcz53_4 : wr.cell? ⟨gb335, 4, none⟩ = some (.slice A0_4 l0_4.length c0_4) := (blk_cell BK335.out 4).trans rfl
                              have hfz53_0 := blk_frozen BK335.out 0
                              have hfz53_1 := blk_frozen BK335.out 1
                              have hfz53_2 := blk_frozen BK335.out 2
                              have hfz53_3 := blk_frozen BK335.out 3
                              have hfz53_4 := blk_frozen BK335.out 4
                              go_wp2
                              go_ret
                              exact ⟨by first | rfl | (simp [errW_none, errW_some] <;> rfl) | (simp [*, errW_none, errW_some] <;> rfl), by repeat (first | (with_reducible first | exact HB.out | apply below_alloc | apply pw_below_drewN | apply below_drew1 | refine below_set ?_ GE335.out) | exact HB.out)⟩
                            · rw [if_neg c52] at H
                              have c52b0 : decide (a0_3 < 0) = false := decide_eq_false c52
                              clear c52
                              obtain rfl := Option.some.inj H
                              have hcz54_0 : wr.cell? ⟨gb335, 0, none⟩ = some (.string a0_0) := (blk_cell BK335.out 0).trans rfl
                              have hcz54_1 : wr.cell? ⟨gb335, 1, none⟩ = some (.int .i64 a0_1) := (blk_cell BK335.out 1).trans rfl
                              have hcz54_2 : wr.cell? ⟨gb335, 2, none⟩ = some (.int .i64 a0_2) := (blk_cell BK335.out 2).trans rfl
                              have hcz54_3 : wr.cell? ⟨gb335, 3, none⟩ = some (.int .i32 a0_3) := (blk_cell BK335.out 3).trans rfl
                              have hcz54_4 : wr.cell? ⟨gb335, 4, none⟩ = some (.slice A0_4 l0_4.length c0_4) := (blk_cell BK335.out 4).trans rfl
                              have hfz54_0 := blk_frozen BK335.out 0
                              have hfz54_1 := blk_frozen BK335.out 1
                              have hfz54_2 := blk_frozen BK335.out 2
                              have hfz54_3 := blk_frozen BK335.out 3
                              have hfz54_4 := blk_frozen BK335.out 4
                              go_wp2
                              go_ret
                              exact ⟨by first | rfl | (simp [errW_none, errW_some] <;> rfl) | (simp [*, errW_none, errW_some] <;> rfl), by repeat (first | (with_reducible first | exact HB.out | apply below_alloc | apply pw_below_drewN | apply below_drew1 | refine below_set ?_ GE335.out) | exact HB.out)⟩
                        · replace c49 := Bool.eq_false_iff.mpr c49
                          subst c49
                          have H1 : (some 141) = some r := by rw [if_neg (show ¬ (false = true) by decide)] at H; exact H
                          clear H
                          have H := H1
                          clear H1
                          obtain rfl := Option.some.inj H
                          go_wp2
                          go_ret
                          exact ⟨by first | rfl | (simp [errW_none, errW_some] <;> rfl) | (simp [*, errW_none, errW_some] <;> rfl), by repeat (first | (with_reducible first | exact HB.out | apply below_alloc | apply pw_below_drewN | apply below_drew1 | refine below_set ?_ GE335.out) | exact HB.out)⟩
            · rw [if_neg c29] at H
              have c29b0 : (a0_1 == 6) = false := beq_eq_false_iff_ne.mpr c29
              have c29b1 : (a0_1 != 6) = true := bne_iff_ne.mpr c29
              by_cases c55 : false = true
              · exact absurd c55 (by decide)
              · clear c55
                have H1 : (some 141) = some r := by rw [if_neg (show ¬ (false = true) by decide)] at H; exact H
                clear H
                have H := H1
                clear H1
                obtain rfl := Option.some.inj H
                go_wp2
                go_ret
                exact ⟨by first | rfl | (simp [errW_none, errW_some] <;> rfl) | (simp [*, errW_none, errW_some] <;> rfl), by repeat (first | (with_reducible first | exact HB.out | apply below_alloc | apply pw_below_drewN | apply below_drew1 | refine below_set ?_ GE335.out) | exact HB.out)⟩
  · replace c3 := Bool.eq_false_iff.mpr c3
    subst c3
    have H1 : (some 140) = some r := by rw [if_neg (show ¬ (false = true) by decide)] at H; exact H
    clear H
    have H := H1
    clear H1
    obtain rfl := Option.some.inj H
    go_enter Try.func50, Try.ntmps50
    go_wp2_with (first | ((with_reducible refine gate_dst (N := 1) rfl ?_); (try (refine gate_guard (by rfl) ?_; dsimp only)); refine box_event ?hg (N := 1) ?hd (cs := #[.string a0_0, .int .i64 a0_1, .int .i64 a0_2, .int .i32 a0_3, .slice A0_4 l0_4.length c0_4]) (t := 80) ?hr ?_; (case hd => rfl); (case hg => rfl); (case hr => first | (go_simp; done) | (go_simp; rfl)); intro gb335 hg w61 hbox hb; have n0_ := Aside0.mk (below_step (by repeat (first | (with_reducible first | exact HB.out | apply below_alloc | apply pw_below_drewN | apply below_drew1) | exact HB.out)) hb); have n1_ := Aside0.mk (hbox); have n2_ := Aside0.mk ((by rw [hg]; exact (below_size (by repeat (first | (with_reducible first | exact HB.out | apply below_alloc | apply pw_below_drewN | apply below_drew1) | exact HB.out))) : w.heap.size ≤ gb335)); have n3_ := Aside0.mk ((by rw [hg]; exact (below_size (by repeat (first | (with_reducible first | exact HB.out | apply below_alloc | apply pw_below_drewN | apply below_drew1) | exact HB.out))) : w.heap.size ≤ gb335)); clear HB; have HB := n0_; have BK335 := n1_; have GW335 := n2_; have GE335 := n3_; clear n0_ n1_ n2_ n3_; clear hb hbox hg; have hcz62_0 : w61.cell? ⟨gb335, 0, none⟩ = some (.string a0_0) := (blk_cell BK335.out 0).trans rfl; have hcz62_1 : w61.cell? ⟨gb335, 1, none⟩ = some (.int .i64 a0_1) := (blk_cell BK335.out 1).trans rfl; have hcz62_2 : w61.cell? ⟨gb335, 2, none⟩ = some (.int .i64 a0_2) := (blk_cell BK335.out 2).trans rfl; have hcz62_3 : w61.cell? ⟨gb335, 3, none⟩ = some (.int .i32 a0_3) := (blk_cell BK335.out 3).trans rfl; have hcz62_4 : w61.cell? ⟨gb335, 4, none⟩ = some (.slice A0_4 l0_4.length c0_4) := (blk_cell BK335.out 4).trans rfl; have hfz62_0 := blk_frozen BK335.out 0; have hfz62_1 := blk_frozen BK335.out 1; have hfz62_2 := blk_frozen BK335.out 2; have hfz62_3 := blk_frozen BK335.out 3; have hfz62_4 := blk_frozen BK335.out 4) | ((with_reducible refine gate_callee (f := 52) rfl ?_); refine goesL_ (some 8) rfl rfl Try.func52 (by kernel_rfl) rfl #[.string a0_0] rfl (by (try simp only [List.map_toArray, List.map_cons, List.map_nil]); first | done | rfl | (simp only [List.length_drop, List.length_take]; rfl)) ?_; (with_reducible refine (symfile_Name.calls k a0_0 false _ A2.out).mono ?_); rintro e w' ⟨rfl, ⟨nd, rfl⟩⟩; refine ⟨_, rfl, ?_⟩))
    go_ret
    exact ⟨by first | rfl | (simp [errW_none, errW_some] <;> rfl) | (simp [*, errW_none, errW_some] <;> rfl), by repeat (first | (with_reducible first | exact HB.out | apply below_alloc | apply pw_below_drewN | apply below_drew1 | refine below_set ?_ GE335.out) | exact HB.out)⟩
end Go.Proofs.Ytehdhmhpmkkneaa.PAll
