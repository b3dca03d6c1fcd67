-- PRINTED by print.py (a twelfth state) out of the translation. Not trusted: Lean checks it.
import Derived.Test.YtehdhmhpmkkneaaPAllx0
import Derived.Test.YtehdhmhpmkkneaaPAllx2
namespace Go.Proofs.Ytehdhmhpmkkneaa.PAll
open Go.RowKit Go.Proofs.YtehdhmhpmkkneaaW.PrintWords Go.Proofs.YtehdhmhpmkkneaaW.PrintLast Go.Proofs.YtehdhmhpmkkneaaW.PrintMore
attribute [local go_sem] max2_int min2_int max_two min_two max_three min_three max_four min_four   -- for this text's walks alone
set_option linter.unusedVariables false
set_option linter.unusedSimpArgs false

attribute [local go_sem high] eqA119
/-! ### finger_Same: function 27 -/
mutual
def finger_Same.l0 : Nat → List (S80) → List (S80) → Int → Int → Option (Bool)
  | 0, _, _, _, _ => none
  | k + 1, x1, x15, x16, x17 => if x17 < x16 then (if 0 ≤ x17 then (if x17 < (x15.length : Int) then (if x17 < (x1.length : Int) then (if ((rd_T80 x15 x17).f0).toList = ((rd_T80 x1 x17).f0).toList then (if ((rd_T80 x15 x17).f1) = ((rd_T80 x1 x17).f1) then (if ((rd_T80 x15 x17).f2) = ((rd_T80 x1 x17).f2) then (if ((rd_T80 x15 x17).f3) = ((rd_T80 x1 x17).f3) then (finger_Same.j1 k x1 x15 x16 x17 ((((rd_T80 x15 x17).f4).length : Int) != (((rd_T80 x1 x17).f4).length : Int)) ((rd_T80 x15 x17).f0) ((rd_T80 x15 x17).f1) ((rd_T80 x15 x17).f2) ((rd_T80 x15 x17).f3) ((rd_T80 x15 x17).f4) ((rd_T80 x1 x17).f0) ((rd_T80 x1 x17).f1) ((rd_T80 x1 x17).f2) ((rd_T80 x1 x17).f3) ((rd_T80 x1 x17).f4)) else (finger_Same.j1 k x1 x15 x16 x17 true ((rd_T80 x15 x17).f0) ((rd_T80 x15 x17).f1) ((rd_T80 x15 x17).f2) ((rd_T80 x15 x17).f3) ((rd_T80 x15 x17).f4) ((rd_T80 x1 x17).f0) ((rd_T80 x1 x17).f1) ((rd_T80 x1 x17).f2) ((rd_T80 x1 x17).f3) ((rd_T80 x1 x17).f4))) else (finger_Same.j1 k x1 x15 x16 x17 true ((rd_T80 x15 x17).f0) ((rd_T80 x15 x17).f1) ((rd_T80 x15 x17).f2) ((rd_T80 x15 x17).f3) ((rd_T80 x15 x17).f4) ((rd_T80 x1 x17).f0) ((rd_T80 x1 x17).f1) ((rd_T80 x1 x17).f2) ((rd_T80 x1 x17).f3) ((rd_T80 x1 x17).f4))) else (finger_Same.j1 k x1 x15 x16 x17 true ((rd_T80 x15 x17).f0) ((rd_T80 x15 x17).f1) ((rd_T80 x15 x17).f2) ((rd_T80 x15 x17).f3) ((rd_T80 x15 x17).f4) ((rd_T80 x1 x17).f0) ((rd_T80 x1 x17).f1) ((rd_T80 x1 x17).f2) ((rd_T80 x1 x17).f3) ((rd_T80 x1 x17).f4))) else (finger_Same.j1 k x1 x15 x16 x17 true ((rd_T80 x15 x17).f0) ((rd_T80 x15 x17).f1) ((rd_T80 x15 x17).f2) ((rd_T80 x15 x17).f3) ((rd_T80 x15 x17).f4) ((rd_T80 x1 x17).f0) ((rd_T80 x1 x17).f1) ((rd_T80 x1 x17).f2) ((rd_T80 x1 x17).f3) ((rd_T80 x1 x17).f4))) else (none)) else (none)) else (none)) else (some true)
def finger_Same.j1 : Nat → List (S80) → List (S80) → Int → Int → Bool → ByteArray → Int → Int → Int → List (S119) → ByteArray → Int → Int → Int → List (S119) → Option (Bool)
  | 0, _, _, _, _, _, _, _, _, _, _, _, _, _, _, _ => none
  | k + 1, x1, x15, x16, x17, x60, x210000, x210001, x210002, x210003, x210004, x212000, x212001, x212002, x212003, x212004 => if x60 = true then (some false) else (finger_Same.l1 k x1 x15 x16 x17 x210004 (x210004.length : Int) 0 x212000 x212001 x212002 x212003 x212004)
def finger_Same.l1 : Nat → List (S80) → List (S80) → Int → Int → List (S119) → Int → Int → ByteArray → Int → Int → Int → List (S119) → Option (Bool)
  | 0, _, _, _, _, _, _, _, _, _, _, _, _ => none
  | k + 1, x1, x15, x16, x17, x62, x63, x64, x212000, x212001, x212002, x212003, x212004 => if x64 < x63 then (if 0 ≤ x64 then (if x64 < (x62.length : Int) then (if x64 < (x212004.length : Int) then (if (!(((rd_T119 x62 x64).f0) == ((rd_T119 x212004 x64).f0)) || (!(((rd_T119 x62 x64).f1) == ((rd_T119 x212004 x64).f1)))) = true then (some false) else (finger_Same.l1 k x1 x15 x16 x17 x62 x63 (wrap64 (x64 + 1)) x212000 x212001 x212002 x212003 x212004)) else (none)) else (none)) else (none)) else (finger_Same.l0 k x1 x15 x16 (wrap64 (x17 + 1)))
end
def finger_Same.f (k : Nat) (l0 : List (S80)) (l1 : List (S80)) : Option (Bool) := if (l0.length : Int) = (l1.length : Int) then (finger_Same.l0 k l1 l0 (l0.length : Int) 0) else (some false)
theorem finger_Same.mono_l : ∀ k, (∀ y0 y1 y2 y3, LeO (finger_Same.l0 k y0 y1 y2 y3) (finger_Same.l0 (k + 1) y0 y1 y2 y3)) ∧ (∀ y0 y1 y2 y3 y4 y5 y6 y7 y8 y9 y10 y11 y12 y13 y14, LeO (finger_Same.j1 k y0 y1 y2 y3 y4 y5 y6 y7 y8 y9 y10 y11 y12 y13 y14) (finger_Same.j1 (k + 1) y0 y1 y2 y3 y4 y5 y6 y7 y8 y9 y10 y11 y12 y13 y14)) ∧ (∀ y0 y1 y2 y3 y4 y5 y6 y7 y8 y9 y10 y11, LeO (finger_Same.l1 k y0 y1 y2 y3 y4 y5 y6 y7 y8 y9 y10 y11) (finger_Same.l1 (k + 1) y0 y1 y2 y3 y4 y5 y6 y7 y8 y9 y10 y11))
  | 0 => ⟨fun _ _ _ _ r h => by simp [finger_Same.l0] at h, fun _ _ _ _ _ _ _ _ _ _ _ _ _ _ _ r h => by simp [finger_Same.j1] at h, fun _ _ _ _ _ _ _ _ _ _ _ _ r h => by simp [finger_Same.l1] at h⟩
  | k + 1 => by
    obtain ⟨ih0, ih1, ih2⟩ := finger_Same.mono_l k
    refine ⟨?_, ?_, ?_⟩
    · intro y0 y1 y2 y3
      unfold finger_Same.l0
      repeat' first
      | (with_reducible exact ih0 _ _ _ _)
      | (with_reducible exact ih1 _ _ _ _ _ _ _ _ _ _ _ _ _ _ _)
      | (with_reducible exact ih2 _ _ _ _ _ _ _ _ _ _ _ _)
      | (with_reducible exact LeO.refl _)
      | (with_reducible exact LeO.none _)
      | (with_reducible refine LeO.ite ?_ ?_)
      | (with_reducible refine LeO.bind ?_ (fun _ => ?_))
      | exact ih0 _ _ _ _
      | exact ih1 _ _ _ _ _ _ _ _ _ _ _ _ _ _ _
      | exact ih2 _ _ _ _ _ _ _ _ _ _ _ _
      | exact LeO.none _
      | refine LeO.ite ?_ ?_
      | refine LeO.bind ?_ (fun _ => ?_)
    · intro y0 y1 y2 y3 y4 y5 y6 y7 y8 y9 y10 y11 y12 y13 y14
      unfold finger_Same.j1
      repeat' first
      | (with_reducible exact ih0 _ _ _ _)
      | (with_reducible exact ih1 _ _ _ _ _ _ _ _ _ _ _ _ _ _ _)
      | (with_reducible exact ih2 _ _ _ _ _ _ _ _ _ _ _ _)
      | (with_reducible exact LeO.refl _)
      | (with_reducible exact LeO.none _)
      | (with_reducible refine LeO.ite ?_ ?_)
      | (with_reducible refine LeO.bind ?_ (fun _ => ?_))
      | exact ih0 _ _ _ _
      | exact ih1 _ _ _ _ _ _ _ _ _ _ _ _ _ _ _
      | exact ih2 _ _ _ _ _ _ _ _ _ _ _ _
      | exact LeO.none _
      | refine LeO.ite ?_ ?_
      | refine LeO.bind ?_ (fun _ => ?_)
    · intro y0 y1 y2 y3 y4 y5 y6 y7 y8 y9 y10 y11
      unfold finger_Same.l1
      repeat' first
      | (with_reducible exact ih0 _ _ _ _)
      | (with_reducible exact ih1 _ _ _ _ _ _ _ _ _ _ _ _ _ _ _)
      | (with_reducible exact ih2 _ _ _ _ _ _ _ _ _ _ _ _)
      | (with_reducible exact LeO.refl _)
      | (with_reducible exact LeO.none _)
      | (with_reducible refine LeO.ite ?_ ?_)
      | (with_reducible refine LeO.bind ?_ (fun _ => ?_))
      | exact ih0 _ _ _ _
      | exact ih1 _ _ _ _ _ _ _ _ _ _ _ _ _ _ _
      | exact ih2 _ _ _ _ _ _ _ _ _ _ _ _
      | exact LeO.none _
      | refine LeO.ite ?_ ?_
      | refine LeO.bind ?_ (fun _ => ?_)
theorem finger_Same.mono : ∀ a0 a1 k, LeO (finger_Same.f k a0 a1) (finger_Same.f (k + 1) a0 a1) := by
  intro a0 a1 k
  obtain ⟨ih0, ih1, ih2⟩ := finger_Same.mono_l k
  unfold finger_Same.f
  repeat' first
      | (with_reducible exact ih0 _ _ _ _)
      | (with_reducible exact ih1 _ _ _ _ _ _ _ _ _ _ _ _ _ _ _)
      | (with_reducible exact ih2 _ _ _ _ _ _ _ _ _ _ _ _)
      | (with_reducible exact LeO.refl _)
      | (with_reducible exact LeO.none _)
      | (with_reducible refine LeO.ite ?_ ?_)
      | (with_reducible refine LeO.bind ?_ (fun _ => ?_))
      | exact ih0 _ _ _ _
      | exact ih1 _ _ _ _ _ _ _ _ _ _ _ _ _ _ _
      | exact ih2 _ _ _ _ _ _ _ _ _ _ _ _
      | exact LeO.none _
      | refine LeO.ite ?_ ?_
      | refine LeO.bind ?_ (fun _ => ?_)
set_option maxHeartbeats 8000000 in
set_option maxRecDepth 100000 in
theorem finger_Same.calls (k : Nat) (A0 : Option Addr) (c0 : Nat) (l0 : List (S80)) (A1 : Option Addr) (c1 : Nat) (l1 : List (S80)) (r : Bool) (w : World) (hr0 : Kd.C k80 w A0 l0.length l0) (hc0 : l0.length ≤ c0) (hr1 : Kd.C k80 w A1 l1.length l1) (hc1 : l1.length ≤ c1) (h : finger_Same.f k l0 l1 = some r) :
    Calls Try.prog 27 #[.slice A0 l0.length c0, .slice A1 l1.length c1] w fun e w' => e = .returned (.bool r) ∧ Below w.heap.size w w' := by
  have hu80 := Try.underlying80
  have hu119 := Try.underlying119
  have HR0 := Aside0.mk hr0
  have HC0 := Aside0.mk hc0
  clear hr0 hc0
  have HR1 := Aside0.mk hr1
  have HC1 := Aside0.mk hc1
  clear hr1 hc1
  have HB := Aside0.mk (Below.refl w.heap.size w)
  have H : (if (l0.length : Int) = (l1.length : Int) then (finger_Same.l0 k l1 l0 (l0.length : Int) 0) else (some false)) = some r := h
  clear h
  by_cases c3 : (l0.length : Int) = (l1.length : Int)
  · rw [if_pos c3] at H
    have c3b0 : ((l0.length : Int) == (l1.length : Int)) = true := beq_iff_eq.mpr c3
    have c3b1 : ((l0.length : Int) != (l1.length : Int)) = false := bne_eq_false_iff_eq.mpr c3
    have c3b2 : (l0.length == l1.length) = true := by first | simpa using c3 | (simp at c3 ⊢; omega)
    clear c3
    have H' := Aside0.mk H
    clear H
    go_enter Try.func27, Try.ntmps27
    go_wp2
    repeat (go_quiet (fail); try go_wp2)
    go_loopg [17] k (fun kq v17 w' => ∃ (x17_1 : Int), v17 = .int .i64 x17_1 ∧ Aside0 (finger_Same.l0 kq l1 l0 (l0.length : Int) x17_1 = some r) ∧ Aside0 (kq ≤ k) ∧ Aside0 (Below w.heap.size w w'))
    case atStart => exact ⟨(0), (by first | rfl | (simp; done) | (simp [*]; done)), H', ⟨Nat.le_refl _⟩, ⟨by repeat (first | (with_reducible first | exact HB.out | apply below_alloc | apply pw_below_drewN | apply below_drew1) | exact HB.out)⟩⟩
    case round =>
      clear H'
      try clear c1
      try clear c2
      try clear p2
      try clear c3
      try clear c3b0
      try clear c3b1
      try clear c3b2
      obtain ⟨x17_1, rfl, HA, HK1, HB⟩ := hrel
      cases gk with
      | zero => exact absurd HA.out (by simp [finger_Same.l0])
      | succ k1 =>
        have H := HA.out
        clear HA
        simp only [finger_Same.l0] at H
        by_cases c4 : x17_1 < (l0.length : Int)
        · rw [if_pos c4] at H
          have c4b0 : decide (x17_1 < (l0.length : Int)) = true := decide_eq_true c4
          clear c4
          by_cases c5 : 0 ≤ x17_1
          · rw [if_pos c5] at H
            have c5b0 : decide (0 ≤ x17_1) = true := decide_eq_true c5
            clear c5
            by_cases c6 : x17_1 < (l0.length : Int)
            · rw [if_pos c6] at H
              have c6b0 : decide (x17_1 < (l0.length : Int)) = true := decide_eq_true c6
              clear c6
              by_cases c7 : x17_1 < (l1.length : Int)
              · rw [if_pos c7] at H
                have c7b0 : decide (x17_1 < (l1.length : Int)) = true := decide_eq_true c7
                clear c7
                have HC8 := Aside0.mk H
                clear H
                have p208 : 0 ≤ (x17_1 : Int) := of_decide_eq_true (by first | (with_reducible assumption) | assumption)
                have q208 : x17_1 < (l0.length : Int) := of_decide_eq_true (by first | (with_reducible assumption) | assumption)
                obtain ⟨ad208, A208_4, c208_4, e208, hx208_0, hx208_1, hx208_2, hx208_3, hx208_4, hl208_4, hi208_4⟩ := at_T80 HR0.out x17_1 p208 q208
                cases e208
                replace hx208_0 := (HB.out.cell (World.block_lt_of_cell? w _ hx208_0)).trans hx208_0
                replace hx208_1 := (HB.out.cell (World.block_lt_of_cell? w _ hx208_1)).trans hx208_1
                replace hx208_2 := (HB.out.cell (World.block_lt_of_cell? w _ hx208_2)).trans hx208_2
                replace hx208_3 := (HB.out.cell (World.block_lt_of_cell? w _ hx208_3)).trans hx208_3
                replace hx208_4 := (HB.out.cell (World.block_lt_of_cell? w _ hx208_4)).trans hx208_4
                have HR208_4 := Aside0.mk hi208_4
                have HC208_4 := Aside0.mk hl208_4
                clear hi208_4 hl208_4
                replace p208 := eq_true p208
                replace q208 := eq_true q208
                go_upto_region 7 with (first | ((with_reducible refine gate_dst (N := 6) rfl ?_); (try (refine gate_guard (by rfl) ?_; dsimp only)); refine box_event ?hg (N := 6) ?hd (cs := #[.string (⟨#[]⟩ : ByteArray), .int .i64 0, .int .i64 0, .int .i32 0, .slice none 0 0]) (t := 80) ?hr ?_; (case hd => rfl); (case hg => rfl); (case hr => first | (go_simp; done) | (go_simp; rfl)); intro gb209 hg w9 hbox hb; have n0_ := Aside0.mk (below_step (by repeat (first | (with_reducible first | exact HB.out | apply below_alloc | apply pw_below_drewN | apply below_drew1) | exact HB.out)) hb); have n1_ := Aside0.mk (hbox); have n2_ := Aside0.mk ((by rw [hg]; exact (below_size (by repeat (first | (with_reducible first | exact HB.out | apply below_alloc | apply pw_below_drewN | apply below_drew1) | exact HB.out))) : w.heap.size ≤ gb209)); have n3_ := Aside0.mk ((by rw [hg]; exact (below_size (by repeat (first | (with_reducible first | exact HB.out | apply below_alloc | apply pw_below_drewN | apply below_drew1) | exact HB.out))) : w.heap.size ≤ gb209)); clear HB; have HB := n0_; have BK209 := n1_; have GW209 := n2_; have GE209 := n3_; clear n0_ n1_ n2_ n3_; clear hb hbox hg; have hcz10_0 : w9.cell? ⟨gb209, 0, none⟩ = some (.string (⟨#[]⟩ : ByteArray)) := (blk_cell BK209.out 0).trans rfl; have hcz10_1 : w9.cell? ⟨gb209, 1, none⟩ = some (.int .i64 0) := (blk_cell BK209.out 1).trans rfl; have hcz10_2 : w9.cell? ⟨gb209, 2, none⟩ = some (.int .i64 0) := (blk_cell BK209.out 2).trans rfl; have hcz10_3 : w9.cell? ⟨gb209, 3, none⟩ = some (.int .i32 0) := (blk_cell BK209.out 3).trans rfl; have hcz10_4 : w9.cell? ⟨gb209, 4, none⟩ = some (.slice none 0 0) := (blk_cell BK209.out 4).trans rfl; have hfz10_0 := blk_frozen BK209.out 0; have hfz10_1 := blk_frozen BK209.out 1; have hfz10_2 := blk_frozen BK209.out 2; have hfz10_3 := blk_frozen BK209.out 3; have hfz10_4 := blk_frozen BK209.out 4; have p210 : 0 ≤ (x17_1 : Int) := of_decide_eq_true (by first | (with_reducible assumption) | assumption); have q210 : x17_1 < (l1.length : Int) := of_decide_eq_true (by first | (with_reducible assumption) | assumption); obtain ⟨ad210, A210_4, c210_4, e210, hx210_0, hx210_1, hx210_2, hx210_3, hx210_4, hl210_4, hi210_4⟩ := at_T80 HR1.out x17_1 p210 q210; cases e210; have hn210_0 : ad210.block ≠ gb209 := Nat.ne_of_lt (Nat.lt_of_lt_of_le (by have := World.block_lt_of_cell? _ _ hx210_0; first | rwa [add_block] at this | exact this) GW209.out); have hn210_1 : ad210.block ≠ gb209 := Nat.ne_of_lt (Nat.lt_of_lt_of_le (by have := World.block_lt_of_cell? _ _ hx210_0; first | rwa [add_block] at this | exact this) GW209.out); have hn210_2 : ad210.block ≠ gb209 := Nat.ne_of_lt (Nat.lt_of_lt_of_le (by have := World.block_lt_of_cell? _ _ hx210_0; first | rwa [add_block] at this | exact this) GW209.out); have hn210_3 : ad210.block ≠ gb209 := Nat.ne_of_lt (Nat.lt_of_lt_of_le (by have := World.block_lt_of_cell? _ _ hx210_0; first | rwa [add_block] at this | exact this) GW209.out); have hn210_4 : ad210.block ≠ gb209 := Nat.ne_of_lt (Nat.lt_of_lt_of_le (by have := World.block_lt_of_cell? _ _ hx210_0; first | rwa [add_block] at this | exact this) GW209.out); replace hx210_0 := (HB.out.cell (World.block_lt_of_cell? w _ hx210_0)).trans hx210_0; replace hx210_1 := (HB.out.cell (World.block_lt_of_cell? w _ hx210_1)).trans hx210_1; replace hx210_2 := (HB.out.cell (World.block_lt_of_cell? w _ hx210_2)).trans hx210_2; replace hx210_3 := (HB.out.cell (World.block_lt_of_cell? w _ hx210_3)).trans hx210_3; replace hx210_4 := (HB.out.cell (World.block_lt_of_cell? w _ hx210_4)).trans hx210_4; have HR210_4 := Aside0.mk hi210_4; have HC210_4 := Aside0.mk hl210_4; clear hi210_4 hl210_4; replace hx210_0 := (cell_far (p := ⟨gb209, 0, none⟩) (by first | (rw [add_block]; exact hn210_0) | (show (Addr.add _ _).block ≠ _; rw [add_block]; exact hn210_0) | exact hn210_0) (.string ((rd_T80 l0 x17_1).f0))).trans hx210_0; replace hx210_1 := (cell_far (p := ⟨gb209, 0, none⟩) (by first | (rw [add_block]; exact hn210_0) | (show (Addr.add _ _).block ≠ _; rw [add_block]; exact hn210_0) | exact hn210_0) (.string ((rd_T80 l0 x17_1).f0))).trans hx210_1; replace hx210_2 := (cell_far (p := ⟨gb209, 0, none⟩) (by first | (rw [add_block]; exact hn210_0) | (show (Addr.add _ _).block ≠ _; rw [add_block]; exact hn210_0) | exact hn210_0) (.string ((rd_T80 l0 x17_1).f0))).trans hx210_2; replace hx210_3 := (cell_far (p := ⟨gb209, 0, none⟩) (by first | (rw [add_block]; exact hn210_0) | (show (Addr.add _ _).block ≠ _; rw [add_block]; exact hn210_0) | exact hn210_0) (.string ((rd_T80 l0 x17_1).f0))).trans hx210_3; replace hx210_4 := (cell_far (p := ⟨gb209, 0, none⟩) (by first | (rw [add_block]; exact hn210_0) | (show (Addr.add _ _).block ≠ _; rw [add_block]; exact hn210_0) | exact hn210_0) (.string ((rd_T80 l0 x17_1).f0))).trans hx210_4; replace hx210_0 := (cell_far (p := ⟨gb209, 1, none⟩) (by first | (rw [add_block]; exact hn210_1) | (show (Addr.add _ _).block ≠ _; rw [add_block]; exact hn210_1) | exact hn210_1) (.int .i64 ((rd_T80 l0 x17_1).f1))).trans hx210_0; replace hx210_1 := (cell_far (p := ⟨gb209, 1, none⟩) (by first | (rw [add_block]; exact hn210_1) | (show (Addr.add _ _).block ≠ _; rw [add_block]; exact hn210_1) | exact hn210_1) (.int .i64 ((rd_T80 l0 x17_1).f1))).trans hx210_1; replace hx210_2 := (cell_far (p := ⟨gb209, 1, none⟩) (by first | (rw [add_block]; exact hn210_1) | (show (Addr.add _ _).block ≠ _; rw [add_block]; exact hn210_1) | exact hn210_1) (.int .i64 ((rd_T80 l0 x17_1).f1))).trans hx210_2; replace hx210_3 := (cell_far (p := ⟨gb209, 1, none⟩) (by first | (rw [add_block]; exact hn210_1) | (show (Addr.add _ _).block ≠ _; rw [add_block]; exact hn210_1) | exact hn210_1) (.int .i64 ((rd_T80 l0 x17_1).f1))).trans hx210_3; replace hx210_4 := (cell_far (p := ⟨gb209, 1, none⟩) (by first | (rw [add_block]; exact hn210_1) | (show (Addr.add _ _).block ≠ _; rw [add_block]; exact hn210_1) | exact hn210_1) (.int .i64 ((rd_T80 l0 x17_1).f1))).trans hx210_4; replace hx210_0 := (cell_far (p := ⟨gb209, 2, none⟩) (by first | (rw [add_block]; exact hn210_2) | (show (Addr.add _ _).block ≠ _; rw [add_block]; exact hn210_2) | exact hn210_2) (.int .i64 ((rd_T80 l0 x17_1).f2))).trans hx210_0; replace hx210_1 := (cell_far (p := ⟨gb209, 2, none⟩) (by first | (rw [add_block]; exact hn210_2) | (show (Addr.add _ _).block ≠ _; rw [add_block]; exact hn210_2) | exact hn210_2) (.int .i64 ((rd_T80 l0 x17_1).f2))).trans hx210_1; replace hx210_2 := (cell_far (p := ⟨gb209, 2, none⟩) (by first | (rw [add_block]; exact hn210_2) | (show (Addr.add _ _).block ≠ _; rw [add_block]; exact hn210_2) | exact hn210_2) (.int .i64 ((rd_T80 l0 x17_1).f2))).trans hx210_2; replace hx210_3 := (cell_far (p := ⟨gb209, 2, none⟩) (by first | (rw [add_block]; exact hn210_2) | (show (Addr.add _ _).block ≠ _; rw [add_block]; exact hn210_2) | exact hn210_2) (.int .i64 ((rd_T80 l0 x17_1).f2))).trans hx210_3; replace hx210_4 := (cell_far (p := ⟨gb209, 2, none⟩) (by first | (rw [add_block]; exact hn210_2) | (show (Addr.add _ _).block ≠ _; rw [add_block]; exact hn210_2) | exact hn210_2) (.int .i64 ((rd_T80 l0 x17_1).f2))).trans hx210_4; replace hx210_0 := (cell_far (p := ⟨gb209, 3, none⟩) (by first | (rw [add_block]; exact hn210_3) | (show (Addr.add _ _).block ≠ _; rw [add_block]; exact hn210_3) | exact hn210_3) (.int .i32 ((rd_T80 l0 x17_1).f3))).trans hx210_0; replace hx210_1 := (cell_far (p := ⟨gb209, 3, none⟩) (by first | (rw [add_block]; exact hn210_3) | (show (Addr.add _ _).block ≠ _; rw [add_block]; exact hn210_3) | exact hn210_3) (.int .i32 ((rd_T80 l0 x17_1).f3))).trans hx210_1; replace hx210_2 := (cell_far (p := ⟨gb209, 3, none⟩) (by first | (rw [add_block]; exact hn210_3) | (show (Addr.add _ _).block ≠ _; rw [add_block]; exact hn210_3) | exact hn210_3) (.int .i32 ((rd_T80 l0 x17_1).f3))).trans hx210_2; replace hx210_3 := (cell_far (p := ⟨gb209, 3, none⟩) (by first | (rw [add_block]; exact hn210_3) | (show (Addr.add _ _).block ≠ _; rw [add_block]; exact hn210_3) | exact hn210_3) (.int .i32 ((rd_T80 l0 x17_1).f3))).trans hx210_3; replace hx210_4 := (cell_far (p := ⟨gb209, 3, none⟩) (by first | (rw [add_block]; exact hn210_3) | (show (Addr.add _ _).block ≠ _; rw [add_block]; exact hn210_3) | exact hn210_3) (.int .i32 ((rd_T80 l0 x17_1).f3))).trans hx210_4; replace hx210_0 := (cell_far (p := ⟨gb209, 4, none⟩) (by first | (rw [add_block]; exact hn210_4) | (show (Addr.add _ _).block ≠ _; rw [add_block]; exact hn210_4) | exact hn210_4) (.slice A208_4 ((rd_T80 l0 x17_1).f4).length c208_4)).trans hx210_0; replace hx210_1 := (cell_far (p := ⟨gb209, 4, none⟩) (by first | (rw [add_block]; exact hn210_4) | (show (Addr.add _ _).block ≠ _; rw [add_block]; exact hn210_4) | exact hn210_4) (.slice A208_4 ((rd_T80 l0 x17_1).f4).length c208_4)).trans hx210_1; replace hx210_2 := (cell_far (p := ⟨gb209, 4, none⟩) (by first | (rw [add_block]; exact hn210_4) | (show (Addr.add _ _).block ≠ _; rw [add_block]; exact hn210_4) | exact hn210_4) (.slice A208_4 ((rd_T80 l0 x17_1).f4).length c208_4)).trans hx210_2; replace hx210_3 := (cell_far (p := ⟨gb209, 4, none⟩) (by first | (rw [add_block]; exact hn210_4) | (show (Addr.add _ _).block ≠ _; rw [add_block]; exact hn210_4) | exact hn210_4) (.slice A208_4 ((rd_T80 l0 x17_1).f4).length c208_4)).trans hx210_3; replace hx210_4 := (cell_far (p := ⟨gb209, 4, none⟩) (by first | (rw [add_block]; exact hn210_4) | (show (Addr.add _ _).block ≠ _; rw [add_block]; exact hn210_4) | exact hn210_4) (.slice A208_4 ((rd_T80 l0 x17_1).f4).length c208_4)).trans hx210_4; (try have hy210_0 := fun (n_ : Nat) => (show (((((((w9.drewN n_).setCell ⟨gb209, 0, none⟩ (.string ((rd_T80 l0 x17_1).f0))).setCell ⟨gb209, 1, none⟩ (.int .i64 ((rd_T80 l0 x17_1).f1))).setCell ⟨gb209, 2, none⟩ (.int .i64 ((rd_T80 l0 x17_1).f2))).setCell ⟨gb209, 3, none⟩ (.int .i32 ((rd_T80 l0 x17_1).f3))).setCell ⟨gb209, 4, none⟩ (.slice A208_4 ((rd_T80 l0 x17_1).f4).length c208_4))).cell? _ = some _ from hx210_0)); (try have hy210_1 := fun (n_ : Nat) => (show (((((((w9.drewN n_).setCell ⟨gb209, 0, none⟩ (.string ((rd_T80 l0 x17_1).f0))).setCell ⟨gb209, 1, none⟩ (.int .i64 ((rd_T80 l0 x17_1).f1))).setCell ⟨gb209, 2, none⟩ (.int .i64 ((rd_T80 l0 x17_1).f2))).setCell ⟨gb209, 3, none⟩ (.int .i32 ((rd_T80 l0 x17_1).f3))).setCell ⟨gb209, 4, none⟩ (.slice A208_4 ((rd_T80 l0 x17_1).f4).length c208_4))).cell? _ = some _ from hx210_1)); (try have hy210_2 := fun (n_ : Nat) => (show (((((((w9.drewN n_).setCell ⟨gb209, 0, none⟩ (.string ((rd_T80 l0 x17_1).f0))).setCell ⟨gb209, 1, none⟩ (.int .i64 ((rd_T80 l0 x17_1).f1))).setCell ⟨gb209, 2, none⟩ (.int .i64 ((rd_T80 l0 x17_1).f2))).setCell ⟨gb209, 3, none⟩ (.int .i32 ((rd_T80 l0 x17_1).f3))).setCell ⟨gb209, 4, none⟩ (.slice A208_4 ((rd_T80 l0 x17_1).f4).length c208_4))).cell? _ = some _ from hx210_2)); (try have hy210_3 := fun (n_ : Nat) => (show (((((((w9.drewN n_).setCell ⟨gb209, 0, none⟩ (.string ((rd_T80 l0 x17_1).f0))).setCell ⟨gb209, 1, none⟩ (.int .i64 ((rd_T80 l0 x17_1).f1))).setCell ⟨gb209, 2, none⟩ (.int .i64 ((rd_T80 l0 x17_1).f2))).setCell ⟨gb209, 3, none⟩ (.int .i32 ((rd_T80 l0 x17_1).f3))).setCell ⟨gb209, 4, none⟩ (.slice A208_4 ((rd_T80 l0 x17_1).f4).length c208_4))).cell? _ = some _ from hx210_3)); (try have hy210_4 := fun (n_ : Nat) => (show (((((((w9.drewN n_).setCell ⟨gb209, 0, none⟩ (.string ((rd_T80 l0 x17_1).f0))).setCell ⟨gb209, 1, none⟩ (.int .i64 ((rd_T80 l0 x17_1).f1))).setCell ⟨gb209, 2, none⟩ (.int .i64 ((rd_T80 l0 x17_1).f2))).setCell ⟨gb209, 3, none⟩ (.int .i32 ((rd_T80 l0 x17_1).f3))).setCell ⟨gb209, 4, none⟩ (.slice A208_4 ((rd_T80 l0 x17_1).f4).length c208_4))).cell? _ = some _ from hx210_4)); clear hn210_0; clear hn210_1; clear hn210_2; clear hn210_3; clear hn210_4; replace p210 := eq_true p210; replace q210 := eq_true q210) | ((with_reducible refine gate_dst (N := 7) rfl ?_); (try (refine gate_guard (by rfl) ?_; dsimp only)); refine box_event ?hg (N := 7) ?hd (cs := #[.string (⟨#[]⟩ : ByteArray), .int .i64 0, .int .i64 0, .int .i32 0, .slice none 0 0]) (t := 80) ?hr ?_; (case hd => rfl); (case hg => rfl); (case hr => first | (go_simp; done) | (go_simp; rfl)); intro gb211 hg w11 hbox hb; have n0_ := Aside0.mk (blk_below (g := gb209) (o := .cells #[.string ((rd_T80 l0 x17_1).f0), .int .i64 ((rd_T80 l0 x17_1).f1), .int .i64 ((rd_T80 l0 x17_1).f2), .int .i32 ((rd_T80 l0 x17_1).f3), .slice A208_4 ((rd_T80 l0 x17_1).f4).length c208_4] 80 (0, 0)) (by (with_reducible repeat (first | refine blk_drewN ?_ _ | refine blk_drew ?_ | refine blk_alloc ?_ _)); refine blk_put (cs := #[.string ((rd_T80 l0 x17_1).f0), .int .i64 ((rd_T80 l0 x17_1).f1), .int .i64 ((rd_T80 l0 x17_1).f2), .int .i32 ((rd_T80 l0 x17_1).f3), .slice none 0 0]) ?_ 4 _ rfl; (with_reducible repeat (first | refine blk_drewN ?_ _ | refine blk_drew ?_ | refine blk_alloc ?_ _)); refine blk_put (cs := #[.string ((rd_T80 l0 x17_1).f0), .int .i64 ((rd_T80 l0 x17_1).f1), .int .i64 ((rd_T80 l0 x17_1).f2), .int .i32 0, .slice none 0 0]) ?_ 3 _ rfl; (with_reducible repeat (first | refine blk_drewN ?_ _ | refine blk_drew ?_ | refine blk_alloc ?_ _)); refine blk_put (cs := #[.string ((rd_T80 l0 x17_1).f0), .int .i64 ((rd_T80 l0 x17_1).f1), .int .i64 0, .int .i32 0, .slice none 0 0]) ?_ 2 _ rfl; (with_reducible repeat (first | refine blk_drewN ?_ _ | refine blk_drew ?_ | refine blk_alloc ?_ _)); refine blk_put (cs := #[.string ((rd_T80 l0 x17_1).f0), .int .i64 0, .int .i64 0, .int .i32 0, .slice none 0 0]) ?_ 1 _ rfl; (with_reducible repeat (first | refine blk_drewN ?_ _ | refine blk_drew ?_ | refine blk_alloc ?_ _)); refine blk_put (cs := #[.string (⟨#[]⟩ : ByteArray), .int .i64 0, .int .i64 0, .int .i32 0, .slice none 0 0]) ?_ 0 _ rfl; (with_reducible repeat (first | refine blk_drewN ?_ _ | refine blk_drew ?_ | refine blk_alloc ?_ _)); exact BK209.out) hb); have n1_ := Aside0.mk (below_step (by repeat (first | (with_reducible first | exact HB.out | apply below_alloc | apply pw_below_drewN | apply below_drew1 | refine below_set ?_ GE209.out) | exact HB.out)) hb); have n2_ := Aside0.mk (hbox); have n3_ := Aside0.mk ((by rw [hg]; exact (below_size (by repeat (first | (with_reducible first | exact HB.out | apply below_alloc | apply pw_below_drewN | apply below_drew1 | refine below_set ?_ GE209.out) | exact HB.out))) : w.heap.size ≤ gb211)); have n4_ := Aside0.mk ((by rw [hg]; exact (below_size (by repeat (first | (with_reducible first | exact HB.out | apply below_alloc | apply pw_below_drewN | apply below_drew1 | refine below_set ?_ GE209.out) | exact HB.out))) : w.heap.size ≤ gb211)); have n5_ := Aside0.mk ((by rw [hg]; exact Nat.ne_of_lt (blk_lt (g := gb209) (o := .cells #[.string ((rd_T80 l0 x17_1).f0), .int .i64 ((rd_T80 l0 x17_1).f1), .int .i64 ((rd_T80 l0 x17_1).f2), .int .i32 ((rd_T80 l0 x17_1).f3), .slice A208_4 ((rd_T80 l0 x17_1).f4).length c208_4] 80 (0, 0)) (by (with_reducible repeat (first | refine blk_drewN ?_ _ | refine blk_drew ?_ | refine blk_alloc ?_ _)); refine blk_put (cs := #[.string ((rd_T80 l0 x17_1).f0), .int .i64 ((rd_T80 l0 x17_1).f1), .int .i64 ((rd_T80 l0 x17_1).f2), .int .i32 ((rd_T80 l0 x17_1).f3), .slice none 0 0]) ?_ 4 _ rfl; (with_reducible repeat (first | refine blk_drewN ?_ _ | refine blk_drew ?_ | refine blk_alloc ?_ _)); refine blk_put (cs := #[.string ((rd_T80 l0 x17_1).f0), .int .i64 ((rd_T80 l0 x17_1).f1), .int .i64 ((rd_T80 l0 x17_1).f2), .int .i32 0, .slice none 0 0]) ?_ 3 _ rfl; (with_reducible repeat (first | refine blk_drewN ?_ _ | refine blk_drew ?_ | refine blk_alloc ?_ _)); refine blk_put (cs := #[.string ((rd_T80 l0 x17_1).f0), .int .i64 ((rd_T80 l0 x17_1).f1), .int .i64 0, .int .i32 0, .slice none 0 0]) ?_ 2 _ rfl; (with_reducible repeat (first | refine blk_drewN ?_ _ | refine blk_drew ?_ | refine blk_alloc ?_ _)); refine blk_put (cs := #[.string ((rd_T80 l0 x17_1).f0), .int .i64 0, .int .i64 0, .int .i32 0, .slice none 0 0]) ?_ 1 _ rfl; (with_reducible repeat (first | refine blk_drewN ?_ _ | refine blk_drew ?_ | refine blk_alloc ?_ _)); refine blk_put (cs := #[.string (⟨#[]⟩ : ByteArray), .int .i64 0, .int .i64 0, .int .i32 0, .slice none 0 0]) ?_ 0 _ rfl; (with_reducible repeat (first | refine blk_drewN ?_ _ | refine blk_drew ?_ | refine blk_alloc ?_ _)); exact BK209.out)) : gb209 ≠ gb211)); have n6_ := Aside0.mk ((by rw [hg]; exact Nat.ne_of_gt (blk_lt (g := gb209) (o := .cells #[.string ((rd_T80 l0 x17_1).f0), .int .i64 ((rd_T80 l0 x17_1).f1), .int .i64 ((rd_T80 l0 x17_1).f2), .int .i32 ((rd_T80 l0 x17_1).f3), .slice A208_4 ((rd_T80 l0 x17_1).f4).length c208_4] 80 (0, 0)) (by (with_reducible repeat (first | refine blk_drewN ?_ _ | refine blk_drew ?_ | refine blk_alloc ?_ _)); refine blk_put (cs := #[.string ((rd_T80 l0 x17_1).f0), .int .i64 ((rd_T80 l0 x17_1).f1), .int .i64 ((rd_T80 l0 x17_1).f2), .int .i32 ((rd_T80 l0 x17_1).f3), .slice none 0 0]) ?_ 4 _ rfl; (with_reducible repeat (first | refine blk_drewN ?_ _ | refine blk_drew ?_ | refine blk_alloc ?_ _)); refine blk_put (cs := #[.string ((rd_T80 l0 x17_1).f0), .int .i64 ((rd_T80 l0 x17_1).f1), .int .i64 ((rd_T80 l0 x17_1).f2), .int .i32 0, .slice none 0 0]) ?_ 3 _ rfl; (with_reducible repeat (first | refine blk_drewN ?_ _ | refine blk_drew ?_ | refine blk_alloc ?_ _)); refine blk_put (cs := #[.string ((rd_T80 l0 x17_1).f0), .int .i64 ((rd_T80 l0 x17_1).f1), .int .i64 0, .int .i32 0, .slice none 0 0]) ?_ 2 _ rfl; (with_reducible repeat (first | refine blk_drewN ?_ _ | refine blk_drew ?_ | refine blk_alloc ?_ _)); refine blk_put (cs := #[.string ((rd_T80 l0 x17_1).f0), .int .i64 0, .int .i64 0, .int .i32 0, .slice none 0 0]) ?_ 1 _ rfl; (with_reducible repeat (first | refine blk_drewN ?_ _ | refine blk_drew ?_ | refine blk_alloc ?_ _)); refine blk_put (cs := #[.string (⟨#[]⟩ : ByteArray), .int .i64 0, .int .i64 0, .int .i32 0, .slice none 0 0]) ?_ 0 _ rfl; (with_reducible repeat (first | refine blk_drewN ?_ _ | refine blk_drew ?_ | refine blk_alloc ?_ _)); exact BK209.out)) : gb211 ≠ gb209)); clear BK209; clear HB; have BK209 := n0_; have HB := n1_; have BK211 := n2_; have GW211 := n3_; have GE211 := n4_; have NB209_211 := n5_; have NB211_209 := n6_; clear n0_ n1_ n2_ n3_ n4_ n5_ n6_; clear hb hbox hg; have hnb12 := NB211_209.out; have hnc12 := NB209_211.out; have hcz13_0 : w11.cell? ⟨gb211, 0, none⟩ = some (.string (⟨#[]⟩ : ByteArray)) := (blk_cell BK211.out 0).trans rfl; have hcz13_1 : w11.cell? ⟨gb211, 1, none⟩ = some (.int .i64 0) := (blk_cell BK211.out 1).trans rfl; have hcz13_2 : w11.cell? ⟨gb211, 2, none⟩ = some (.int .i64 0) := (blk_cell BK211.out 2).trans rfl; have hcz13_3 : w11.cell? ⟨gb211, 3, none⟩ = some (.int .i32 0) := (blk_cell BK211.out 3).trans rfl; have hcz13_4 : w11.cell? ⟨gb211, 4, none⟩ = some (.slice none 0 0) := (blk_cell BK211.out 4).trans rfl; have hfz13_0 := blk_frozen BK211.out 0; have hfz13_1 := blk_frozen BK211.out 1; have hfz13_2 := blk_frozen BK211.out 2; have hfz13_3 := blk_frozen BK211.out 3; have hfz13_4 := blk_frozen BK211.out 4))
                repeat (go_quiet (first | ((with_reducible refine gate_dst (N := 6) rfl ?_); (try (refine gate_guard (by rfl) ?_; dsimp only)); refine box_event ?hg (N := 6) ?hd (cs := #[.string (⟨#[]⟩ : ByteArray), .int .i64 0, .int .i64 0, .int .i32 0, .slice none 0 0]) (t := 80) ?hr ?_; (case hd => rfl); (case hg => rfl); (case hr => first | (go_simp; done) | (go_simp; rfl)); intro gb209 hg w9 hbox hb; have n0_ := Aside0.mk (below_step (by repeat (first | (with_reducible first | exact HB.out | apply below_alloc | apply pw_below_drewN | apply below_drew1) | exact HB.out)) hb); have n1_ := Aside0.mk (hbox); have n2_ := Aside0.mk ((by rw [hg]; exact (below_size (by repeat (first | (with_reducible first | exact HB.out | apply below_alloc | apply pw_below_drewN | apply below_drew1) | exact HB.out))) : w.heap.size ≤ gb209)); have n3_ := Aside0.mk ((by rw [hg]; exact (below_size (by repeat (first | (with_reducible first | exact HB.out | apply below_alloc | apply pw_below_drewN | apply below_drew1) | exact HB.out))) : w.heap.size ≤ gb209)); clear HB; have HB := n0_; have BK209 := n1_; have GW209 := n2_; have GE209 := n3_; clear n0_ n1_ n2_ n3_; clear hb hbox hg; have hcz10_0 : w9.cell? ⟨gb209, 0, none⟩ = some (.string (⟨#[]⟩ : ByteArray)) := (blk_cell BK209.out 0).trans rfl; have hcz10_1 : w9.cell? ⟨gb209, 1, none⟩ = some (.int .i64 0) := (blk_cell BK209.out 1).trans rfl; have hcz10_2 : w9.cell? ⟨gb209, 2, none⟩ = some (.int .i64 0) := (blk_cell BK209.out 2).trans rfl; have hcz10_3 : w9.cell? ⟨gb209, 3, none⟩ = some (.int .i32 0) := (blk_cell BK209.out 3).trans rfl; have hcz10_4 : w9.cell? ⟨gb209, 4, none⟩ = some (.slice none 0 0) := (blk_cell BK209.out 4).trans rfl; have hfz10_0 := blk_frozen BK209.out 0; have hfz10_1 := blk_frozen BK209.out 1; have hfz10_2 := blk_frozen BK209.out 2; have hfz10_3 := blk_frozen BK209.out 3; have hfz10_4 := blk_frozen BK209.out 4; have p210 : 0 ≤ (x17_1 : Int) := of_decide_eq_true (by first | (with_reducible assumption) | assumption); have q210 : x17_1 < (l1.length : Int) := of_decide_eq_true (by first | (with_reducible assumption) | assumption); obtain ⟨ad210, A210_4, c210_4, e210, hx210_0, hx210_1, hx210_2, hx210_3, hx210_4, hl210_4, hi210_4⟩ := at_T80 HR1.out x17_1 p210 q210; cases e210; have hn210_0 : ad210.block ≠ gb209 := Nat.ne_of_lt (Nat.lt_of_lt_of_le (by have := World.block_lt_of_cell? _ _ hx210_0; first | rwa [add_block] at this | exact this) GW209.out); have hn210_1 : ad210.block ≠ gb209 := Nat.ne_of_lt (Nat.lt_of_lt_of_le (by have := World.block_lt_of_cell? _ _ hx210_0; first | rwa [add_block] at this | exact this) GW209.out); have hn210_2 : ad210.block ≠ gb209 := Nat.ne_of_lt (Nat.lt_of_lt_of_le (by have := World.block_lt_of_cell? _ _ hx210_0; first | rwa [add_block] at this | exact this) GW209.out); have hn210_3 : ad210.block ≠ gb209 := Nat.ne_of_lt (Nat.lt_of_lt_of_le (by have := World.block_lt_of_cell? _ _ hx210_0; first | rwa [add_block] at this | exact this) GW209.out); have hn210_4 : ad210.block ≠ gb209 := Nat.ne_of_lt (Nat.lt_of_lt_of_le (by have := World.block_lt_of_cell? _ _ hx210_0; first | rwa [add_block] at this | exact this) GW209.out); replace hx210_0 := (HB.out.cell (World.block_lt_of_cell? w _ hx210_0)).trans hx210_0; replace hx210_1 := (HB.out.cell (World.block_lt_of_cell? w _ hx210_1)).trans hx210_1; replace hx210_2 := (HB.out.cell (World.block_lt_of_cell? w _ hx210_2)).trans hx210_2; replace hx210_3 := (HB.out.cell (World.block_lt_of_cell? w _ hx210_3)).trans hx210_3; replace hx210_4 := (HB.out.cell (World.block_lt_of_cell? w _ hx210_4)).trans hx210_4; have HR210_4 := Aside0.mk hi210_4; have HC210_4 := Aside0.mk hl210_4; clear hi210_4 hl210_4; replace hx210_0 := (cell_far (p := ⟨gb209, 0, none⟩) (by first | (rw [add_block]; exact hn210_0) | (show (Addr.add _ _).block ≠ _; rw [add_block]; exact hn210_0) | exact hn210_0) (.string ((rd_T80 l0 x17_1).f0))).trans hx210_0; replace hx210_1 := (cell_far (p := ⟨gb209, 0, none⟩) (by first | (rw [add_block]; exact hn210_0) | (show (Addr.add _ _).block ≠ _; rw [add_block]; exact hn210_0) | exact hn210_0) (.string ((rd_T80 l0 x17_1).f0))).trans hx210_1; replace hx210_2 := (cell_far (p := ⟨gb209, 0, none⟩) (by first | (rw [add_block]; exact hn210_0) | (show (Addr.add _ _).block ≠ _; rw [add_block]; exact hn210_0) | exact hn210_0) (.string ((rd_T80 l0 x17_1).f0))).trans hx210_2; replace hx210_3 := (cell_far (p := ⟨gb209, 0, none⟩) (by first | (rw [add_block]; exact hn210_0) | (show (Addr.add _ _).block ≠ _; rw [add_block]; exact hn210_0) | exact hn210_0) (.string ((rd_T80 l0 x17_1).f0))).trans hx210_3; replace hx210_4 := (cell_far (p := ⟨gb209, 0, none⟩) (by first | (rw [add_block]; exact hn210_0) | (show (Addr.add _ _).block ≠ _; rw [add_block]; exact hn210_0) | exact hn210_0) (.string ((rd_T80 l0 x17_1).f0))).trans hx210_4; replace hx210_0 := (cell_far (p := ⟨gb209, 1, none⟩) (by first | (rw [add_block]; exact hn210_1) | (show (Addr.add _ _).block ≠ _; rw [add_block]; exact hn210_1) | exact hn210_1) (.int .i64 ((rd_T80 l0 x17_1).f1))).trans hx210_0; replace hx210_1 := (cell_far (p := ⟨gb209, 1, none⟩) (by first | (rw [add_block]; exact hn210_1) | (show (Addr.add _ _).block ≠ _; rw [add_block]; exact hn210_1) | exact hn210_1) (.int .i64 ((rd_T80 l0 x17_1).f1))).trans hx210_1; replace hx210_2 := (cell_far (p := ⟨gb209, 1, none⟩) (by first | (rw [add_block]; exact hn210_1) | (show (Addr.add _ _).block ≠ _; rw [add_block]; exact hn210_1) | exact hn210_1) (.int .i64 ((rd_T80 l0 x17_1).f1))).trans hx210_2; replace hx210_3 := (cell_far (p := ⟨gb209, 1, none⟩) (by first | (rw [add_block]; exact hn210_1) | (show (Addr.add _ _).block ≠ _; rw [add_block]; exact hn210_1) | exact hn210_1) (.int .i64 ((rd_T80 l0 x17_1).f1))).trans hx210_3; replace hx210_4 := (cell_far (p := ⟨gb209, 1, none⟩) (by first | (rw [add_block]; exact hn210_1) | (show (Addr.add _ _).block ≠ _; rw [add_block]; exact hn210_1) | exact hn210_1) (.int .i64 ((rd_T80 l0 x17_1).f1))).trans hx210_4; replace hx210_0 := (cell_far (p := ⟨gb209, 2, none⟩) (by first | (rw [add_block]; exact hn210_2) | (show (Addr.add _ _).block ≠ _; rw [add_block]; exact hn210_2) | exact hn210_2) (.int .i64 ((rd_T80 l0 x17_1).f2))).trans hx210_0; replace hx210_1 := (cell_far (p := ⟨gb209, 2, none⟩) (by first | (rw [add_block]; exact hn210_2) | (show (Addr.add _ _).block ≠ _; rw [add_block]; exact hn210_2) | exact hn210_2) (.int .i64 ((rd_T80 l0 x17_1).f2))).trans hx210_1; replace hx210_2 := (cell_far (p := ⟨gb209, 2, none⟩) (by first | (rw [add_block]; exact hn210_2) | (show (Addr.add _ _).block ≠ _; rw [add_block]; exact hn210_2) | exact hn210_2) (.int .i64 ((rd_T80 l0 x17_1).f2))).trans hx210_2; replace hx210_3 := (cell_far (p := ⟨gb209, 2, none⟩) (by first | (rw [add_block]; exact hn210_2) | (show (Addr.add _ _).block ≠ _; rw [add_block]; exact hn210_2) | exact hn210_2) (.int .i64 ((rd_T80 l0 x17_1).f2))).trans hx210_3; replace hx210_4 := (cell_far (p := ⟨gb209, 2, none⟩) (by first | (rw [add_block]; exact hn210_2) | (show (Addr.add _ _).block ≠ _; rw [add_block]; exact hn210_2) | exact hn210_2) (.int .i64 ((rd_T80 l0 x17_1).f2))).trans hx210_4; replace hx210_0 := (cell_far (p := ⟨gb209, 3, none⟩) (by first | (rw [add_block]; exact hn210_3) | (show (Addr.add _ _).block ≠ _; rw [add_block]; exact hn210_3) | exact hn210_3) (.int .i32 ((rd_T80 l0 x17_1).f3))).trans hx210_0; replace hx210_1 := (cell_far (p := ⟨gb209, 3, none⟩) (by first | (rw [add_block]; exact hn210_3) | (show (Addr.add _ _).block ≠ _; rw [add_block]; exact hn210_3) | exact hn210_3) (.int .i32 ((rd_T80 l0 x17_1).f3))).trans hx210_1; replace hx210_2 := (cell_far (p := ⟨gb209, 3, none⟩) (by first | (rw [add_block]; exact hn210_3) | (show (Addr.add _ _).block ≠ _; rw [add_block]; exact hn210_3) | exact hn210_3) (.int .i32 ((rd_T80 l0 x17_1).f3))).trans hx210_2; replace hx210_3 := (cell_far (p := ⟨gb209, 3, none⟩) (by first | (rw [add_block]; exact hn210_3) | (show (Addr.add _ _).block ≠ _; rw [add_block]; exact hn210_3) | exact hn210_3) (.int .i32 ((rd_T80 l0 x17_1).f3))).trans hx210_3; replace hx210_4 := (cell_far (p := ⟨gb209, 3, none⟩) (by first | (rw [add_block]; exact hn210_3) | (show (Addr.add _ _).block ≠ _; rw [add_block]; exact hn210_3) | exact hn210_3) (.int .i32 ((rd_T80 l0 x17_1).f3))).trans hx210_4; replace hx210_0 := (cell_far (p := ⟨gb209, 4, none⟩) (by first | (rw [add_block]; exact hn210_4) | (show (Addr.add _ _).block ≠ _; rw [add_block]; exact hn210_4) | exact hn210_4) (.slice A208_4 ((rd_T80 l0 x17_1).f4).length c208_4)).trans hx210_0; replace hx210_1 := (cell_far (p := ⟨gb209, 4, none⟩) (by first | (rw [add_block]; exact hn210_4) | (show (Addr.add _ _).block ≠ _; rw [add_block]; exact hn210_4) | exact hn210_4) (.slice A208_4 ((rd_T80 l0 x17_1).f4).length c208_4)).trans hx210_1; replace hx210_2 := (cell_far (p := ⟨gb209, 4, none⟩) (by first | (rw [add_block]; exact hn210_4) | (show (Addr.add _ _).block ≠ _; rw [add_block]; exact hn210_4) | exact hn210_4) (.slice A208_4 ((rd_T80 l0 x17_1).f4).length c208_4)).trans hx210_2; replace hx210_3 := (cell_far (p := ⟨gb209, 4, none⟩) (by first | (rw [add_block]; exact hn210_4) | (show (Addr.add _ _).block ≠ _; rw [add_block]; exact hn210_4) | exact hn210_4) (.slice A208_4 ((rd_T80 l0 x17_1).f4).length c208_4)).trans hx210_3; replace hx210_4 := (cell_far (p := ⟨gb209, 4, none⟩) (by first | (rw [add_block]; exact hn210_4) | (show (Addr.add _ _).block ≠ _; rw [add_block]; exact hn210_4) | exact hn210_4) (.slice A208_4 ((rd_T80 l0 x17_1).f4).length c208_4)).trans hx210_4; (try have hy210_0 := fun (n_ : Nat) => (show (((((((w9.drewN n_).setCell ⟨gb209, 0, none⟩ (.string ((rd_T80 l0 x17_1).f0))).setCell ⟨gb209, 1, none⟩ (.int .i64 ((rd_T80 l0 x17_1).f1))).setCell ⟨gb209, 2, none⟩ (.int .i64 ((rd_T80 l0 x17_1).f2))).setCell ⟨gb209, 3, none⟩ (.int .i32 ((rd_T80 l0 x17_1).f3))).setCell ⟨gb209, 4, none⟩ (.slice A208_4 ((rd_T80 l0 x17_1).f4).length c208_4))).cell? _ = some _ from hx210_0)); (try have hy210_1 := fun (n_ : Nat) => (show (((((((w9.drewN n_).setCell ⟨gb209, 0, none⟩ (.string ((rd_T80 l0 x17_1).f0))).setCell ⟨gb209, 1, none⟩ (.int .i64 ((rd_T80 l0 x17_1).f1))).setCell ⟨gb209, 2, none⟩ (.int .i64 ((rd_T80 l0 x17_1).f2))).setCell ⟨gb209, 3, none⟩ (.int .i32 ((rd_T80 l0 x17_1).f3))).setCell ⟨gb209, 4, none⟩ (.slice A208_4 ((rd_T80 l0 x17_1).f4).length c208_4))).cell? _ = some _ from hx210_1)); (try have hy210_2 := fun (n_ : Nat) => (show (((((((w9.drewN n_).setCell ⟨gb209, 0, none⟩ (.string ((rd_T80 l0 x17_1).f0))).setCell ⟨gb209, 1, none⟩ (.int .i64 ((rd_T80 l0 x17_1).f1))).setCell ⟨gb209, 2, none⟩ (.int .i64 ((rd_T80 l0 x17_1).f2))).setCell ⟨gb209, 3, none⟩ (.int .i32 ((rd_T80 l0 x17_1).f3))).setCell ⟨gb209, 4, none⟩ (.slice A208_4 ((rd_T80 l0 x17_1).f4).length c208_4))).cell? _ = some _ from hx210_2)); (try have hy210_3 := fun (n_ : Nat) => (show (((((((w9.drewN n_).setCell ⟨gb209, 0, none⟩ (.string ((rd_T80 l0 x17_1).f0))).setCell ⟨gb209, 1, none⟩ (.int .i64 ((rd_T80 l0 x17_1).f1))).setCell ⟨gb209, 2, none⟩ (.int .i64 ((rd_T80 l0 x17_1).f2))).setCell ⟨gb209, 3, none⟩ (.int .i32 ((rd_T80 l0 x17_1).f3))).setCell ⟨gb209, 4, none⟩ (.slice A208_4 ((rd_T80 l0 x17_1).f4).length c208_4))).cell? _ = some _ from hx210_3)); (try have hy210_4 := fun (n_ : Nat) => (show (((((((w9.drewN n_).setCell ⟨gb209, 0, none⟩ (.string ((rd_T80 l0 x17_1).f0))).setCell ⟨gb209, 1, none⟩ (.int .i64 ((rd_T80 l0 x17_1).f1))).setCell ⟨gb209, 2, none⟩ (.int .i64 ((rd_T80 l0 x17_1).f2))).setCell ⟨gb209, 3, none⟩ (.int .i32 ((rd_T80 l0 x17_1).f3))).setCell ⟨gb209, 4, none⟩ (.slice A208_4 ((rd_T80 l0 x17_1).f4).length c208_4))).cell? _ = some _ from hx210_4)); clear hn210_0; clear hn210_1; clear hn210_2; clear hn210_3; clear hn210_4; replace p210 := eq_true p210; replace q210 := eq_true q210) | ((with_reducible refine gate_dst (N := 7) rfl ?_); (try (refine gate_guard (by rfl) ?_; dsimp only)); refine box_event ?hg (N := 7) ?hd (cs := #[.string (⟨#[]⟩ : ByteArray), .int .i64 0, .int .i64 0, .int .i32 0, .slice none 0 0]) (t := 80) ?hr ?_; (case hd => rfl); (case hg => rfl); (case hr => first | (go_simp; done) | (go_simp; rfl)); intro gb211 hg w11 hbox hb; have n0_ := Aside0.mk (blk_below (g := gb209) (o := .cells #[.string ((rd_T80 l0 x17_1).f0), .int .i64 ((rd_T80 l0 x17_1).f1), .int .i64 ((rd_T80 l0 x17_1).f2), .int .i32 ((rd_T80 l0 x17_1).f3), .slice A208_4 ((rd_T80 l0 x17_1).f4).length c208_4] 80 (0, 0)) (by (with_reducible repeat (first | refine blk_drewN ?_ _ | refine blk_drew ?_ | refine blk_alloc ?_ _)); refine blk_put (cs := #[.string ((rd_T80 l0 x17_1).f0), .int .i64 ((rd_T80 l0 x17_1).f1), .int .i64 ((rd_T80 l0 x17_1).f2), .int .i32 ((rd_T80 l0 x17_1).f3), .slice none 0 0]) ?_ 4 _ rfl; (with_reducible repeat (first | refine blk_drewN ?_ _ | refine blk_drew ?_ | refine blk_alloc ?_ _)); refine blk_put (cs := #[.string ((rd_T80 l0 x17_1).f0), .int .i64 ((rd_T80 l0 x17_1).f1), .int .i64 ((rd_T80 l0 x17_1).f2), .int .i32 0, .slice none 0 0]) ?_ 3 _ rfl; (with_reducible repeat (first | refine blk_drewN ?_ _ | refine blk_drew ?_ | refine blk_alloc ?_ _)); refine blk_put (cs := #[.string ((rd_T80 l0 x17_1).f0), .int .i64 ((rd_T80 l0 x17_1).f1), .int .i64 0, .int .i32 0, .slice none 0 0]) ?_ 2 _ rfl; (with_reducible repeat (first | refine blk_drewN ?_ _ | refine blk_drew ?_ | refine blk_alloc ?_ _)); refine blk_put (cs := #[.string ((rd_T80 l0 x17_1).f0), .int .i64 0, .int .i64 0, .int .i32 0, .slice none 0 0]) ?_ 1 _ rfl; (with_reducible repeat (first | refine blk_drewN ?_ _ | refine blk_drew ?_ | refine blk_alloc ?_ _)); refine blk_put (cs := #[.string (⟨#[]⟩ : ByteArray), .int .i64 0, .int .i64 0, .int .i32 0, .slice none 0 0]) ?_ 0 _ rfl; (with_reducible repeat (first | refine blk_drewN ?_ _ | refine blk_drew ?_ | refine blk_alloc ?_ _)); exact BK209.out) hb); have n1_ := Aside0.mk (below_step (by repeat (first | (with_reducible first | exact HB.out | apply below_alloc | apply pw_below_drewN | apply below_drew1 | refine below_set ?_ GE209.out) | exact HB.out)) hb); have n2_ := Aside0.mk (hbox); have n3_ := Aside0.mk ((by rw [hg]; exact (below_size (by repeat (first | (with_reducible first | exact HB.out | apply below_alloc | apply pw_below_drewN | apply below_drew1 | refine below_set ?_ GE209.out) | exact HB.out))) : w.heap.size ≤ gb211)); have n4_ := Aside0.mk ((by rw [hg]; exact (below_size (by repeat (first | (with_reducible first | exact HB.out | apply below_alloc | apply pw_below_drewN | apply below_drew1 | refine below_set ?_ GE209.out) | exact HB.out))) : w.heap.size ≤ gb211)); have n5_ := Aside0.mk ((by rw [hg]; exact Nat.ne_of_lt (blk_lt (g := gb209) (o := .cells #[.string ((rd_T80 l0 x17_1).f0), .int .i64 ((rd_T80 l0 x17_1).f1), .int .i64 ((rd_T80 l0 x17_1).f2), .int .i32 ((rd_T80 l0 x17_1).f3), .slice A208_4 ((rd_T80 l0 x17_1).f4).length c208_4] 80 (0, 0)) (by (with_reducible repeat (first | refine blk_drewN ?_ _ | refine blk_drew ?_ | refine blk_alloc ?_ _)); refine blk_put (cs := #[.string ((rd_T80 l0 x17_1).f0), .int .i64 ((rd_T80 l0 x17_1).f1), .int .i64 ((rd_T80 l0 x17_1).f2), .int .i32 ((rd_T80 l0 x17_1).f3), .slice none 0 0]) ?_ 4 _ rfl; (with_reducible repeat (first | refine blk_drewN ?_ _ | refine blk_drew ?_ | refine blk_alloc ?_ _)); refine blk_put (cs := #[.string ((rd_T80 l0 x17_1).f0), .int .i64 ((rd_T80 l0 x17_1).f1), .int .i64 ((rd_T80 l0 x17_1).f2), .int .i32 0, .slice none 0 0]) ?_ 3 _ rfl; (with_reducible repeat (first | refine blk_drewN ?_ _ | refine blk_drew ?_ | refine blk_alloc ?_ _)); refine blk_put (cs := #[.string ((rd_T80 l0 x17_1).f0), .int .i64 ((rd_T80 l0 x17_1).f1), .int .i64 0, .int .i32 0, .slice none 0 0]) ?_ 2 _ rfl; (with_reducible repeat (first | refine blk_drewN ?_ _ | refine blk_drew ?_ | refine blk_alloc ?_ _)); refine blk_put (cs := #[.string ((rd_T80 l0 x17_1).f0), .int .i64 0, .int .i64 0, .int .i32 0, .slice none 0 0]) ?_ 1 _ rfl; (with_reducible repeat (first | refine blk_drewN ?_ _ | refine blk_drew ?_ | refine blk_alloc ?_ _)); refine blk_put (cs := #[.string (⟨#[]⟩ : ByteArray), .int .i64 0, .int .i64 0, .int .i32 0, .slice none 0 0]) ?_ 0 _ rfl; (with_reducible repeat (first | refine blk_drewN ?_ _ | refine blk_drew ?_ | refine blk_alloc ?_ _)); exact BK209.out)) : gb209 ≠ gb211)); have n6_ := Aside0.mk ((by rw [hg]; exact Nat.ne_of_gt (blk_lt (g := gb209) (o := .cells #[.string ((rd_T80 l0 x17_1).f0), .int .i64 ((rd_T80 l0 x17_1).f1), .int .i64 ((rd_T80 l0 x17_1).f2), .int .i32 ((rd_T80 l0 x17_1).f3), .slice A208_4 ((rd_T80 l0 x17_1).f4).length c208_4] 80 (0, 0)) (by (with_reducible repeat (first | refine blk_drewN ?_ _ | refine blk_drew ?_ | refine blk_alloc ?_ _)); refine blk_put (cs := #[.string ((rd_T80 l0 x17_1).f0), .int .i64 ((rd_T80 l0 x17_1).f1), .int .i64 ((rd_T80 l0 x17_1).f2), .int .i32 ((rd_T80 l0 x17_1).f3), .slice none 0 0]) ?_ 4 _ rfl; (with_reducible repeat (first | refine blk_drewN ?_ _ | refine blk_drew ?_ | refine blk_alloc ?_ _)); refine blk_put (cs := #[.string ((rd_T80 l0 x17_1).f0), .int .i64 ((rd_T80 l0 x17_1).f1), .int .i64 ((rd_T80 l0 x17_1).f2), .int .i32 0, .slice none 0 0]) ?_ 3 _ rfl; (with_reducible repeat (first | refine blk_drewN ?_ _ | refine blk_drew ?_ | refine blk_alloc ?_ _)); refine blk_put (cs := #[.string ((rd_T80 l0 x17_1).f0), .int .i64 ((rd_T80 l0 x17_1).f1), .int .i64 0, .int .i32 0, .slice none 0 0]) ?_ 2 _ rfl; (with_reducible repeat (first | refine blk_drewN ?_ _ | refine blk_drew ?_ | refine blk_alloc ?_ _)); refine blk_put (cs := #[.string ((rd_T80 l0 x17_1).f0), .int .i64 0, .int .i64 0, .int .i32 0, .slice none 0 0]) ?_ 1 _ rfl; (with_reducible repeat (first | refine blk_drewN ?_ _ | refine blk_drew ?_ | refine blk_alloc ?_ _)); refine blk_put (cs := #[.string (⟨#[]⟩ : ByteArray), .int .i64 0, .int .i64 0, .int .i32 0, .slice none 0 0]) ?_ 0 _ rfl; (with_reducible repeat (first | refine blk_drewN ?_ _ | refine blk_drew ?_ | refine blk_alloc ?_ _)); exact BK209.out)) : gb211 ≠ gb209)); clear BK209; clear HB; have BK209 := n0_; have HB := n1_; have BK211 := n2_; have GW211 := n3_; have GE211 := n4_; have NB209_211 := n5_; have NB211_209 := n6_; clear n0_ n1_ n2_ n3_ n4_ n5_ n6_; clear hb hbox hg; have hnb12 := NB211_209.out; have hnc12 := NB209_211.out; have hcz13_0 : w11.cell? ⟨gb211, 0, none⟩ = some (.string (⟨#[]⟩ : ByteArray)) := (blk_cell BK211.out 0).trans rfl; have hcz13_1 : w11.cell? ⟨gb211, 1, none⟩ = some (.int .i64 0) := (blk_cell BK211.out 1).trans rfl; have hcz13_2 : w11.cell? ⟨gb211, 2, none⟩ = some (.int .i64 0) := (blk_cell BK211.out 2).trans rfl; have hcz13_3 : w11.cell? ⟨gb211, 3, none⟩ = some (.int .i32 0) := (blk_cell BK211.out 3).trans rfl; have hcz13_4 : w11.cell? ⟨gb211, 4, none⟩ = some (.slice none 0 0) := (blk_cell BK211.out 4).trans rfl; have hfz13_0 := blk_frozen BK211.out 0; have hfz13_1 := blk_frozen BK211.out 1; have hfz13_2 := blk_frozen BK211.out 2; have hfz13_3 := blk_frozen BK211.out 3; have hfz13_4 := blk_frozen BK211.out 4)); go_upto_region 7 with (first | ((with_reducible refine gate_dst (N := 6) rfl ?_); (try (refine gate_guard (by rfl) ?_; dsimp only)); refine box_event ?hg (N := 6) ?hd (cs := #[.string (⟨#[]⟩ : ByteArray), .int .i64 0, .int .i64 0, .int .i32 0, .slice none 0 0]) (t := 80) ?hr ?_; (case hd => rfl); (case hg => rfl); (case hr => first | (go_simp; done) | (go_simp; rfl)); intro gb209 hg w9 hbox hb; have n0_ := Aside0.mk (below_step (by repeat (first | (with_reducible first | exact HB.out | apply below_alloc | apply pw_below_drewN | apply below_drew1) | exact HB.out)) hb); have n1_ := Aside0.mk (hbox); have n2_ := Aside0.mk ((by rw [hg]; exact (below_size (by repeat (first | (with_reducible first | exact HB.out | apply below_alloc | apply pw_below_drewN | apply below_drew1) | exact HB.out))) : w.heap.size ≤ gb209)); have n3_ := Aside0.mk ((by rw [hg]; exact (below_size (by repeat (first | (with_reducible first | exact HB.out | apply below_alloc | apply pw_below_drewN | apply below_drew1) | exact HB.out))) : w.heap.size ≤ gb209)); clear HB; have HB := n0_; have BK209 := n1_; have GW209 := n2_; have GE209 := n3_; clear n0_ n1_ n2_ n3_; clear hb hbox hg; have hcz10_0 : w9.cell? ⟨gb209, 0, none⟩ = some (.string (⟨#[]⟩ : ByteArray)) := (blk_cell BK209.out 0).trans rfl; have hcz10_1 : w9.cell? ⟨gb209, 1, none⟩ = some (.int .i64 0) := (blk_cell BK209.out 1).trans rfl; have hcz10_2 : w9.cell? ⟨gb209, 2, none⟩ = some (.int .i64 0) := (blk_cell BK209.out 2).trans rfl; have hcz10_3 : w9.cell? ⟨gb209, 3, none⟩ = some (.int .i32 0) := (blk_cell BK209.out 3).trans rfl; have hcz10_4 : w9.cell? ⟨gb209, 4, none⟩ = some (.slice none 0 0) := (blk_cell BK209.out 4).trans rfl; have hfz10_0 := blk_frozen BK209.out 0; have hfz10_1 := blk_frozen BK209.out 1; have hfz10_2 := blk_frozen BK209.out 2; have hfz10_3 := blk_frozen BK209.out 3; have hfz10_4 := blk_frozen BK209.out 4; have p210 : 0 ≤ (x17_1 : Int) := of_decide_eq_true (by first | (with_reducible assumption) | assumption); have q210 : x17_1 < (l1.length : Int) := of_decide_eq_true (by first | (with_reducible assumption) | assumption); obtain ⟨ad210, A210_4, c210_4, e210, hx210_0, hx210_1, hx210_2, hx210_3, hx210_4, hl210_4, hi210_4⟩ := at_T80 HR1.out x17_1 p210 q210; cases e210; have hn210_0 : ad210.block ≠ gb209 := Nat.ne_of_lt (Nat.lt_of_lt_of_le (by have := World.block_lt_of_cell? _ _ hx210_0; first | rwa [add_block] at this | exact this) GW209.out); have hn210_1 : ad210.block ≠ gb209 := Nat.ne_of_lt (Nat.lt_of_lt_of_le (by have := World.block_lt_of_cell? _ _ hx210_0; first | rwa [add_block] at this | exact this) GW209.out); have hn210_2 : ad210.block ≠ gb209 := Nat.ne_of_lt (Nat.lt_of_lt_of_le (by have := World.block_lt_of_cell? _ _ hx210_0; first | rwa [add_block] at this | exact this) GW209.out); have hn210_3 : ad210.block ≠ gb209 := Nat.ne_of_lt (Nat.lt_of_lt_of_le (by have := World.block_lt_of_cell? _ _ hx210_0; first | rwa [add_block] at this | exact this) GW209.out); have hn210_4 : ad210.block ≠ gb209 := Nat.ne_of_lt (Nat.lt_of_lt_of_le (by have := World.block_lt_of_cell? _ _ hx210_0; first | rwa [add_block] at this | exact this) GW209.out); replace hx210_0 := (HB.out.cell (World.block_lt_of_cell? w _ hx210_0)).trans hx210_0; replace hx210_1 := (HB.out.cell (World.block_lt_of_cell? w _ hx210_1)).trans hx210_1; replace hx210_2 := (HB.out.cell (World.block_lt_of_cell? w _ hx210_2)).trans hx210_2; replace hx210_3 := (HB.out.cell (World.block_lt_of_cell? w _ hx210_3)).trans hx210_3; replace hx210_4 := (HB.out.cell (World.block_lt_of_cell? w _ hx210_4)).trans hx210_4; have HR210_4 := Aside0.mk hi210_4; have HC210_4 := Aside0.mk hl210_4; clear hi210_4 hl210_4; replace hx210_0 := (cell_far (p := ⟨gb209, 0, none⟩) (by first | (rw [add_block]; exact hn210_0) | (show (Addr.add _ _).block ≠ _; rw [add_block]; exact hn210_0) | exact hn210_0) (.string ((rd_T80 l0 x17_1).f0))).trans hx210_0; replace hx210_1 := (cell_far (p := ⟨gb209, 0, none⟩) (by first | (rw [add_block]; exact hn210_0) | (show (Addr.add _ _).block ≠ _; rw [add_block]; exact hn210_0) | exact hn210_0) (.string ((rd_T80 l0 x17_1).f0))).trans hx210_1; replace hx210_2 := (cell_far (p := ⟨gb209, 0, none⟩) (by first | (rw [add_block]; exact hn210_0) | (show (Addr.add _ _).block ≠ _; rw [add_block]; exact hn210_0) | exact hn210_0) (.string ((rd_T80 l0 x17_1).f0))).trans hx210_2; replace hx210_3 := (cell_far (p := ⟨gb209, 0, none⟩) (by first | (rw [add_block]; exact hn210_0) | (show (Addr.add _ _).block ≠ _; rw [add_block]; exact hn210_0) | exact hn210_0) (.string ((rd_T80 l0 x17_1).f0))).trans hx210_3; replace hx210_4 := (cell_far (p := ⟨gb209, 0, none⟩) (by first | (rw [add_block]; exact hn210_0) | (show (Addr.add _ _).block ≠ _; rw [add_block]; exact hn210_0) | exact hn210_0) (.string ((rd_T80 l0 x17_1).f0))).trans hx210_4; replace hx210_0 := (cell_far (p := ⟨gb209, 1, none⟩) (by first | (rw [add_block]; exact hn210_1) | (show (Addr.add _ _).block ≠ _; rw [add_block]; exact hn210_1) | exact hn210_1) (.int .i64 ((rd_T80 l0 x17_1).f1))).trans hx210_0; replace hx210_1 := (cell_far (p := ⟨gb209, 1, none⟩) (by first | (rw [add_block]; exact hn210_1) | (show (Addr.add _ _).block ≠ _; rw [add_block]; exact hn210_1) | exact hn210_1) (.int .i64 ((rd_T80 l0 x17_1).f1))).trans hx210_1; replace hx210_2 := (cell_far (p := ⟨gb209, 1, none⟩) (by first | (rw [add_block]; exact hn210_1) | (show (Addr.add _ _).block ≠ _; rw [add_block]; exact hn210_1) | exact hn210_1) (.int .i64 ((rd_T80 l0 x17_1).f1))).trans hx210_2; replace hx210_3 := (cell_far (p := ⟨gb209, 1, none⟩) (by first | (rw [add_block]; exact hn210_1) | (show (Addr.add _ _).block ≠ _; rw [add_block]; exact hn210_1) | exact hn210_1) (.int .i64 ((rd_T80 l0 x17_1).f1))).trans hx210_3; replace hx210_4 := (cell_far (p := ⟨gb209, 1, none⟩) (by first | (rw [add_block]; exact hn210_1) | (show (Addr.add _ _).block ≠ _; rw [add_block]; exact hn210_1) | exact hn210_1) (.int .i64 ((rd_T80 l0 x17_1).f1))).trans hx210_4; replace hx210_0 := (cell_far (p := ⟨gb209, 2, none⟩) (by first | (rw [add_block]; exact hn210_2) | (show (Addr.add _ _).block ≠ _; rw [add_block]; exact hn210_2) | exact hn210_2) (.int .i64 ((rd_T80 l0 x17_1).f2))).trans hx210_0; replace hx210_1 := (cell_far (p := ⟨gb209, 2, none⟩) (by first | (rw [add_block]; exact hn210_2) | (show (Addr.add _ _).block ≠ _; rw [add_block]; exact hn210_2) | exact hn210_2) (.int .i64 ((rd_T80 l0 x17_1).f2))).trans hx210_1; replace hx210_2 := (cell_far (p := ⟨gb209, 2, none⟩) (by first | (rw [add_block]; exact hn210_2) | (show (Addr.add _ _).block ≠ _; rw [add_block]; exact hn210_2) | exact hn210_2) (.int .i64 ((rd_T80 l0 x17_1).f2))).trans hx210_2; replace hx210_3 := (cell_far (p := ⟨gb209, 2, none⟩) (by first | (rw [add_block]; exact hn210_2) | (show (Addr.add _ _).block ≠ _; rw [add_block]; exact hn210_2) | exact hn210_2) (.int .i64 ((rd_T80 l0 x17_1).f2))).trans hx210_3; replace hx210_4 := (cell_far (p := ⟨gb209, 2, none⟩) (by first | (rw [add_block]; exact hn210_2) | (show (Addr.add _ _).block ≠ _; rw [add_block]; exact hn210_2) | exact hn210_2) (.int .i64 ((rd_T80 l0 x17_1).f2))).trans hx210_4; replace hx210_0 := (cell_far (p := ⟨gb209, 3, none⟩) (by first | (rw [add_block]; exact hn210_3) | (show (Addr.add _ _).block ≠ _; rw [add_block]; exact hn210_3) | exact hn210_3) (.int .i32 ((rd_T80 l0 x17_1).f3))).trans hx210_0; replace hx210_1 := (cell_far (p := ⟨gb209, 3, none⟩) (by first | (rw [add_block]; exact hn210_3) | (show (Addr.add _ _).block ≠ _; rw [add_block]; exact hn210_3) | exact hn210_3) (.int .i32 ((rd_T80 l0 x17_1).f3))).trans hx210_1; replace hx210_2 := (cell_far (p := ⟨gb209, 3, none⟩) (by first | (rw [add_block]; exact hn210_3) | (show (Addr.add _ _).block ≠ _; rw [add_block]; exact hn210_3) | exact hn210_3) (.int .i32 ((rd_T80 l0 x17_1).f3))).trans hx210_2; replace hx210_3 := (cell_far (p := ⟨gb209, 3, none⟩) (by first | (rw [add_block]; exact hn210_3) | (show (Addr.add _ _).block ≠ _; rw [add_block]; exact hn210_3) | exact hn210_3) (.int .i32 ((rd_T80 l0 x17_1).f3))).trans hx210_3; replace hx210_4 := (cell_far (p := ⟨gb209, 3, none⟩) (by first | (rw [add_block]; exact hn210_3) | (show (Addr.add _ _).block ≠ _; rw [add_block]; exact hn210_3) | exact hn210_3) (.int .i32 ((rd_T80 l0 x17_1).f3))).trans hx210_4; replace hx210_0 := (cell_far (p := ⟨gb209, 4, none⟩) (by first | (rw [add_block]; exact hn210_4) | (show (Addr.add _ _).block ≠ _; rw [add_block]; exact hn210_4) | exact hn210_4) (.slice A208_4 ((rd_T80 l0 x17_1).f4).length c208_4)).trans hx210_0; replace hx210_1 := (cell_far (p := ⟨gb209, 4, none⟩) (by first | (rw [add_block]; exact hn210_4) | (show (Addr.add _ _).block ≠ _; rw [add_block]; exact hn210_4) | exact hn210_4) (.slice A208_4 ((rd_T80 l0 x17_1).f4).length c208_4)).trans hx210_1; replace hx210_2 := (cell_far (p := ⟨gb209, 4, none⟩) (by first | (rw [add_block]; exact hn210_4) | (show (Addr.add _ _).block ≠ _; rw [add_block]; exact hn210_4) | exact hn210_4) (.slice A208_4 ((rd_T80 l0 x17_1).f4).length c208_4)).trans hx210_2; replace hx210_3 := (cell_far (p := ⟨gb209, 4, none⟩) (by first | (rw [add_block]; exact hn210_4) | (show (Addr.add _ _).block ≠ _; rw [add_block]; exact hn210_4) | exact hn210_4) (.slice A208_4 ((rd_T80 l0 x17_1).f4).length c208_4)).trans hx210_3; replace hx210_4 := (cell_far (p := ⟨gb209, 4, none⟩) (by first | (rw [add_block]; exact hn210_4) | (show (Addr.add _ _).block ≠ _; rw [add_block]; exact hn210_4) | exact hn210_4) (.slice A208_4 ((rd_T80 l0 x17_1).f4).length c208_4)).trans hx210_4; (try have hy210_0 := fun (n_ : Nat) => (show (((((((w9.drewN n_).setCell ⟨gb209, 0, none⟩ (.string ((rd_T80 l0 x17_1).f0))).setCell ⟨gb209, 1, none⟩ (.int .i64 ((rd_T80 l0 x17_1).f1))).setCell ⟨gb209, 2, none⟩ (.int .i64 ((rd_T80 l0 x17_1).f2))).setCell ⟨gb209, 3, none⟩ (.int .i32 ((rd_T80 l0 x17_1).f3))).setCell ⟨gb209, 4, none⟩ (.slice A208_4 ((rd_T80 l0 x17_1).f4).length c208_4))).cell? _ = some _ from hx210_0)); (try have hy210_1 := fun (n_ : Nat) => (show (((((((w9.drewN n_).setCell ⟨gb209, 0, none⟩ (.string ((rd_T80 l0 x17_1).f0))).setCell ⟨gb209, 1, none⟩ (.int .i64 ((rd_T80 l0 x17_1).f1))).setCell ⟨gb209, 2, none⟩ (.int .i64 ((rd_T80 l0 x17_1).f2))).setCell ⟨gb209, 3, none⟩ (.int .i32 ((rd_T80 l0 x17_1).f3))).setCell ⟨gb209, 4, none⟩ (.slice A208_4 ((rd_T80 l0 x17_1).f4).length c208_4))).cell? _ = some _ from hx210_1)); (try have hy210_2 := fun (n_ : Nat) => (show (((((((w9.drewN n_).setCell ⟨gb209, 0, none⟩ (.string ((rd_T80 l0 x17_1).f0))).setCell ⟨gb209, 1, none⟩ (.int .i64 ((rd_T80 l0 x17_1).f1))).setCell ⟨gb209, 2, none⟩ (.int .i64 ((rd_T80 l0 x17_1).f2))).setCell ⟨gb209, 3, none⟩ (.int .i32 ((rd_T80 l0 x17_1).f3))).setCell ⟨gb209, 4, none⟩ (.slice A208_4 ((rd_T80 l0 x17_1).f4).length c208_4))).cell? _ = some _ from hx210_2)); (try have hy210_3 := fun (n_ : Nat) => (show (((((((w9.drewN n_).setCell ⟨gb209, 0, none⟩ (.string ((rd_T80 l0 x17_1).f0))).setCell ⟨gb209, 1, none⟩ (.int .i64 ((rd_T80 l0 x17_1).f1))).setCell ⟨gb209, 2, none⟩ (.int .i64 ((rd_T80 l0 x17_1).f2))).setCell ⟨gb209, 3, none⟩ (.int .i32 ((rd_T80 l0 x17_1).f3))).setCell ⟨gb209, 4, none⟩ (.slice A208_4 ((rd_T80 l0 x17_1).f4).length c208_4))).cell? _ = some _ from hx210_3)); (try have hy210_4 := fun (n_ : Nat) => (show (((((((w9.drewN n_).setCell ⟨gb209, 0, none⟩ (.string ((rd_T80 l0 x17_1).f0))).setCell ⟨gb209, 1, none⟩ (.int .i64 ((rd_T80 l0 x17_1).f1))).setCell ⟨gb209, 2, none⟩ (.int .i64 ((rd_T80 l0 x17_1).f2))).setCell ⟨gb209, 3, none⟩ (.int .i32 ((rd_T80 l0 x17_1).f3))).setCell ⟨gb209, 4, none⟩ (.slice A208_4 ((rd_T80 l0 x17_1).f4).length c208_4))).cell? _ = some _ from hx210_4)); clear hn210_0; clear hn210_1; clear hn210_2; clear hn210_3; clear hn210_4; replace p210 := eq_true p210; replace q210 := eq_true q210) | ((with_reducible refine gate_dst (N := 7) rfl ?_); (try (refine gate_guard (by rfl) ?_; dsimp only)); refine box_event ?hg (N := 7) ?hd (cs := #[.string (⟨#[]⟩ : ByteArray), .int .i64 0, .int .i64 0, .int .i32 0, .slice none 0 0]) (t := 80) ?hr ?_; (case hd => rfl); (case hg => rfl); (case hr => first | (go_simp; done) | (go_simp; rfl)); intro gb211 hg w11 hbox hb; have n0_ := Aside0.mk (blk_below (g := gb209) (o := .cells #[.string ((rd_T80 l0 x17_1).f0), .int .i64 ((rd_T80 l0 x17_1).f1), .int .i64 ((rd_T80 l0 x17_1).f2), .int .i32 ((rd_T80 l0 x17_1).f3), .slice A208_4 ((rd_T80 l0 x17_1).f4).length c208_4] 80 (0, 0)) (by (with_reducible repeat (first | refine blk_drewN ?_ _ | refine blk_drew ?_ | refine blk_alloc ?_ _)); refine blk_put (cs := #[.string ((rd_T80 l0 x17_1).f0), .int .i64 ((rd_T80 l0 x17_1).f1), .int .i64 ((rd_T80 l0 x17_1).f2), .int .i32 ((rd_T80 l0 x17_1).f3), .slice none 0 0]) ?_ 4 _ rfl; (with_reducible repeat (first | refine blk_drewN ?_ _ | refine blk_drew ?_ | refine blk_alloc ?_ _)); refine blk_put (cs := #[.string ((rd_T80 l0 x17_1).f0), .int .i64 ((rd_T80 l0 x17_1).f1), .int .i64 ((rd_T80 l0 x17_1).f2), .int .i32 0, .slice none 0 0]) ?_ 3 _ rfl; (with_reducible repeat (first | refine blk_drewN ?_ _ | refine blk_drew ?_ | refine blk_alloc ?_ _)); refine blk_put (cs := #[.string ((rd_T80 l0 x17_1).f0), .int .i64 ((rd_T80 l0 x17_1).f1), .int .i64 0, .int .i32 0, .slice none 0 0]) ?_ 2 _ rfl; (with_reducible repeat (first | refine blk_drewN ?_ _ | refine blk_drew ?_ | refine blk_alloc ?_ _)); refine blk_put (cs := #[.string ((rd_T80 l0 x17_1).f0), .int .i64 0, .int .i64 0, .int .i32 0, .slice none 0 0]) ?_ 1 _ rfl; (with_reducible repeat (first | refine blk_drewN ?_ _ | refine blk_drew ?_ | refine blk_alloc ?_ _)); refine blk_put (cs := #[.string (⟨#[]⟩ : ByteArray), .int .i64 0, .int .i64 0, .int .i32 0, .slice none 0 0]) ?_ 0 _ rfl; (with_reducible repeat (first | refine blk_drewN ?_ _ | refine blk_drew ?_ | refine blk_alloc ?_ _)); exact BK209.out) hb); have n1_ := Aside0.mk (below_step (by repeat (first | (with_reducible first | exact HB.out | apply below_alloc | apply pw_below_drewN | apply below_drew1 | refine below_set ?_ GE209.out) | exact HB.out)) hb); have n2_ := Aside0.mk (hbox); have n3_ := Aside0.mk ((by rw [hg]; exact (below_size (by repeat (first | (with_reducible first | exact HB.out | apply below_alloc | apply pw_below_drewN | apply below_drew1 | refine below_set ?_ GE209.out) | exact HB.out))) : w.heap.size ≤ gb211)); have n4_ := Aside0.mk ((by rw [hg]; exact (below_size (by repeat (first | (with_reducible first | exact HB.out | apply below_alloc | apply pw_below_drewN | apply below_drew1 | refine below_set ?_ GE209.out) | exact HB.out))) : w.heap.size ≤ gb211)); have n5_ := Aside0.mk ((by rw [hg]; exact Nat.ne_of_lt (blk_lt (g := gb209) (o := .cells #[.string ((rd_T80 l0 x17_1).f0), .int .i64 ((rd_T80 l0 x17_1).f1), .int .i64 ((rd_T80 l0 x17_1).f2), .int .i32 ((rd_T80 l0 x17_1).f3), .slice A208_4 ((rd_T80 l0 x17_1).f4).length c208_4] 80 (0, 0)) (by (with_reducible repeat (first | refine blk_drewN ?_ _ | refine blk_drew ?_ | refine blk_alloc ?_ _)); refine blk_put (cs := #[.string ((rd_T80 l0 x17_1).f0), .int .i64 ((rd_T80 l0 x17_1).f1), .int .i64 ((rd_T80 l0 x17_1).f2), .int .i32 ((rd_T80 l0 x17_1).f3), .slice none 0 0]) ?_ 4 _ rfl; (with_reducible repeat (first | refine blk_drewN ?_ _ | refine blk_drew ?_ | refine blk_alloc ?_ _)); refine blk_put (cs := #[.string ((rd_T80 l0 x17_1).f0), .int .i64 ((rd_T80 l0 x17_1).f1), .int .i64 ((rd_T80 l0 x17_1).f2), .int .i32 0, .slice none 0 0]) ?_ 3 _ rfl; (with_reducible repeat (first | refine blk_drewN ?_ _ | refine blk_drew ?_ | refine blk_alloc ?_ _)); refine blk_put (cs := #[.string ((rd_T80 l0 x17_1).f0), .int .i64 ((rd_T80 l0 x17_1).f1), .int .i64 0, .int .i32 0, .slice none 0 0]) ?_ 2 _ rfl; (with_reducible repeat (first | refine blk_drewN ?_ _ | refine blk_drew ?_ | refine blk_alloc ?_ _)); refine blk_put (cs := #[.string ((rd_T80 l0 x17_1).f0), .int .i64 0, .int .i64 0, .int .i32 0, .slice none 0 0]) ?_ 1 _ rfl; (with_reducible repeat (first | refine blk_drewN ?_ _ | refine blk_drew ?_ | refine blk_alloc ?_ _)); refine blk_put (cs := #[.string (⟨#[]⟩ : ByteArray), .int .i64 0, .int .i64 0, .int .i32 0, .slice none 0 0]) ?_ 0 _ rfl; (with_reducible repeat (first | refine blk_drewN ?_ _ | refine blk_drew ?_ | refine blk_alloc ?_ _)); exact BK209.out)) : gb209 ≠ gb211)); have n6_ := Aside0.mk ((by rw [hg]; exact Nat.ne_of_gt (blk_lt (g := gb209) (o := .cells #[.string ((rd_T80 l0 x17_1).f0), .int .i64 ((rd_T80 l0 x17_1).f1), .int .i64 ((rd_T80 l0 x17_1).f2), .int .i32 ((rd_T80 l0 x17_1).f3), .slice A208_4 ((rd_T80 l0 x17_1).f4).length c208_4] 80 (0, 0)) (by (with_reducible repeat (first | refine blk_drewN ?_ _ | refine blk_drew ?_ | refine blk_alloc ?_ _)); refine blk_put (cs := #[.string ((rd_T80 l0 x17_1).f0), .int .i64 ((rd_T80 l0 x17_1).f1), .int .i64 ((rd_T80 l0 x17_1).f2), .int .i32 ((rd_T80 l0 x17_1).f3), .slice none 0 0]) ?_ 4 _ rfl; (with_reducible repeat (first | refine blk_drewN ?_ _ | refine blk_drew ?_ | refine blk_alloc ?_ _)); refine blk_put (cs := #[.string ((rd_T80 l0 x17_1).f0), .int .i64 ((rd_T80 l0 x17_1).f1), .int .i64 ((rd_T80 l0 x17_1).f2), .int .i32 0, .slice none 0 0]) ?_ 3 _ rfl; (with_reducible repeat (first | refine blk_drewN ?_ _ | refine blk_drew ?_ | refine blk_alloc ?_ _)); refine blk_put (cs := #[.string ((rd_T80 l0 x17_1).f0), .int .i64 ((rd_T80 l0 x17_1).f1), .int .i64 0, .int .i32 0, .slice none 0 0]) ?_ 2 _ rfl; (with_reducible repeat (first | refine blk_drewN ?_ _ | refine blk_drew ?_ | refine blk_alloc ?_ _)); refine blk_put (cs := #[.string ((rd_T80 l0 x17_1).f0), .int .i64 0, .int .i64 0, .int .i32 0, .slice none 0 0]) ?_ 1 _ rfl; (with_reducible repeat (first | refine blk_drewN ?_ _ | refine blk_drew ?_ | refine blk_alloc ?_ _)); refine blk_put (cs := #[.string (⟨#[]⟩ : ByteArray), .int .i64 0, .int .i64 0, .int .i32 0, .slice none 0 0]) ?_ 0 _ rfl; (with_reducible repeat (first | refine blk_drewN ?_ _ | refine blk_drew ?_ | refine blk_alloc ?_ _)); exact BK209.out)) : gb211 ≠ gb209)); clear BK209; clear HB; have BK209 := n0_; have HB := n1_; have BK211 := n2_; have GW211 := n3_; have GE211 := n4_; have NB209_211 := n5_; have NB211_209 := n6_; clear n0_ n1_ n2_ n3_ n4_ n5_ n6_; clear hb hbox hg; have hnb12 := NB211_209.out; have hnc12 := NB209_211.out; have hcz13_0 : w11.cell? ⟨gb211, 0, none⟩ = some (.string (⟨#[]⟩ : ByteArray)) := (blk_cell BK211.out 0).trans rfl; have hcz13_1 : w11.cell? ⟨gb211, 1, none⟩ = some (.int .i64 0) := (blk_cell BK211.out 1).trans rfl; have hcz13_2 : w11.cell? ⟨gb211, 2, none⟩ = some (.int .i64 0) := (blk_cell BK211.out 2).trans rfl; have hcz13_3 : w11.cell? ⟨gb211, 3, none⟩ = some (.int .i32 0) := (blk_cell BK211.out 3).trans rfl; have hcz13_4 : w11.cell? ⟨gb211, 4, none⟩ = some (.slice none 0 0) := (blk_cell BK211.out 4).trans rfl; have hfz13_0 := blk_frozen BK211.out 0; have hfz13_1 := blk_frozen BK211.out 1; have hfz13_2 := blk_frozen BK211.out 2; have hfz13_3 := blk_frozen BK211.out 3; have hfz13_4 := blk_frozen BK211.out 4)))
                (try simp only [Act.put, List.setIfInBounds_toArray, List.set_cons_zero, List.set_cons_succ])
                go_cut [60] (fun v60 wc => ∃ (kq : Nat) (x60_7 : Bool), v60 = .bool x60_7 ∧ Aside0 (finger_Same.j1 kq l1 l0 (l0.length : Int) x17_1 x60_7 ((rd_T80 l0 x17_1).f0) ((rd_T80 l0 x17_1).f1) ((rd_T80 l0 x17_1).f2) ((rd_T80 l0 x17_1).f3) ((rd_T80 l0 x17_1).f4) ((rd_T80 l1 x17_1).f0) ((rd_T80 l1 x17_1).f1) ((rd_T80 l1 x17_1).f2) ((rd_T80 l1 x17_1).f3) ((rd_T80 l1 x17_1).f4) = some r) ∧ Aside0 (kq ≤ k1) ∧ Aside0 (wc.heap[gb209]? = some (.cells #[.string ((rd_T80 l0 x17_1).f0), .int .i64 ((rd_T80 l0 x17_1).f1), .int .i64 ((rd_T80 l0 x17_1).f2), .int .i32 ((rd_T80 l0 x17_1).f3), (.slice A208_4 ((rd_T80 l0 x17_1).f4).length c208_4)] 80 (0, 0))) ∧ Aside0 (wc.heap[gb211]? = some (.cells #[.string ((rd_T80 l1 x17_1).f0), .int .i64 ((rd_T80 l1 x17_1).f1), .int .i64 ((rd_T80 l1 x17_1).f2), .int .i32 ((rd_T80 l1 x17_1).f3), (.slice A210_4 ((rd_T80 l1 x17_1).f4).length c210_4)] 80 (0, 0))) ∧ Aside0 (Below w.heap.size w wc))
                case first =>
                  have H := HC8.out
                  clear HC8
                  by_cases c14 : ((rd_T80 l0 x17_1).f0).toList = ((rd_T80 l1 x17_1).f0).toList
                  · rw [if_pos c14] at H
                    have c14b0 : (((rd_T80 l0 x17_1).f0).toList == ((rd_T80 l1 x17_1).f0).toList) = true := beq_iff_eq.mpr c14
                    have c14b1 : (((rd_T80 l0 x17_1).f0).toList != ((rd_T80 l1 x17_1).f0).toList) = false := bne_eq_false_iff_eq.mpr c14
                    clear c14
                    (first | rw [c14b0] | (simp only [i64_w, i32_w]; rw [c14b0]) | skip)
                    by_cases c15 : ((rd_T80 l0 x17_1).f1) = ((rd_T80 l1 x17_1).f1)
                    · rw [if_pos c15] at H
                      have c15b0 : (((rd_T80 l0 x17_1).f1) == ((rd_T80 l1 x17_1).f1)) = true := beq_iff_eq.mpr c15
                      have c15b1 : (((rd_T80 l0 x17_1).f1) != ((rd_T80 l1 x17_1).f1)) = false := bne_eq_false_iff_eq.mpr c15
                      clear c15
                      by_cases c16 : ((rd_T80 l0 x17_1).f2) = ((rd_T80 l1 x17_1).f2)
                      · rw [if_pos c16] at H
                        have c16b0 : (((rd_T80 l0 x17_1).f2) == ((rd_T80 l1 x17_1).f2)) = true := beq_iff_eq.mpr c16
                        have c16b1 : (((rd_T80 l0 x17_1).f2) != ((rd_T80 l1 x17_1).f2)) = false := bne_eq_false_iff_eq.mpr c16
                        clear c16
                        by_cases c17 : ((rd_T80 l0 x17_1).f3) = ((rd_T80 l1 x17_1).f3)
                        · rw [if_pos c17] at H
                          have c17b0 : (((rd_T80 l0 x17_1).f3) == ((rd_T80 l1 x17_1).f3)) = true := beq_iff_eq.mpr c17
                          have c17b1 : (((rd_T80 l0 x17_1).f3) != ((rd_T80 l1 x17_1).f3)) = false := bne_eq_false_iff_eq.mpr c17
                          clear c17
                          have H' := Aside0.mk H
                          clear H
                          have hnb18 := NB209_211.out
                          have hnc18 := NB211_209.out
                          have hcz19_0 : w11.cell? ⟨gb209, 0, none⟩ = some (.string ((rd_T80 l0 x17_1).f0)) := (blk_cell BK209.out 0).trans rfl
                          have hcz19_1 : w11.cell? ⟨gb209, 1, none⟩ = some (.int .i64 ((rd_T80 l0 x17_1).f1)) := (blk_cell BK209.out 1).trans rfl
                          have hcz19_2 : w11.cell? ⟨gb209, 2, none⟩ = some (.int .i64 ((rd_T80 l0 x17_1).f2)) := (blk_cell BK209.out 2).trans rfl
                          have hcz19_3 : w11.cell? ⟨gb209, 3, none⟩ = some (.int .i32 ((rd_T80 l0 x17_1).f3)) := (blk_cell BK209.out 3).trans rfl
                          have hcz19_4 : w11.cell? ⟨gb209, 4, none⟩ = some (.slice A208_4 ((rd_T80 l0 x17_1).f4).length c208_4) := (blk_cell BK209.out 4).trans rfl
                          have hfz19_0 := blk_frozen BK209.out 0
                          have hfz19_1 := blk_frozen BK209.out 1
                          have hfz19_2 := blk_frozen BK209.out 2
                          have hfz19_3 := blk_frozen BK209.out 3
                          have hfz19_4 := blk_frozen BK209.out 4
                          have hcz20_0 : w11.cell? ⟨gb211, 0, none⟩ = some (.string (⟨#[]⟩ : ByteArray)) := (blk_cell BK211.out 0).trans rfl
                          have hcz20_1 : w11.cell? ⟨gb211, 1, none⟩ = some (.int .i64 0) := (blk_cell BK211.out 1).trans rfl
                          have hcz20_2 : w11.cell? ⟨gb211, 2, none⟩ = some (.int .i64 0) := (blk_cell BK211.out 2).trans rfl
                          have hcz20_3 : w11.cell? ⟨gb211, 3, none⟩ = some (.int .i32 0) := (blk_cell BK211.out 3).trans rfl
                          have hcz20_4 : w11.cell? ⟨gb211, 4, none⟩ = some (.slice none 0 0) := (blk_cell BK211.out 4).trans rfl
                          have hfz20_0 := blk_frozen BK211.out 0
                          have hfz20_1 := blk_frozen BK211.out 1
                          have hfz20_2 := blk_frozen BK211.out 2
                          have hfz20_3 := blk_frozen BK211.out 3
                          have hfz20_4 := blk_frozen BK211.out 4
                          go_wp2
                          repeat (go_quiet (fail); try go_wp2)
                          go_meet
                          case rel => exact ⟨_, (((((rd_T80 l0 x17_1).f4).length : Int) != (((rd_T80 l1 x17_1).f4).length : Int))), (by first | rfl | (simp; done) | (simp [*]; done)), H', ⟨by have := HK1.out; first | omega | exact Nat.le_refl _⟩, ⟨by (with_reducible repeat (first | refine blk_drewN ?_ _ | refine blk_drew ?_ | refine blk_alloc ?_ _)); refine blk_far ?_ NB209_211.out _; (with_reducible repeat (first | refine blk_drewN ?_ _ | refine blk_drew ?_ | refine blk_alloc ?_ _)); refine blk_far ?_ NB209_211.out _; (with_reducible repeat (first | refine blk_drewN ?_ _ | refine blk_drew ?_ | refine blk_alloc ?_ _)); refine blk_far ?_ NB209_211.out _; (with_reducible repeat (first | refine blk_drewN ?_ _ | refine blk_drew ?_ | refine blk_alloc ?_ _)); refine blk_far ?_ NB209_211.out _; (with_reducible repeat (first | refine blk_drewN ?_ _ | refine blk_drew ?_ | refine blk_alloc ?_ _)); refine blk_far ?_ NB209_211.out _; (with_reducible repeat (first | refine blk_drewN ?_ _ | refine blk_drew ?_ | refine blk_alloc ?_ _)); exact BK209.out⟩, ⟨by (with_reducible repeat (first | refine blk_drewN ?_ _ | refine blk_drew ?_ | refine blk_alloc ?_ _)); refine blk_put (cs := #[.string ((rd_T80 l1 x17_1).f0), .int .i64 ((rd_T80 l1 x17_1).f1), .int .i64 ((rd_T80 l1 x17_1).f2), .int .i32 ((rd_T80 l1 x17_1).f3), .slice none 0 0]) ?_ 4 _ rfl; (with_reducible repeat (first | refine blk_drewN ?_ _ | refine blk_drew ?_ | refine blk_alloc ?_ _)); refine blk_put (cs := #[.string ((rd_T80 l1 x17_1).f0), .int .i64 ((rd_T80 l1 x17_1).f1), .int .i64 ((rd_T80 l1 x17_1).f2), .int .i32 0, .slice none 0 0]) ?_ 3 _ rfl; (with_reducible repeat (first | refine blk_drewN ?_ _ | refine blk_drew ?_ | refine blk_alloc ?_ _)); refine blk_put (cs := #[.string ((rd_T80 l1 x17_1).f0), .int .i64 ((rd_T80 l1 x17_1).f1), .int .i64 0, .int .i32 0, .slice none 0 0]) ?_ 2 _ rfl; (with_reducible repeat (first | refine blk_drewN ?_ _ | refine blk_drew ?_ | refine blk_alloc ?_ _)); refine blk_put (cs := #[.string ((rd_T80 l1 x17_1).f0), .int .i64 0, .int .i64 0, .int .i32 0, .slice none 0 0]) ?_ 1 _ rfl; (with_reducible repeat (first | refine blk_drewN ?_ _ | refine blk_drew ?_ | refine blk_alloc ?_ _)); refine blk_put (cs := #[.string (⟨#[]⟩ : ByteArray), .int .i64 0, .int .i64 0, .int .i32 0, .slice none 0 0]) ?_ 0 _ rfl; (with_reducible repeat (first | refine blk_drewN ?_ _ | refine blk_drew ?_ | refine blk_alloc ?_ _)); exact BK211.out⟩, ⟨by repeat (first | (with_reducible first | exact HB.out | apply below_alloc | apply pw_below_drewN | apply below_drew1 | refine below_set ?_ GE209.out | refine below_set ?_ GE211.out) | exact HB.out)⟩⟩
                        · rw [if_neg c17] at H
                          have c17b0 : (((rd_T80 l0 x17_1).f3) == ((rd_T80 l1 x17_1).f3)) = false := beq_eq_false_iff_ne.mpr c17
                          have c17b1 : (((rd_T80 l0 x17_1).f3) != ((rd_T80 l1 x17_1).f3)) = true := bne_iff_ne.mpr c17
                          have H' := Aside0.mk H
                          clear H
                          have hnb21 := NB209_211.out
                          have hnc21 := NB211_209.out
                          have hcz22_0 : w11.cell? ⟨gb209, 0, none⟩ = some (.string ((rd_T80 l0 x17_1).f0)) := (blk_cell BK209.out 0).trans rfl
                          have hcz22_1 : w11.cell? ⟨gb209, 1, none⟩ = some (.int .i64 ((rd_T80 l0 x17_1).f1)) := (blk_cell BK209.out 1).trans rfl
                          have hcz22_2 : w11.cell? ⟨gb209, 2, none⟩ = some (.int .i64 ((rd_T80 l0 x17_1).f2)) := (blk_cell BK209.out 2).trans rfl
                          have hcz22_3 : w11.cell? ⟨gb209, 3, none⟩ = some (.int .i32 ((rd_T80 l0 x17_1).f3)) := (blk_cell BK209.out 3).trans rfl
                          have hcz22_4 : w11.cell? ⟨gb209, 4, none⟩ = some (.slice A208_4 ((rd_T80 l0 x17_1).f4).length c208_4) := (blk_cell BK209.out 4).trans rfl
                          have hfz22_0 := blk_frozen BK209.out 0
                          have hfz22_1 := blk_frozen BK209.out 1
                          have hfz22_2 := blk_frozen BK209.out 2
                          have hfz22_3 := blk_frozen BK209.out 3
                          have hfz22_4 := blk_frozen BK209.out 4
                          have hcz23_0 : w11.cell? ⟨gb211, 0, none⟩ = some (.string (⟨#[]⟩ : ByteArray)) := (blk_cell BK211.out 0).trans rfl
                          have hcz23_1 : w11.cell? ⟨gb211, 1, none⟩ = some (.int .i64 0) := (blk_cell BK211.out 1).trans rfl
                          have hcz23_2 : w11.cell? ⟨gb211, 2, none⟩ = some (.int .i64 0) := (blk_cell BK211.out 2).trans rfl
                          have hcz23_3 : w11.cell? ⟨gb211, 3, none⟩ = some (.int .i32 0) := (blk_cell BK211.out 3).trans rfl
                          have hcz23_4 : w11.cell? ⟨gb211, 4, none⟩ = some (.slice none 0 0) := (blk_cell BK211.out 4).trans rfl
                          have hfz23_0 := blk_frozen BK211.out 0
                          have hfz23_1 := blk_frozen BK211.out 1
                          have hfz23_2 := blk_frozen BK211.out 2
                          have hfz23_3 := blk_frozen BK211.out 3
                          have hfz23_4 := blk_frozen BK211.out 4
                          go_wp2
                          repeat (go_quiet (fail); try go_wp2)
                          go_meet
                          case rel => exact ⟨_, (true), (by first | rfl | (simp; done) | (simp [*]; done)), H', ⟨by have := HK1.out; first | omega | exact Nat.le_refl _⟩, ⟨by (with_reducible repeat (first | refine blk_drewN ?_ _ | refine blk_drew ?_ | refine blk_alloc ?_ _)); refine blk_far ?_ NB209_211.out _; (with_reducible repeat (first | refine blk_drewN ?_ _ | refine blk_drew ?_ | refine blk_alloc ?_ _)); refine blk_far ?_ NB209_211.out _; (with_reducible repeat (first | refine blk_drewN ?_ _ | refine blk_drew ?_ | refine blk_alloc ?_ _)); refine blk_far ?_ NB209_211.out _; (with_reducible repeat (first | refine blk_drewN ?_ _ | refine blk_drew ?_ | refine blk_alloc ?_ _)); refine blk_far ?_ NB209_211.out _; (with_reducible repeat (first | refine blk_drewN ?_ _ | refine blk_drew ?_ | refine blk_alloc ?_ _)); refine blk_far ?_ NB209_211.out _; (with_reducible repeat (first | refine blk_drewN ?_ _ | refine blk_drew ?_ | refine blk_alloc ?_ _)); exact BK209.out⟩, ⟨by (with_reducible repeat (first | refine blk_drewN ?_ _ | refine blk_drew ?_ | refine blk_alloc ?_ _)); refine blk_put (cs := #[.string ((rd_T80 l1 x17_1).f0), .int .i64 ((rd_T80 l1 x17_1).f1), .int .i64 ((rd_T80 l1 x17_1).f2), .int .i32 ((rd_T80 l1 x17_1).f3), .slice none 0 0]) ?_ 4 _ rfl; (with_reducible repeat (first | refine blk_drewN ?_ _ | refine blk_drew ?_ | refine blk_alloc ?_ _)); refine blk_put (cs := #[.string ((rd_T80 l1 x17_1).f0), .int .i64 ((rd_T80 l1 x17_1).f1), .int .i64 ((rd_T80 l1 x17_1).f2), .int .i32 0, .slice none 0 0]) ?_ 3 _ rfl; (with_reducible repeat (first | refine blk_drewN ?_ _ | refine blk_drew ?_ | refine blk_alloc ?_ _)); refine blk_put (cs := #[.string ((rd_T80 l1 x17_1).f0), .int .i64 ((rd_T80 l1 x17_1).f1), .int .i64 0, .int .i32 0, .slice none 0 0]) ?_ 2 _ rfl; (with_reducible repeat (first | refine blk_drewN ?_ _ | refine blk_drew ?_ | refine blk_alloc ?_ _)); refine blk_put (cs := #[.string ((rd_T80 l1 x17_1).f0), .int .i64 0, .int .i64 0, .int .i32 0, .slice none 0 0]) ?_ 1 _ rfl; (with_reducible repeat (first | refine blk_drewN ?_ _ | refine blk_drew ?_ | refine blk_alloc ?_ _)); refine blk_put (cs := #[.string (⟨#[]⟩ : ByteArray), .int .i64 0, .int .i64 0, .int .i32 0, .slice none 0 0]) ?_ 0 _ rfl; (with_reducible repeat (first | refine blk_drewN ?_ _ | refine blk_drew ?_ | refine blk_alloc ?_ _)); exact BK211.out⟩, ⟨by repeat (first | (with_reducible first | exact HB.out | apply below_alloc | apply pw_below_drewN | apply below_drew1 | refine below_set ?_ GE209.out | refine below_set ?_ GE211.out) | exact HB.out)⟩⟩
                      · rw [if_neg c16] at H
                        have c16b0 : (((rd_T80 l0 x17_1).f2) == ((rd_T80 l1 x17_1).f2)) = false := beq_eq_false_iff_ne.mpr c16
                        have c16b1 : (((rd_T80 l0 x17_1).f2) != ((rd_T80 l1 x17_1).f2)) = true := bne_iff_ne.mpr c16
                        have H' := Aside0.mk H
                        clear H
                        have hnb24 := NB209_211.out
                        have hnc24 := NB211_209.out
                        have hcz25_0 : w11.cell? ⟨gb209, 0, none⟩ = some (.string ((rd_T80 l0 x17_1).f0)) := (blk_cell BK209.out 0).trans rfl
                        have hcz25_1 : w11.cell? ⟨gb209, 1, none⟩ = some (.int .i64 ((rd_T80 l0 x17_1).f1)) := (blk_cell BK209.out 1).trans rfl
                        have hcz25_2 : w11.cell? ⟨gb209, 2, none⟩ = some (.int .i64 ((rd_T80 l0 x17_1).f2)) := (blk_cell BK209.out 2).trans rfl
                        have hcz25_3 : w11.cell? ⟨gb209, 3, none⟩ = some (.int .i32 ((rd_T80 l0 x17_1).f3)) := (blk_cell BK209.out 3).trans rfl
                        have hcz25_4 : w11.cell? ⟨gb209, 4, none⟩ = some (.slice A208_4 ((rd_T80 l0 x17_1).f4).length c208_4) := (blk_cell BK209.out 4).trans rfl
                        have hfz25_0 := blk_frozen BK209.out 0
                        have hfz25_1 := blk_frozen BK209.out 1
                        have hfz25_2 := blk_frozen BK209.out 2
                        have hfz25_3 := blk_frozen BK209.out 3
                        have hfz25_4 := blk_frozen BK209.out 4
                        have hcz26_0 : w11.cell? ⟨gb211, 0, none⟩ = some (.string (⟨#[]⟩ : ByteArray)) := (blk_cell BK211.out 0).trans rfl
                        have hcz26_1 : w11.cell? ⟨gb211, 1, none⟩ = some (.int .i64 0) := (blk_cell BK211.out 1).trans rfl
                        have hcz26_2 : w11.cell? ⟨gb211, 2, none⟩ = some (.int .i64 0) := (blk_cell BK211.out 2).trans rfl
                        have hcz26_3 : w11.cell? ⟨gb211, 3, none⟩ = some (.int .i32 0) := (blk_cell BK211.out 3).trans rfl
                        have hcz26_4 : w11.cell? ⟨gb211, 4, none⟩ = some (.slice none 0 0) := (blk_cell BK211.out 4).trans rfl
                        have hfz26_0 := blk_frozen BK211.out 0
                        have hfz26_1 := blk_frozen BK211.out 1
                        have hfz26_2 := blk_frozen BK211.out 2
                        have hfz26_3 := blk_frozen BK211.out 3
                        have hfz26_4 := blk_frozen BK211.out 4
                        go_wp2
                        repeat (go_quiet (fail); try go_wp2)
                        go_meet
                        case rel => exact ⟨_, (true), (by first | rfl | (simp; done) | (simp [*]; done)), H', ⟨by have := HK1.out; first | omega | exact Nat.le_refl _⟩, ⟨by (with_reducible repeat (first | refine blk_drewN ?_ _ | refine blk_drew ?_ | refine blk_alloc ?_ _)); refine blk_far ?_ NB209_211.out _; (with_reducible repeat (first | refine blk_drewN ?_ _ | refine blk_drew ?_ | refine blk_alloc ?_ _)); refine blk_far ?_ NB209_211.out _; (with_reducible repeat (first | refine blk_drewN ?_ _ | refine blk_drew ?_ | refine blk_alloc ?_ _)); refine blk_far ?_ NB209_211.out _; (with_reducible repeat (first | refine blk_drewN ?_ _ | refine blk_drew ?_ | refine blk_alloc ?_ _)); refine blk_far ?_ NB209_211.out _; (with_reducible repeat (first | refine blk_drewN ?_ _ | refine blk_drew ?_ | refine blk_alloc ?_ _)); refine blk_far ?_ NB209_211.out _; (with_reducible repeat (first | refine blk_drewN ?_ _ | refine blk_drew ?_ | refine blk_alloc ?_ _)); exact BK209.out⟩, ⟨by (with_reducible repeat (first | refine blk_drewN ?_ _ | refine blk_drew ?_ | refine blk_alloc ?_ _)); refine blk_put (cs := #[.string ((rd_T80 l1 x17_1).f0), .int .i64 ((rd_T80 l1 x17_1).f1), .int .i64 ((rd_T80 l1 x17_1).f2), .int .i32 ((rd_T80 l1 x17_1).f3), .slice none 0 0]) ?_ 4 _ rfl; (with_reducible repeat (first | refine blk_drewN ?_ _ | refine blk_drew ?_ | refine blk_alloc ?_ _)); refine blk_put (cs := #[.string ((rd_T80 l1 x17_1).f0), .int .i64 ((rd_T80 l1 x17_1).f1), .int .i64 ((rd_T80 l1 x17_1).f2), .int .i32 0, .slice none 0 0]) ?_ 3 _ rfl; (with_reducible repeat (first | refine blk_drewN ?_ _ | refine blk_drew ?_ | refine blk_alloc ?_ _)); refine blk_put (cs := #[.string ((rd_T80 l1 x17_1).f0), .int .i64 ((rd_T80 l1 x17_1).f1), .int .i64 0, .int .i32 0, .slice none 0 0]) ?_ 2 _ rfl; (with_reducible repeat (first | refine blk_drewN ?_ _ | refine blk_drew ?_ | refine blk_alloc ?_ _)); refine blk_put (cs := #[.string ((rd_T80 l1 x17_1).f0), .int .i64 0, .int .i64 0, .int .i32 0, .slice none 0 0]) ?_ 1 _ rfl; (with_reducible repeat (first | refine blk_drewN ?_ _ | refine blk_drew ?_ | refine blk_alloc ?_ _)); refine blk_put (cs := #[.string (⟨#[]⟩ : ByteArray), .int .i64 0, .int .i64 0, .int .i32 0, .slice none 0 0]) ?_ 0 _ rfl; (with_reducible repeat (first | refine blk_drewN ?_ _ | refine blk_drew ?_ | refine blk_alloc ?_ _)); exact BK211.out⟩, ⟨by repeat (first | (with_reducible first | exact HB.out | apply below_alloc | apply pw_below_drewN | apply below_drew1 | refine below_set ?_ GE209.out | refine below_set ?_ GE211.out) | exact HB.out)⟩⟩
                    · rw [if_neg c15] at H
                      have c15b0 : (((rd_T80 l0 x17_1).f1) == ((rd_T80 l1 x17_1).f1)) = false := beq_eq_false_iff_ne.mpr c15
                      have c15b1 : (((rd_T80 l0 x17_1).f1) != ((rd_T80 l1 x17_1).f1)) = true := bne_iff_ne.mpr c15
                      have H' := Aside0.mk H
                      clear H
                      have hnb27 := NB209_211.out
                      have hnc27 := NB211_209.out
                      have hcz28_0 : w11.cell? ⟨gb209, 0, none⟩ = some (.string ((rd_T80 l0 x17_1).f0)) := (blk_cell BK209.out 0).trans rfl
                      have hcz28_1 : w11.cell? ⟨gb209, 1, none⟩ = some (.int .i64 ((rd_T80 l0 x17_1).f1)) := (blk_cell BK209.out 1).trans rfl
                      have hcz28_2 : w11.cell? ⟨gb209, 2, none⟩ = some (.int .i64 ((rd_T80 l0 x17_1).f2)) := (blk_cell BK209.out 2).trans rfl
                      have hcz28_3 : w11.cell? ⟨gb209, 3, none⟩ = some (.int .i32 ((rd_T80 l0 x17_1).f3)) := (blk_cell BK209.out 3).trans rfl
                      have hcz28_4 : w11.cell? ⟨gb209, 4, none⟩ = some (.slice A208_4 ((rd_T80 l0 x17_1).f4).length c208_4) := (blk_cell BK209.out 4).trans rfl
                      have hfz28_0 := blk_frozen BK209.out 0
                      have hfz28_1 := blk_frozen BK209.out 1
                      have hfz28_2 := blk_frozen BK209.out 2
                      have hfz28_3 := blk_frozen BK209.out 3
                      have hfz28_4 := blk_frozen BK209.out 4
                      have hcz29_0 : w11.cell? ⟨gb211, 0, none⟩ = some (.string (⟨#[]⟩ : ByteArray)) := (blk_cell BK211.out 0).trans rfl
                      have hcz29_1 : w11.cell? ⟨gb211, 1, none⟩ = some (.int .i64 0) := (blk_cell BK211.out 1).trans rfl
                      have hcz29_2 : w11.cell? ⟨gb211, 2, none⟩ = some (.int .i64 0) := (blk_cell BK211.out 2).trans rfl
                      have hcz29_3 : w11.cell? ⟨gb211, 3, none⟩ = some (.int .i32 0) := (blk_cell BK211.out 3).trans rfl
                      have hcz29_4 : w11.cell? ⟨gb211, 4, none⟩ = some (.slice none 0 0) := (blk_cell BK211.out 4).trans rfl
                      have hfz29_0 := blk_frozen BK211.out 0
                      have hfz29_1 := blk_frozen BK211.out 1
                      have hfz29_2 := blk_frozen BK211.out 2
                      have hfz29_3 := blk_frozen BK211.out 3
                      have hfz29_4 := blk_frozen BK211.out 4
                      go_wp2
                      repeat (go_quiet (fail); try go_wp2)
                      go_meet
                      case rel => exact ⟨_, (true), (by first | rfl | (simp; done) | (simp [*]; done)), H', ⟨by have := HK1.out; first | omega | exact Nat.le_refl _⟩, ⟨by (with_reducible repeat (first | refine blk_drewN ?_ _ | refine blk_drew ?_ | refine blk_alloc ?_ _)); refine blk_far ?_ NB209_211.out _; (with_reducible repeat (first | refine blk_drewN ?_ _ | refine blk_drew ?_ | refine blk_alloc ?_ _)); refine blk_far ?_ NB209_211.out _; (with_reducible repeat (first | refine blk_drewN ?_ _ | refine blk_drew ?_ | refine blk_alloc ?_ _)); refine blk_far ?_ NB209_211.out _; (with_reducible repeat (first | refine blk_drewN ?_ _ | refine blk_drew ?_ | refine blk_alloc ?_ _)); refine blk_far ?_ NB209_211.out _; (with_reducible repeat (first | refine blk_drewN ?_ _ | refine blk_drew ?_ | refine blk_alloc ?_ _)); refine blk_far ?_ NB209_211.out _; (with_reducible repeat (first | refine blk_drewN ?_ _ | refine blk_drew ?_ | refine blk_alloc ?_ _)); exact BK209.out⟩, ⟨by (with_reducible repeat (first | refine blk_drewN ?_ _ | refine blk_drew ?_ | refine blk_alloc ?_ _)); refine blk_put (cs := #[.string ((rd_T80 l1 x17_1).f0), .int .i64 ((rd_T80 l1 x17_1).f1), .int .i64 ((rd_T80 l1 x17_1).f2), .int .i32 ((rd_T80 l1 x17_1).f3), .slice none 0 0]) ?_ 4 _ rfl; (with_reducible repeat (first | refine blk_drewN ?_ _ | refine blk_drew ?_ | refine blk_alloc ?_ _)); refine blk_put (cs := #[.string ((rd_T80 l1 x17_1).f0), .int .i64 ((rd_T80 l1 x17_1).f1), .int .i64 ((rd_T80 l1 x17_1).f2), .int .i32 0, .slice none 0 0]) ?_ 3 _ rfl; (with_reducible repeat (first | refine blk_drewN ?_ _ | refine blk_drew ?_ | refine blk_alloc ?_ _)); refine blk_put (cs := #[.string ((rd_T80 l1 x17_1).f0), .int .i64 ((rd_T80 l1 x17_1).f1), .int .i64 0, .int .i32 0, .slice none 0 0]) ?_ 2 _ rfl; (with_reducible repeat (first | refine blk_drewN ?_ _ | refine blk_drew ?_ | refine blk_alloc ?_ _)); refine blk_put (cs := #[.string ((rd_T80 l1 x17_1).f0), .int .i64 0, .int .i64 0, .int .i32 0, .slice none 0 0]) ?_ 1 _ rfl; (with_reducible repeat (first | refine blk_drewN ?_ _ | refine blk_drew ?_ | refine blk_alloc ?_ _)); refine blk_put (cs := #[.string (⟨#[]⟩ : ByteArray), .int .i64 0, .int .i64 0, .int .i32 0, .slice none 0 0]) ?_ 0 _ rfl; (with_reducible repeat (first | refine blk_drewN ?_ _ | refine blk_drew ?_ | refine blk_alloc ?_ _)); exact BK211.out⟩, ⟨by repeat (first | (with_reducible first | exact HB.out | apply below_alloc | apply pw_below_drewN | apply below_drew1 | refine below_set ?_ GE209.out | refine below_set ?_ GE211.out) | exact HB.out)⟩⟩
                  · rw [if_neg c14] at H
                    have c14b0 : (((rd_T80 l0 x17_1).f0).toList == ((rd_T80 l1 x17_1).f0).toList) = false := beq_eq_false_iff_ne.mpr c14
                    have c14b1 : (((rd_T80 l0 x17_1).f0).toList != ((rd_T80 l1 x17_1).f0).toList) = true := bne_iff_ne.mpr c14
                    (first | rw [c14b0] | (simp only [i64_w, i32_w]; rw [c14b0]) | skip)
                    have H' := Aside0.mk H
                    clear H
                    have hnb30 := NB209_211.out
                    have hnc30 := NB211_209.out
                    have hcz31_0 : w11.cell? ⟨gb209, 0, none⟩ = some (.string ((rd_T80 l0 x17_1).f0)) := (blk_cell BK209.out 0).trans rfl
                    have hcz31_1 : w11.cell? ⟨gb209, 1, none⟩ = some (.int .i64 ((rd_T80 l0 x17_1).f1)) := (blk_cell BK209.out 1).trans rfl
                    have hcz31_2 : w11.cell? ⟨gb209, 2, none⟩ = some (.int .i64 ((rd_T80 l0 x17_1).f2)) := (blk_cell BK209.out 2).trans rfl
                    have hcz31_3 : w11.cell? ⟨gb209, 3, none⟩ = some (.int .i32 ((rd_T80 l0 x17_1).f3)) := (blk_cell BK209.out 3).trans rfl
                    have hcz31_4 : w11.cell? ⟨gb209, 4, none⟩ = some (.slice A208_4 ((rd_T80 l0 x17_1).f4).length c208_4) := (blk_cell BK209.out 4).trans rfl
                    have hfz31_0 := blk_frozen BK209.out 0
                    have hfz31_1 := blk_frozen BK209.out 1
                    have hfz31_2 := blk_frozen BK209.out 2
                    have hfz31_3 := blk_frozen BK209.out 3
                    have hfz31_4 := blk_frozen BK209.out 4
                    have hcz32_0 : w11.cell? ⟨gb211, 0, none⟩ = some (.string (⟨#[]⟩ : ByteArray)) := (blk_cell BK211.out 0).trans rfl
                    have hcz32_1 : w11.cell? ⟨gb211, 1, none⟩ = some (.int .i64 0) := (blk_cell BK211.out 1).trans rfl
                    have hcz32_2 : w11.cell? ⟨gb211, 2, none⟩ = some (.int .i64 0) := (blk_cell BK211.out 2).trans rfl
                    have hcz32_3 : w11.cell? ⟨gb211, 3, none⟩ = some (.int .i32 0) := (blk_cell BK211.out 3).trans rfl
                    have hcz32_4 : w11.cell? ⟨gb211, 4, none⟩ = some (.slice none 0 0) := (blk_cell BK211.out 4).trans rfl
                    have hfz32_0 := blk_frozen BK211.out 0
                    have hfz32_1 := blk_frozen BK211.out 1
                    have hfz32_2 := blk_frozen BK211.out 2
                    have hfz32_3 := blk_frozen BK211.out 3
                    have hfz32_4 := blk_frozen BK211.out 4
                    go_wp2
                    repeat (go_quiet (fail); try go_wp2)
                    go_meet
                    case rel => exact ⟨_, (true), (by first | rfl | (simp; done) | (simp [*]; done)), H', ⟨by have := HK1.out; first | omega | exact Nat.le_refl _⟩, ⟨by (with_reducible repeat (first | refine blk_drewN ?_ _ | refine blk_drew ?_ | refine blk_alloc ?_ _)); refine blk_far ?_ NB209_211.out _; (with_reducible repeat (first | refine blk_drewN ?_ _ | refine blk_drew ?_ | refine blk_alloc ?_ _)); refine blk_far ?_ NB209_211.out _; (with_reducible repeat (first | refine blk_drewN ?_ _ | refine blk_drew ?_ | refine blk_alloc ?_ _)); refine blk_far ?_ NB209_211.out _; (with_reducible repeat (first | refine blk_drewN ?_ _ | refine blk_drew ?_ | refine blk_alloc ?_ _)); refine blk_far ?_ NB209_211.out _; (with_reducible repeat (first | refine blk_drewN ?_ _ | refine blk_drew ?_ | refine blk_alloc ?_ _)); refine blk_far ?_ NB209_211.out _; (with_reducible repeat (first | refine blk_drewN ?_ _ | refine blk_drew ?_ | refine blk_alloc ?_ _)); exact BK209.out⟩, ⟨by (with_reducible repeat (first | refine blk_drewN ?_ _ | refine blk_drew ?_ | refine blk_alloc ?_ _)); refine blk_put (cs := #[.string ((rd_T80 l1 x17_1).f0), .int .i64 ((rd_T80 l1 x17_1).f1), .int .i64 ((rd_T80 l1 x17_1).f2), .int .i32 ((rd_T80 l1 x17_1).f3), .slice none 0 0]) ?_ 4 _ rfl; (with_reducible repeat (first | refine blk_drewN ?_ _ | refine blk_drew ?_ | refine blk_alloc ?_ _)); refine blk_put (cs := #[.string ((rd_T80 l1 x17_1).f0), .int .i64 ((rd_T80 l1 x17_1).f1), .int .i64 ((rd_T80 l1 x17_1).f2), .int .i32 0, .slice none 0 0]) ?_ 3 _ rfl; (with_reducible repeat (first | refine blk_drewN ?_ _ | refine blk_drew ?_ | refine blk_alloc ?_ _)); refine blk_put (cs := #[.string ((rd_T80 l1 x17_1).f0), .int .i64 ((rd_T80 l1 x17_1).f1), .int .i64 0, .int .i32 0, .slice none 0 0]) ?_ 2 _ rfl; (with_reducible repeat (first | refine blk_drewN ?_ _ | refine blk_drew ?_ | refine blk_alloc ?_ _)); refine blk_put (cs := #[.string ((rd_T80 l1 x17_1).f0), .int .i64 0, .int .i64 0, .int .i32 0, .slice none 0 0]) ?_ 1 _ rfl; (with_reducible repeat (first | refine blk_drewN ?_ _ | refine blk_drew ?_ | refine blk_alloc ?_ _)); refine blk_put (cs := #[.string (⟨#[]⟩ : ByteArray), .int .i64 0, .int .i64 0, .int .i32 0, .slice none 0 0]) ?_ 0 _ rfl; (with_reducible repeat (first | refine blk_drewN ?_ _ | refine blk_drew ?_ | refine blk_alloc ?_ _)); exact BK211.out⟩, ⟨by repeat (first | (with_reducible first | exact HB.out | apply below_alloc | apply pw_below_drewN | apply below_drew1 | refine below_set ?_ GE209.out | refine below_set ?_ GE211.out) | exact HB.out)⟩⟩
                case rest =>
                  clear HC8
                  try clear c1
                  try clear c2
                  try clear p2
                  try clear q2
                  try clear hx2
                  try clear c3
                  try clear c3b0
                  try clear c3b1
                  try clear c3b2
                  try clear c4
                  try clear c4b0
                  try clear c5
                  try clear c5b0
                  try clear c6
                  try clear c6b0
                  try clear c7
                  try clear c7b0
                  try clear c12
                  try clear c14
                  try clear c14b0
                  try clear c14b1
                  try clear c15
                  try clear c15b0
                  try clear c15b1
                  try clear c16
                  try clear c16b0
                  try clear c16b1
                  try clear c17
                  try clear c17b0
                  try clear c17b1
                  try clear c18
                  try clear c20
                  try clear p20
                  try clear q20
                  try clear hx20
                  try clear c21
                  try clear p21
                  try clear q21
                  try clear hx21
                  try clear c24
                  try clear c27
                  try clear c30
                  try clear hcz10_0
                  try clear hcz10_1
                  try clear hcz10_2
                  try clear hcz10_3
                  try clear hcz10_4
                  try clear hcz13_0
                  try clear hcz13_1
                  try clear hcz13_2
                  try clear hcz13_3
                  try clear hcz13_4
                  try clear hcz19_0
                  try clear hcz19_1
                  try clear hcz19_2
                  try clear hcz19_3
                  try clear hcz19_4
                  try clear hcz20_0
                  try clear hcz20_1
                  try clear hcz20_2
                  try clear hcz20_3
                  try clear hcz20_4
                  try clear hcz22_0
                  try clear hcz22_1
                  try clear hcz22_2
                  try clear hcz22_3
                  try clear hcz22_4
                  try clear hcz23_0
                  try clear hcz23_1
                  try clear hcz23_2
                  try clear hcz23_3
                  try clear hcz23_4
                  try clear hcz25_0
                  try clear hcz25_1
                  try clear hcz25_2
                  try clear hcz25_3
                  try clear hcz25_4
                  try clear hcz26_0
                  try clear hcz26_1
                  try clear hcz26_2
                  try clear hcz26_3
                  try clear hcz26_4
                  try clear hcz28_0
                  try clear hcz28_1
                  try clear hcz28_2
                  try clear hcz28_3
                  try clear hcz28_4
                  try clear hcz29_0
                  try clear hcz29_1
                  try clear hcz29_2
                  try clear hcz29_3
                  try clear hcz29_4
                  try clear hcz31_0
                  try clear hcz31_1
                  try clear hcz31_2
                  try clear hcz31_3
                  try clear hcz31_4
                  try clear hcz32_0
                  try clear hcz32_1
                  try clear hcz32_2
                  try clear hcz32_3
                  try clear hcz32_4
                  try clear hfz10_0
                  try clear hfz10_1
                  try clear hfz10_2
                  try clear hfz10_3
                  try clear hfz10_4
                  try clear hfz13_0
                  try clear hfz13_1
                  try clear hfz13_2
                  try clear hfz13_3
                  try clear hfz13_4
                  try clear hfz19_0
                  try clear hfz19_1
                  try clear hfz19_2
                  try clear hfz19_3
                  try clear hfz19_4
                  try clear hfz20_0
                  try clear hfz20_1
                  try clear hfz20_2
                  try clear hfz20_3
                  try clear hfz20_4
                  try clear hfz22_0
                  try clear hfz22_1
                  try clear hfz22_2
                  try clear hfz22_3
                  try clear hfz22_4
                  try clear hfz23_0
                  try clear hfz23_1
                  try clear hfz23_2
                  try clear hfz23_3
                  try clear hfz23_4
                  try clear hfz25_0
                  try clear hfz25_1
                  try clear hfz25_2
                  try clear hfz25_3
                  try clear hfz25_4
                  try clear hfz26_0
                  try clear hfz26_1
                  try clear hfz26_2
                  try clear hfz26_3
                  try clear hfz26_4
                  try clear hfz28_0
                  try clear hfz28_1
                  try clear hfz28_2
                  try clear hfz28_3
                  try clear hfz28_4
                  try clear hfz29_0
                  try clear hfz29_1
                  try clear hfz29_2
                  try clear hfz29_3
                  try clear hfz29_4
                  try clear hfz31_0
                  try clear hfz31_1
                  try clear hfz31_2
                  try clear hfz31_3
                  try clear hfz31_4
                  try clear hfz32_0
                  try clear hfz32_1
                  try clear hfz32_2
                  try clear hfz32_3
                  try clear hfz32_4
                  try clear hx208_0
                  try clear hx208_1
                  try clear hx208_2
                  try clear hx208_3
                  try clear hx208_4
                  try clear hx210_0
                  try clear hx210_1
                  try clear hx210_2
                  try clear hx210_3
                  try clear hx210_4
                  try clear p2
                  try clear p208
                  try clear p210
                  try clear q208
                  try clear q210
                  obtain ⟨kq, x60_7, rfl, HA, HJ7, BK209, BK211, HB⟩ := hcut
                  cases kq with
                  | zero => exact absurd HA.out (by simp [finger_Same.j1])
                  | succ kj7 =>
                    have H := HA.out
                    clear HA
                    simp only [finger_Same.j1] at H
                    by_cases c33 : x60_7 = true
                    · subst c33
                      have H1 : (some false) = some r := by rw [if_pos rfl] at H; exact H
                      clear H
                      have H := H1
                      clear H1
                      obtain rfl := Option.some.inj H
                      go_wp2
                      repeat (go_quiet (fail); try go_wp2)
                      go_ret
                      exact ⟨by first | rfl | (simp [errW_none, errW_some] <;> rfl) | (simp [*, errW_none, errW_some] <;> rfl), by repeat (first | (with_reducible first | exact HB.out | apply below_alloc | apply pw_below_drewN | apply below_drew1 | refine below_set ?_ GE209.out | refine below_set ?_ GE211.out) | exact HB.out)⟩
                    · replace c33 := Bool.eq_false_iff.mpr c33
                      subst c33
                      have H1 : (finger_Same.l1 kj7 l1 l0 (l0.length : Int) x17_1 ((rd_T80 l0 x17_1).f4) (((rd_T80 l0 x17_1).f4).length : Int) 0 ((rd_T80 l1 x17_1).f0) ((rd_T80 l1 x17_1).f1) ((rd_T80 l1 x17_1).f2) ((rd_T80 l1 x17_1).f3) ((rd_T80 l1 x17_1).f4)) = some r := by rw [if_neg (show ¬ (false = true) by decide)] at H; exact H
                      clear H
                      have H := H1
                      clear H1
                      have H' := Aside0.mk H
                      clear H
                      have hnb34 := NB209_211.out
                      have hnc34 := NB211_209.out
                      have hcz35_0 : wc.cell? ⟨gb209, 0, none⟩ = some (.string ((rd_T80 l0 x17_1).f0)) := (blk_cell BK209.out 0).trans rfl
                      have hcz35_1 : wc.cell? ⟨gb209, 1, none⟩ = some (.int .i64 ((rd_T80 l0 x17_1).f1)) := (blk_cell BK209.out 1).trans rfl
                      have hcz35_2 : wc.cell? ⟨gb209, 2, none⟩ = some (.int .i64 ((rd_T80 l0 x17_1).f2)) := (blk_cell BK209.out 2).trans rfl
                      have hcz35_3 : wc.cell? ⟨gb209, 3, none⟩ = some (.int .i32 ((rd_T80 l0 x17_1).f3)) := (blk_cell BK209.out 3).trans rfl
                      have hcz35_4 : wc.cell? ⟨gb209, 4, none⟩ = some (.slice A208_4 ((rd_T80 l0 x17_1).f4).length c208_4) := (blk_cell BK209.out 4).trans rfl
                      have hfz35_0 := blk_frozen BK209.out 0
                      have hfz35_1 := blk_frozen BK209.out 1
                      have hfz35_2 := blk_frozen BK209.out 2
                      have hfz35_3 := blk_frozen BK209.out 3
                      have hfz35_4 := blk_frozen BK209.out 4
                      go_wp2
                      repeat (go_quiet (fail); try go_wp2)
                      go_loopg [64] kj7 (fun kq v64 w' => ∃ (x64_3 : Int), v64 = .int .i64 x64_3 ∧ Aside0 (finger_Same.l1 kq l1 l0 (l0.length : Int) x17_1 ((rd_T80 l0 x17_1).f4) (((rd_T80 l0 x17_1).f4).length : Int) x64_3 ((rd_T80 l1 x17_1).f0) ((rd_T80 l1 x17_1).f1) ((rd_T80 l1 x17_1).f2) ((rd_T80 l1 x17_1).f3) ((rd_T80 l1 x17_1).f4) = some r) ∧ Aside0 (kq ≤ kj7) ∧ Aside0 (w'.heap[gb209]? = some (.cells #[.string ((rd_T80 l0 x17_1).f0), .int .i64 ((rd_T80 l0 x17_1).f1), .int .i64 ((rd_T80 l0 x17_1).f2), .int .i32 ((rd_T80 l0 x17_1).f3), (.slice A208_4 ((rd_T80 l0 x17_1).f4).length c208_4)] 80 (0, 0))) ∧ Aside0 (w'.heap[gb211]? = some (.cells #[.string ((rd_T80 l1 x17_1).f0), .int .i64 ((rd_T80 l1 x17_1).f1), .int .i64 ((rd_T80 l1 x17_1).f2), .int .i32 ((rd_T80 l1 x17_1).f3), (.slice A210_4 ((rd_T80 l1 x17_1).f4).length c210_4)] 80 (0, 0))) ∧ Aside0 (Below w.heap.size w w'))
                      case atStart => exact ⟨(0), (by first | rfl | (simp; done) | (simp [*]; done)), H', ⟨Nat.le_refl _⟩, ⟨by (with_reducible repeat (first | refine blk_drewN ?_ _ | refine blk_drew ?_ | refine blk_alloc ?_ _)); exact BK209.out⟩, ⟨by (with_reducible repeat (first | refine blk_drewN ?_ _ | refine blk_drew ?_ | refine blk_alloc ?_ _)); exact BK211.out⟩, ⟨by repeat (first | (with_reducible first | exact HB.out | apply below_alloc | apply pw_below_drewN | apply below_drew1 | refine below_set ?_ GE209.out | refine below_set ?_ GE211.out) | exact HB.out)⟩⟩
                      case round =>
                        clear H'
                        try clear c1
                        try clear c2
                        try clear p2
                        try clear q2
                        try clear hx2
                        try clear c3
                        try clear c3b0
                        try clear c3b1
                        try clear c3b2
                        try clear c4
                        try clear c4b0
                        try clear c5
                        try clear c5b0
                        try clear c6
                        try clear c6b0
                        try clear c7
                        try clear c7b0
                        try clear c12
                        try clear c14
                        try clear c14b0
                        try clear c14b1
                        try clear c15
                        try clear c15b0
                        try clear c15b1
                        try clear c16
                        try clear c16b0
                        try clear c16b1
                        try clear c17
                        try clear c17b0
                        try clear c17b1
                        try clear c18
                        try clear c20
                        try clear p20
                        try clear q20
                        try clear hx20
                        try clear c21
                        try clear p21
                        try clear q21
                        try clear hx21
                        try clear c24
                        try clear c27
                        try clear c30
                        try clear c33
                        try clear c34
                        try clear hcz10_0
                        try clear hcz10_1
                        try clear hcz10_2
                        try clear hcz10_3
                        try clear hcz10_4
                        try clear hcz13_0
                        try clear hcz13_1
                        try clear hcz13_2
                        try clear hcz13_3
                        try clear hcz13_4
                        try clear hcz19_0
                        try clear hcz19_1
                        try clear hcz19_2
                        try clear hcz19_3
                        try clear hcz19_4
                        try clear hcz20_0
                        try clear hcz20_1
                        try clear hcz20_2
                        try clear hcz20_3
                        try clear hcz20_4
                        try clear hcz22_0
                        try clear hcz22_1
                        try clear hcz22_2
                        try clear hcz22_3
                        try clear hcz22_4
                        try clear hcz23_0
                        try clear hcz23_1
                        try clear hcz23_2
                        try clear hcz23_3
                        try clear hcz23_4
                        try clear hcz25_0
                        try clear hcz25_1
                        try clear hcz25_2
                        try clear hcz25_3
                        try clear hcz25_4
                        try clear hcz26_0
                        try clear hcz26_1
                        try clear hcz26_2
                        try clear hcz26_3
                        try clear hcz26_4
                        try clear hcz28_0
                        try clear hcz28_1
                        try clear hcz28_2
                        try clear hcz28_3
                        try clear hcz28_4
                        try clear hcz29_0
                        try clear hcz29_1
                        try clear hcz29_2
                        try clear hcz29_3
                        try clear hcz29_4
                        try clear hcz31_0
                        try clear hcz31_1
                        try clear hcz31_2
                        try clear hcz31_3
                        try clear hcz31_4
                        try clear hcz32_0
                        try clear hcz32_1
                        try clear hcz32_2
                        try clear hcz32_3
                        try clear hcz32_4
                        try clear hcz35_0
                        try clear hcz35_1
                        try clear hcz35_2
                        try clear hcz35_3
                        try clear hcz35_4
                        try clear hfz10_0
                        try clear hfz10_1
                        try clear hfz10_2
                        try clear hfz10_3
                        try clear hfz10_4
                        try clear hfz13_0
                        try clear hfz13_1
                        try clear hfz13_2
                        try clear hfz13_3
                        try clear hfz13_4
                        try clear hfz19_0
                        try clear hfz19_1
                        try clear hfz19_2
                        try clear hfz19_3
                        try clear hfz19_4
                        try clear hfz20_0
                        try clear hfz20_1
                        try clear hfz20_2
                        try clear hfz20_3
                        try clear hfz20_4
                        try clear hfz22_0
                        try clear hfz22_1
                        try clear hfz22_2
                        try clear hfz22_3
                        try clear hfz22_4
                        try clear hfz23_0
                        try clear hfz23_1
                        try clear hfz23_2
                        try clear hfz23_3
                        try clear hfz23_4
                        try clear hfz25_0
                        try clear hfz25_1
                        try clear hfz25_2
                        try clear hfz25_3
                        try clear hfz25_4
                        try clear hfz26_0
                        try clear hfz26_1
                        try clear hfz26_2
                        try clear hfz26_3
                        try clear hfz26_4
                        try clear hfz28_0
                        try clear hfz28_1
                        try clear hfz28_2
                        try clear hfz28_3
                        try clear hfz28_4
                        try clear hfz29_0
                        try clear hfz29_1
                        try clear hfz29_2
                        try clear hfz29_3
                        try clear hfz29_4
                        try clear hfz31_0
                        try clear hfz31_1
                        try clear hfz31_2
                        try clear hfz31_3
                        try clear hfz31_4
                        try clear hfz32_0
                        try clear hfz32_1
                        try clear hfz32_2
                        try clear hfz32_3
                        try clear hfz32_4
                        try clear hfz35_0
                        try clear hfz35_1
                        try clear hfz35_2
                        try clear hfz35_3
                        try clear hfz35_4
                        try clear hx208_0
                        try clear hx208_1
                        try clear hx208_2
                        try clear hx208_3
                        try clear hx208_4
                        try clear hx210_0
                        try clear hx210_1
                        try clear hx210_2
                        try clear hx210_3
                        try clear hx210_4
                        try clear p2
                        try clear p20
                        try clear p208
                        try clear p21
                        try clear p210
                        try clear q2
                        try clear q20
                        try clear q208
                        try clear q21
                        try clear q210
                        obtain ⟨x64_3, rfl, HA, HK3, BK209, BK211, HB⟩ := hrel
                        cases gk with
                        | zero => exact absurd HA.out (by simp [finger_Same.l1])
                        | succ k3 =>
                          have H := HA.out
                          clear HA
                          simp only [finger_Same.l1] at H
                          by_cases c36 : x64_3 < (((rd_T80 l0 x17_1).f4).length : Int)
                          · rw [if_pos c36] at H
                            have c36b0 : decide (x64_3 < (((rd_T80 l0 x17_1).f4).length : Int)) = true := decide_eq_true c36
                            clear c36
                            by_cases c37 : 0 ≤ x64_3
                            · rw [if_pos c37] at H
                              have c37b0 : decide (0 ≤ x64_3) = true := decide_eq_true c37
                              clear c37
                              by_cases c38 : x64_3 < (((rd_T80 l0 x17_1).f4).length : Int)
                              · rw [if_pos c38] at H
                                have c38b0 : decide (x64_3 < (((rd_T80 l0 x17_1).f4).length : Int)) = true := decide_eq_true c38
                                clear c38
                                by_cases c39 : x64_3 < (((rd_T80 l1 x17_1).f4).length : Int)
                                · rw [if_pos c39] at H
                                  have c39b0 : decide (x64_3 < (((rd_T80 l1 x17_1).f4).length : Int)) = true := decide_eq_true c39
                                  clear c39
                                  by_cases c40 : (!(((rd_T119 ((rd_T80 l0 x17_1).f4) x64_3).f0) == ((rd_T119 ((rd_T80 l1 x17_1).f4) x64_3).f0)) || (!(((rd_T119 ((rd_T80 l0 x17_1).f4) x64_3).f1) == ((rd_T119 ((rd_T80 l1 x17_1).f4) x64_3).f1)))) = true
                                  · rw [if_pos c40] at H
                                    have c40b0 : (!(((rd_T119 ((rd_T80 l0 x17_1).f4) x64_3).f0) == ((rd_T119 ((rd_T80 l1 x17_1).f4) x64_3).f0)) || (!(((rd_T119 ((rd_T80 l0 x17_1).f4) x64_3).f1) == ((rd_T119 ((rd_T80 l1 x17_1).f4) x64_3).f1)))) = true := c40
                                    clear c40
                                    obtain rfl := Option.some.inj H
                                    have p212 : 0 ≤ (x64_3 : Int) := of_decide_eq_true (by first | (with_reducible assumption) | assumption)
                                    have q212 : x64_3 < (((rd_T80 l0 x17_1).f4).length : Int) := of_decide_eq_true (by first | (with_reducible assumption) | assumption)
                                    obtain ⟨ad212, e212, hx212_0, hx212_1⟩ := at_T119 HR208_4.out x64_3 p212 q212
                                    cases e212
                                    replace hx212_0 := (HB.out.cell (World.block_lt_of_cell? w _ hx212_0)).trans hx212_0
                                    replace hx212_1 := (HB.out.cell (World.block_lt_of_cell? w _ hx212_1)).trans hx212_1
                                    replace p212 := eq_true p212
                                    replace q212 := eq_true q212
                                    go_wp2_with (first | ((with_reducible refine gate_dst (N := 9) rfl ?_); (try (refine gate_guard (by rfl) ?_; dsimp only)); refine box_event ?hg (N := 9) ?hd (cs := #[.int .i64 0, .bool false]) (t := 119) ?hr ?_; (case hd => rfl); (case hg => rfl); (case hr => first | (go_simp; done) | (go_simp; rfl)); intro gb213 hg w41 hbox hb; have n0_ := Aside0.mk (blk_below (g := gb209) (o := .cells #[.string ((rd_T80 l0 x17_1).f0), .int .i64 ((rd_T80 l0 x17_1).f1), .int .i64 ((rd_T80 l0 x17_1).f2), .int .i32 ((rd_T80 l0 x17_1).f3), .slice (some ad212) ((rd_T80 l0 x17_1).f4).length c208_4] 80 (0, 0)) (by (with_reducible repeat (first | refine blk_drewN ?_ _ | refine blk_drew ?_ | refine blk_alloc ?_ _)); exact BK209.out) hb); have n1_ := Aside0.mk (blk_below (g := gb211) (o := .cells #[.string ((rd_T80 l1 x17_1).f0), .int .i64 ((rd_T80 l1 x17_1).f1), .int .i64 ((rd_T80 l1 x17_1).f2), .int .i32 ((rd_T80 l1 x17_1).f3), .slice A210_4 ((rd_T80 l1 x17_1).f4).length c210_4] 80 (0, 0)) (by (with_reducible repeat (first | refine blk_drewN ?_ _ | refine blk_drew ?_ | refine blk_alloc ?_ _)); exact BK211.out) hb); have n2_ := Aside0.mk (below_step (by repeat (first | (with_reducible first | exact HB.out | apply below_alloc | apply pw_below_drewN | apply below_drew1 | refine below_set ?_ GE209.out | refine below_set ?_ GE211.out) | exact HB.out)) hb); have n3_ := Aside0.mk (hbox); have n4_ := Aside0.mk ((by rw [hg]; exact (below_size (by repeat (first | (with_reducible first | exact HB.out | apply below_alloc | apply pw_below_drewN | apply below_drew1 | refine below_set ?_ GE209.out | refine below_set ?_ GE211.out) | exact HB.out))) : w.heap.size ≤ gb213)); have n5_ := Aside0.mk ((by rw [hg]; exact (below_size (by repeat (first | (with_reducible first | exact HB.out | apply below_alloc | apply pw_below_drewN | apply below_drew1 | refine below_set ?_ GE209.out | refine below_set ?_ GE211.out) | exact HB.out))) : w.heap.size ≤ gb213)); have n6_ := Aside0.mk ((by rw [hg]; exact Nat.ne_of_lt (blk_lt (g := gb209) (o := .cells #[.string ((rd_T80 l0 x17_1).f0), .int .i64 ((rd_T80 l0 x17_1).f1), .int .i64 ((rd_T80 l0 x17_1).f2), .int .i32 ((rd_T80 l0 x17_1).f3), .slice (some ad212) ((rd_T80 l0 x17_1).f4).length c208_4] 80 (0, 0)) (by (with_reducible repeat (first | refine blk_drewN ?_ _ | refine blk_drew ?_ | refine blk_alloc ?_ _)); exact BK209.out)) : gb209 ≠ gb213)); have n7_ := Aside0.mk ((by rw [hg]; exact Nat.ne_of_gt (blk_lt (g := gb209) (o := .cells #[.string ((rd_T80 l0 x17_1).f0), .int .i64 ((rd_T80 l0 x17_1).f1), .int .i64 ((rd_T80 l0 x17_1).f2), .int .i32 ((rd_T80 l0 x17_1).f3), .slice (some ad212) ((rd_T80 l0 x17_1).f4).length c208_4] 80 (0, 0)) (by (with_reducible repeat (first | refine blk_drewN ?_ _ | refine blk_drew ?_ | refine blk_alloc ?_ _)); exact BK209.out)) : gb213 ≠ gb209)); have n8_ := Aside0.mk ((by rw [hg]; exact Nat.ne_of_lt (blk_lt (g := gb211) (o := .cells #[.string ((rd_T80 l1 x17_1).f0), .int .i64 ((rd_T80 l1 x17_1).f1), .int .i64 ((rd_T80 l1 x17_1).f2), .int .i32 ((rd_T80 l1 x17_1).f3), .slice A210_4 ((rd_T80 l1 x17_1).f4).length c210_4] 80 (0, 0)) (by (with_reducible repeat (first | refine blk_drewN ?_ _ | refine blk_drew ?_ | refine blk_alloc ?_ _)); exact BK211.out)) : gb211 ≠ gb213)); have n9_ := Aside0.mk ((by rw [hg]; exact Nat.ne_of_gt (blk_lt (g := gb211) (o := .cells #[.string ((rd_T80 l1 x17_1).f0), .int .i64 ((rd_T80 l1 x17_1).f1), .int .i64 ((rd_T80 l1 x17_1).f2), .int .i32 ((rd_T80 l1 x17_1).f3), .slice A210_4 ((rd_T80 l1 x17_1).f4).length c210_4] 80 (0, 0)) (by (with_reducible repeat (first | refine blk_drewN ?_ _ | refine blk_drew ?_ | refine blk_alloc ?_ _)); exact BK211.out)) : gb213 ≠ gb211)); clear BK209; clear BK211; clear HB; have BK209 := n0_; have BK211 := n1_; have HB := n2_; have BK213 := n3_; have GW213 := n4_; have GE213 := n5_; have NB209_213 := n6_; have NB213_209 := n7_; have NB211_213 := n8_; have NB213_211 := n9_; clear n0_ n1_ n2_ n3_ n4_ n5_ n6_ n7_ n8_ n9_; clear hb hbox hg; have hnb42 := NB213_209.out; have hnc42 := NB209_213.out; have hnb43 := NB213_211.out; have hnc43 := NB211_213.out; have hcz44_0 : w41.cell? ⟨gb213, 0, none⟩ = some (.int .i64 0) := (blk_cell BK213.out 0).trans rfl; have hcz44_1 : w41.cell? ⟨gb213, 1, none⟩ = some (.bool false) := (blk_cell BK213.out 1).trans rfl; have hfz44_0 := blk_frozen BK213.out 0; have hfz44_1 := blk_frozen BK213.out 1; have hnb45 := NB211_209.out; have hnc45 := NB209_211.out; have hcz46_0 : w41.cell? ⟨gb211, 0, none⟩ = some (.string ((rd_T80 l1 x17_1).f0)) := (blk_cell BK211.out 0).trans rfl; have hcz46_1 : w41.cell? ⟨gb211, 1, none⟩ = some (.int .i64 ((rd_T80 l1 x17_1).f1)) := (blk_cell BK211.out 1).trans rfl; have hcz46_2 : w41.cell? ⟨gb211, 2, none⟩ = some (.int .i64 ((rd_T80 l1 x17_1).f2)) := (blk_cell BK211.out 2).trans rfl; have hcz46_3 : w41.cell? ⟨gb211, 3, none⟩ = some (.int .i32 ((rd_T80 l1 x17_1).f3)) := (blk_cell BK211.out 3).trans rfl; have hcz46_4 : w41.cell? ⟨gb211, 4, none⟩ = some (.slice A210_4 ((rd_T80 l1 x17_1).f4).length c210_4) := (blk_cell BK211.out 4).trans rfl; have hfz46_0 := blk_frozen BK211.out 0; have hfz46_1 := blk_frozen BK211.out 1; have hfz46_2 := blk_frozen BK211.out 2; have hfz46_3 := blk_frozen BK211.out 3; have hfz46_4 := blk_frozen BK211.out 4; have p214 : 0 ≤ (x64_3 : Int) := of_decide_eq_true (by first | (with_reducible assumption) | assumption); have q214 : x64_3 < (((rd_T80 l1 x17_1).f4).length : Int) := of_decide_eq_true (by first | (with_reducible assumption) | assumption); obtain ⟨ad214, e214, hx214_0, hx214_1⟩ := at_T119 HR210_4.out x64_3 p214 q214; cases e214; have hn214_0 : ad214.block ≠ gb213 := Nat.ne_of_lt (Nat.lt_of_lt_of_le (by have := World.block_lt_of_cell? _ _ hx214_0; first | rwa [add_block] at this | exact this) GW213.out); have hn214_1 : ad214.block ≠ gb213 := Nat.ne_of_lt (Nat.lt_of_lt_of_le (by have := World.block_lt_of_cell? _ _ hx214_0; first | rwa [add_block] at this | exact this) GW213.out); replace hx214_0 := (HB.out.cell (World.block_lt_of_cell? w _ hx214_0)).trans hx214_0; replace hx214_1 := (HB.out.cell (World.block_lt_of_cell? w _ hx214_1)).trans hx214_1; replace hx214_0 := (cell_far (p := ⟨gb213, 0, none⟩) (by first | (rw [add_block]; exact hn214_0) | (show (Addr.add _ _).block ≠ _; rw [add_block]; exact hn214_0) | exact hn214_0) (.int .i64 ((rd_T119 ((rd_T80 l0 x17_1).f4) x64_3).f0))).trans hx214_0; replace hx214_1 := (cell_far (p := ⟨gb213, 0, none⟩) (by first | (rw [add_block]; exact hn214_0) | (show (Addr.add _ _).block ≠ _; rw [add_block]; exact hn214_0) | exact hn214_0) (.int .i64 ((rd_T119 ((rd_T80 l0 x17_1).f4) x64_3).f0))).trans hx214_1; replace hx214_0 := (cell_far (p := ⟨gb213, 1, none⟩) (by first | (rw [add_block]; exact hn214_1) | (show (Addr.add _ _).block ≠ _; rw [add_block]; exact hn214_1) | exact hn214_1) (.bool ((rd_T119 ((rd_T80 l0 x17_1).f4) x64_3).f1))).trans hx214_0; replace hx214_1 := (cell_far (p := ⟨gb213, 1, none⟩) (by first | (rw [add_block]; exact hn214_1) | (show (Addr.add _ _).block ≠ _; rw [add_block]; exact hn214_1) | exact hn214_1) (.bool ((rd_T119 ((rd_T80 l0 x17_1).f4) x64_3).f1))).trans hx214_1; (try have hy214_0 := fun (n_ : Nat) => (show ((((w41.drewN n_).setCell ⟨gb213, 0, none⟩ (.int .i64 ((rd_T119 ((rd_T80 l0 x17_1).f4) x64_3).f0))).setCell ⟨gb213, 1, none⟩ (.bool ((rd_T119 ((rd_T80 l0 x17_1).f4) x64_3).f1)))).cell? _ = some _ from hx214_0)); (try have hy214_1 := fun (n_ : Nat) => (show ((((w41.drewN n_).setCell ⟨gb213, 0, none⟩ (.int .i64 ((rd_T119 ((rd_T80 l0 x17_1).f4) x64_3).f0))).setCell ⟨gb213, 1, none⟩ (.bool ((rd_T119 ((rd_T80 l0 x17_1).f4) x64_3).f1)))).cell? _ = some _ from hx214_1)); clear hn214_0; clear hn214_1; replace p214 := eq_true p214; replace q214 := eq_true q214))
                                    repeat (go_quiet (first | ((with_reducible refine gate_dst (N := 9) rfl ?_); (try (refine gate_guard (by rfl) ?_; dsimp only)); refine box_event ?hg (N := 9) ?hd (cs := #[.int .i64 0, .bool false]) (t := 119) ?hr ?_; (case hd => rfl); (case hg => rfl); (case hr => first | (go_simp; done) | (go_simp; rfl)); intro gb213 hg w41 hbox hb; have n0_ := Aside0.mk (blk_below (g := gb209) (o := .cells #[.string ((rd_T80 l0 x17_1).f0), .int .i64 ((rd_T80 l0 x17_1).f1), .int .i64 ((rd_T80 l0 x17_1).f2), .int .i32 ((rd_T80 l0 x17_1).f3), .slice (some ad212) ((rd_T80 l0 x17_1).f4).length c208_4] 80 (0, 0)) (by (with_reducible repeat (first | refine blk_drewN ?_ _ | refine blk_drew ?_ | refine blk_alloc ?_ _)); exact BK209.out) hb); have n1_ := Aside0.mk (blk_below (g := gb211) (o := .cells #[.string ((rd_T80 l1 x17_1).f0), .int .i64 ((rd_T80 l1 x17_1).f1), .int .i64 ((rd_T80 l1 x17_1).f2), .int .i32 ((rd_T80 l1 x17_1).f3), .slice A210_4 ((rd_T80 l1 x17_1).f4).length c210_4] 80 (0, 0)) (by (with_reducible repeat (first | refine blk_drewN ?_ _ | refine blk_drew ?_ | refine blk_alloc ?_ _)); exact BK211.out) hb); have n2_ := Aside0.mk (below_step (by repeat (first | (with_reducible first | exact HB.out | apply below_alloc | apply pw_below_drewN | apply below_drew1 | refine below_set ?_ GE209.out | refine below_set ?_ GE211.out) | exact HB.out)) hb); have n3_ := Aside0.mk (hbox); have n4_ := Aside0.mk ((by rw [hg]; exact (below_size (by repeat (first | (with_reducible first | exact HB.out | apply below_alloc | apply pw_below_drewN | apply below_drew1 | refine below_set ?_ GE209.out | refine below_set ?_ GE211.out) | exact HB.out))) : w.heap.size ≤ gb213)); have n5_ := Aside0.mk ((by rw [hg]; exact (below_size (by repeat (first | (with_reducible first | exact HB.out | apply below_alloc | apply pw_below_drewN | apply below_drew1 | refine below_set ?_ GE209.out | refine below_set ?_ GE211.out) | exact HB.out))) : w.heap.size ≤ gb213)); have n6_ := Aside0.mk ((by rw [hg]; exact Nat.ne_of_lt (blk_lt (g := gb209) (o := .cells #[.string ((rd_T80 l0 x17_1).f0), .int .i64 ((rd_T80 l0 x17_1).f1), .int .i64 ((rd_T80 l0 x17_1).f2), .int .i32 ((rd_T80 l0 x17_1).f3), .slice (some ad212) ((rd_T80 l0 x17_1).f4).length c208_4] 80 (0, 0)) (by (with_reducible repeat (first | refine blk_drewN ?_ _ | refine blk_drew ?_ | refine blk_alloc ?_ _)); exact BK209.out)) : gb209 ≠ gb213)); have n7_ := Aside0.mk ((by rw [hg]; exact Nat.ne_of_gt (blk_lt (g := gb209) (o := .cells #[.string ((rd_T80 l0 x17_1).f0), .int .i64 ((rd_T80 l0 x17_1).f1), .int .i64 ((rd_T80 l0 x17_1).f2), .int .i32 ((rd_T80 l0 x17_1).f3), .slice (some ad212) ((rd_T80 l0 x17_1).f4).length c208_4] 80 (0, 0)) (by (with_reducible repeat (first | refine blk_drewN ?_ _ | refine blk_drew ?_ | refine blk_alloc ?_ _)); exact BK209.out)) : gb213 ≠ gb209)); have n8_ := Aside0.mk ((by rw [hg]; exact Nat.ne_of_lt (blk_lt (g := gb211) (o := .cells #[.string ((rd_T80 l1 x17_1).f0), .int .i64 ((rd_T80 l1 x17_1).f1), .int .i64 ((rd_T80 l1 x17_1).f2), .int .i32 ((rd_T80 l1 x17_1).f3), .slice A210_4 ((rd_T80 l1 x17_1).f4).length c210_4] 80 (0, 0)) (by (with_reducible repeat (first | refine blk_drewN ?_ _ | refine blk_drew ?_ | refine blk_alloc ?_ _)); exact BK211.out)) : gb211 ≠ gb213)); have n9_ := Aside0.mk ((by rw [hg]; exact Nat.ne_of_gt (blk_lt (g := gb211) (o := .cells #[.string ((rd_T80 l1 x17_1).f0), .int .i64 ((rd_T80 l1 x17_1).f1), .int .i64 ((rd_T80 l1 x17_1).f2), .int .i32 ((rd_T80 l1 x17_1).f3), .slice A210_4 ((rd_T80 l1 x17_1).f4).length c210_4] 80 (0, 0)) (by (with_reducible repeat (first | refine blk_drewN ?_ _ | refine blk_drew ?_ | refine blk_alloc ?_ _)); exact BK211.out)) : gb213 ≠ gb211)); clear BK209; clear BK211; clear HB; have BK209 := n0_; have BK211 := n1_; have HB := n2_; have BK213 := n3_; have GW213 := n4_; have GE213 := n5_; have NB209_213 := n6_; have NB213_209 := n7_; have NB211_213 := n8_; have NB213_211 := n9_; clear n0_ n1_ n2_ n3_ n4_ n5_ n6_ n7_ n8_ n9_; clear hb hbox hg; have hnb42 := NB213_209.out; have hnc42 := NB209_213.out; have hnb43 := NB213_211.out; have hnc43 := NB211_213.out; have hcz44_0 : w41.cell? ⟨gb213, 0, none⟩ = some (.int .i64 0) := (blk_cell BK213.out 0).trans rfl; have hcz44_1 : w41.cell? ⟨gb213, 1, none⟩ = some (.bool false) := (blk_cell BK213.out 1).trans rfl; have hfz44_0 := blk_frozen BK213.out 0; have hfz44_1 := blk_frozen BK213.out 1; have hnb45 := NB211_209.out; have hnc45 := NB209_211.out; have hcz46_0 : w41.cell? ⟨gb211, 0, none⟩ = some (.string ((rd_T80 l1 x17_1).f0)) := (blk_cell BK211.out 0).trans rfl; have hcz46_1 : w41.cell? ⟨gb211, 1, none⟩ = some (.int .i64 ((rd_T80 l1 x17_1).f1)) := (blk_cell BK211.out 1).trans rfl; have hcz46_2 : w41.cell? ⟨gb211, 2, none⟩ = some (.int .i64 ((rd_T80 l1 x17_1).f2)) := (blk_cell BK211.out 2).trans rfl; have hcz46_3 : w41.cell? ⟨gb211, 3, none⟩ = some (.int .i32 ((rd_T80 l1 x17_1).f3)) := (blk_cell BK211.out 3).trans rfl; have hcz46_4 : w41.cell? ⟨gb211, 4, none⟩ = some (.slice A210_4 ((rd_T80 l1 x17_1).f4).length c210_4) := (blk_cell BK211.out 4).trans rfl; have hfz46_0 := blk_frozen BK211.out 0; have hfz46_1 := blk_frozen BK211.out 1; have hfz46_2 := blk_frozen BK211.out 2; have hfz46_3 := blk_frozen BK211.out 3; have hfz46_4 := blk_frozen BK211.out 4; have p214 : 0 ≤ (x64_3 : Int) := of_decide_eq_true (by first | (with_reducible assumption) | assumption); have q214 : x64_3 < (((rd_T80 l1 x17_1).f4).length : Int) := of_decide_eq_true (by first | (with_reducible assumption) | assumption); obtain ⟨ad214, e214, hx214_0, hx214_1⟩ := at_T119 HR210_4.out x64_3 p214 q214; cases e214; have hn214_0 : ad214.block ≠ gb213 := Nat.ne_of_lt (Nat.lt_of_lt_of_le (by have := World.block_lt_of_cell? _ _ hx214_0; first | rwa [add_block] at this | exact this) GW213.out); have hn214_1 : ad214.block ≠ gb213 := Nat.ne_of_lt (Nat.lt_of_lt_of_le (by have := World.block_lt_of_cell? _ _ hx214_0; first | rwa [add_block] at this | exact this) GW213.out); replace hx214_0 := (HB.out.cell (World.block_lt_of_cell? w _ hx214_0)).trans hx214_0; replace hx214_1 := (HB.out.cell (World.block_lt_of_cell? w _ hx214_1)).trans hx214_1; replace hx214_0 := (cell_far (p := ⟨gb213, 0, none⟩) (by first | (rw [add_block]; exact hn214_0) | (show (Addr.add _ _).block ≠ _; rw [add_block]; exact hn214_0) | exact hn214_0) (.int .i64 ((rd_T119 ((rd_T80 l0 x17_1).f4) x64_3).f0))).trans hx214_0; replace hx214_1 := (cell_far (p := ⟨gb213, 0, none⟩) (by first | (rw [add_block]; exact hn214_0) | (show (Addr.add _ _).block ≠ _; rw [add_block]; exact hn214_0) | exact hn214_0) (.int .i64 ((rd_T119 ((rd_T80 l0 x17_1).f4) x64_3).f0))).trans hx214_1; replace hx214_0 := (cell_far (p := ⟨gb213, 1, none⟩) (by first | (rw [add_block]; exact hn214_1) | (show (Addr.add _ _).block ≠ _; rw [add_block]; exact hn214_1) | exact hn214_1) (.bool ((rd_T119 ((rd_T80 l0 x17_1).f4) x64_3).f1))).trans hx214_0; replace hx214_1 := (cell_far (p := ⟨gb213, 1, none⟩) (by first | (rw [add_block]; exact hn214_1) | (show (Addr.add _ _).block ≠ _; rw [add_block]; exact hn214_1) | exact hn214_1) (.bool ((rd_T119 ((rd_T80 l0 x17_1).f4) x64_3).f1))).trans hx214_1; (try have hy214_0 := fun (n_ : Nat) => (show ((((w41.drewN n_).setCell ⟨gb213, 0, none⟩ (.int .i64 ((rd_T119 ((rd_T80 l0 x17_1).f4) x64_3).f0))).setCell ⟨gb213, 1, none⟩ (.bool ((rd_T119 ((rd_T80 l0 x17_1).f4) x64_3).f1)))).cell? _ = some _ from hx214_0)); (try have hy214_1 := fun (n_ : Nat) => (show ((((w41.drewN n_).setCell ⟨gb213, 0, none⟩ (.int .i64 ((rd_T119 ((rd_T80 l0 x17_1).f4) x64_3).f0))).setCell ⟨gb213, 1, none⟩ (.bool ((rd_T119 ((rd_T80 l0 x17_1).f4) x64_3).f1)))).cell? _ = some _ from hx214_1)); clear hn214_0; clear hn214_1; replace p214 := eq_true p214; replace q214 := eq_true q214)); try go_wp2_with (first | ((with_reducible refine gate_dst (N := 9) rfl ?_); (try (refine gate_guard (by rfl) ?_; dsimp only)); refine box_event ?hg (N := 9) ?hd (cs := #[.int .i64 0, .bool false]) (t := 119) ?hr ?_; (case hd => rfl); (case hg => rfl); (case hr => first | (go_simp; done) | (go_simp; rfl)); intro gb213 hg w41 hbox hb; have n0_ := Aside0.mk (blk_below (g := gb209) (o := .cells #[.string ((rd_T80 l0 x17_1).f0), .int .i64 ((rd_T80 l0 x17_1).f1), .int .i64 ((rd_T80 l0 x17_1).f2), .int .i32 ((rd_T80 l0 x17_1).f3), .slice (some ad212) ((rd_T80 l0 x17_1).f4).length c208_4] 80 (0, 0)) (by (with_reducible repeat (first | refine blk_drewN ?_ _ | refine blk_drew ?_ | refine blk_alloc ?_ _)); exact BK209.out) hb); have n1_ := Aside0.mk (blk_below (g := gb211) (o := .cells #[.string ((rd_T80 l1 x17_1).f0), .int .i64 ((rd_T80 l1 x17_1).f1), .int .i64 ((rd_T80 l1 x17_1).f2), .int .i32 ((rd_T80 l1 x17_1).f3), .slice A210_4 ((rd_T80 l1 x17_1).f4).length c210_4] 80 (0, 0)) (by (with_reducible repeat (first | refine blk_drewN ?_ _ | refine blk_drew ?_ | refine blk_alloc ?_ _)); exact BK211.out) hb); have n2_ := Aside0.mk (below_step (by repeat (first | (with_reducible first | exact HB.out | apply below_alloc | apply pw_below_drewN | apply below_drew1 | refine below_set ?_ GE209.out | refine below_set ?_ GE211.out) | exact HB.out)) hb); have n3_ := Aside0.mk (hbox); have n4_ := Aside0.mk ((by rw [hg]; exact (below_size (by repeat (first | (with_reducible first | exact HB.out | apply below_alloc | apply pw_below_drewN | apply below_drew1 | refine below_set ?_ GE209.out | refine below_set ?_ GE211.out) | exact HB.out))) : w.heap.size ≤ gb213)); have n5_ := Aside0.mk ((by rw [hg]; exact (below_size (by repeat (first | (with_reducible first | exact HB.out | apply below_alloc | apply pw_below_drewN | apply below_drew1 | refine below_set ?_ GE209.out | refine below_set ?_ GE211.out) | exact HB.out))) : w.heap.size ≤ gb213)); have n6_ := Aside0.mk ((by rw [hg]; exact Nat.ne_of_lt (blk_lt (g := gb209) (o := .cells #[.string ((rd_T80 l0 x17_1).f0), .int .i64 ((rd_T80 l0 x17_1).f1), .int .i64 ((rd_T80 l0 x17_1).f2), .int .i32 ((rd_T80 l0 x17_1).f3), .slice (some ad212) ((rd_T80 l0 x17_1).f4).length c208_4] 80 (0, 0)) (by (with_reducible repeat (first | refine blk_drewN ?_ _ | refine blk_drew ?_ | refine blk_alloc ?_ _)); exact BK209.out)) : gb209 ≠ gb213)); have n7_ := Aside0.mk ((by rw [hg]; exact Nat.ne_of_gt (blk_lt (g := gb209) (o := .cells #[.string ((rd_T80 l0 x17_1).f0), .int .i64 ((rd_T80 l0 x17_1).f1), .int .i64 ((rd_T80 l0 x17_1).f2), .int .i32 ((rd_T80 l0 x17_1).f3), .slice (some ad212) ((rd_T80 l0 x17_1).f4).length c208_4] 80 (0, 0)) (by (with_reducible repeat (first | refine blk_drewN ?_ _ | refine blk_drew ?_ | refine blk_alloc ?_ _)); exact BK209.out)) : gb213 ≠ gb209)); have n8_ := Aside0.mk ((by rw [hg]; exact Nat.ne_of_lt (blk_lt (g := gb211) (o := .cells #[.string ((rd_T80 l1 x17_1).f0), .int .i64 ((rd_T80 l1 x17_1).f1), .int .i64 ((rd_T80 l1 x17_1).f2), .int .i32 ((rd_T80 l1 x17_1).f3), .slice A210_4 ((rd_T80 l1 x17_1).f4).length c210_4] 80 (0, 0)) (by (with_reducible repeat (first | refine blk_drewN ?_ _ | refine blk_drew ?_ | refine blk_alloc ?_ _)); exact BK211.out)) : gb211 ≠ gb213)); have n9_ := Aside0.mk ((by rw [hg]; exact Nat.ne_of_gt (blk_lt (g := gb211) (o := .cells #[.string ((rd_T80 l1 x17_1).f0), .int .i64 ((rd_T80 l1 x17_1).f1), .int .i64 ((rd_T80 l1 x17_1).f2), .int .i32 ((rd_T80 l1 x17_1).f3), .slice A210_4 ((rd_T80 l1 x17_1).f4).length c210_4] 80 (0, 0)) (by (with_reducible repeat (first | refine blk_drewN ?_ _ | refine blk_drew ?_ | refine blk_alloc ?_ _)); exact BK211.out)) : gb213 ≠ gb211)); clear BK209; clear BK211; clear HB; have BK209 := n0_; have BK211 := n1_; have HB := n2_; have BK213 := n3_; have GW213 := n4_; have GE213 := n5_; have NB209_213 := n6_; have NB213_209 := n7_; have NB211_213 := n8_; have NB213_211 := n9_; clear n0_ n1_ n2_ n3_ n4_ n5_ n6_ n7_ n8_ n9_; clear hb hbox hg; have hnb42 := NB213_209.out; have hnc42 := NB209_213.out; have hnb43 := NB213_211.out; have hnc43 := NB211_213.out; have hcz44_0 : w41.cell? ⟨gb213, 0, none⟩ = some (.int .i64 0) := (blk_cell BK213.out 0).trans rfl; have hcz44_1 : w41.cell? ⟨gb213, 1, none⟩ = some (.bool false) := (blk_cell BK213.out 1).trans rfl; have hfz44_0 := blk_frozen BK213.out 0; have hfz44_1 := blk_frozen BK213.out 1; have hnb45 := NB211_209.out; have hnc45 := NB209_211.out; have hcz46_0 : w41.cell? ⟨gb211, 0, none⟩ = some (.string ((rd_T80 l1 x17_1).f0)) := (blk_cell BK211.out 0).trans rfl; have hcz46_1 : w41.cell? ⟨gb211, 1, none⟩ = some (.int .i64 ((rd_T80 l1 x17_1).f1)) := (blk_cell BK211.out 1).trans rfl; have hcz46_2 : w41.cell? ⟨gb211, 2, none⟩ = some (.int .i64 ((rd_T80 l1 x17_1).f2)) := (blk_cell BK211.out 2).trans rfl; have hcz46_3 : w41.cell? ⟨gb211, 3, none⟩ = some (.int .i32 ((rd_T80 l1 x17_1).f3)) := (blk_cell BK211.out 3).trans rfl; have hcz46_4 : w41.cell? ⟨gb211, 4, none⟩ = some (.slice A210_4 ((rd_T80 l1 x17_1).f4).length c210_4) := (blk_cell BK211.out 4).trans rfl; have hfz46_0 := blk_frozen BK211.out 0; have hfz46_1 := blk_frozen BK211.out 1; have hfz46_2 := blk_frozen BK211.out 2; have hfz46_3 := blk_frozen BK211.out 3; have hfz46_4 := blk_frozen BK211.out 4; have p214 : 0 ≤ (x64_3 : Int) := of_decide_eq_true (by first | (with_reducible assumption) | assumption); have q214 : x64_3 < (((rd_T80 l1 x17_1).f4).length : Int) := of_decide_eq_true (by first | (with_reducible assumption) | assumption); obtain ⟨ad214, e214, hx214_0, hx214_1⟩ := at_T119 HR210_4.out x64_3 p214 q214; cases e214; have hn214_0 : ad214.block ≠ gb213 := Nat.ne_of_lt (Nat.lt_of_lt_of_le (by have := World.block_lt_of_cell? _ _ hx214_0; first | rwa [add_block] at this | exact this) GW213.out); have hn214_1 : ad214.block ≠ gb213 := Nat.ne_of_lt (Nat.lt_of_lt_of_le (by have := World.block_lt_of_cell? _ _ hx214_0; first | rwa [add_block] at this | exact this) GW213.out); replace hx214_0 := (HB.out.cell (World.block_lt_of_cell? w _ hx214_0)).trans hx214_0; replace hx214_1 := (HB.out.cell (World.block_lt_of_cell? w _ hx214_1)).trans hx214_1; replace hx214_0 := (cell_far (p := ⟨gb213, 0, none⟩) (by first | (rw [add_block]; exact hn214_0) | (show (Addr.add _ _).block ≠ _; rw [add_block]; exact hn214_0) | exact hn214_0) (.int .i64 ((rd_T119 ((rd_T80 l0 x17_1).f4) x64_3).f0))).trans hx214_0; replace hx214_1 := (cell_far (p := ⟨gb213, 0, none⟩) (by first | (rw [add_block]; exact hn214_0) | (show (Addr.add _ _).block ≠ _; rw [add_block]; exact hn214_0) | exact hn214_0) (.int .i64 ((rd_T119 ((rd_T80 l0 x17_1).f4) x64_3).f0))).trans hx214_1; replace hx214_0 := (cell_far (p := ⟨gb213, 1, none⟩) (by first | (rw [add_block]; exact hn214_1) | (show (Addr.add _ _).block ≠ _; rw [add_block]; exact hn214_1) | exact hn214_1) (.bool ((rd_T119 ((rd_T80 l0 x17_1).f4) x64_3).f1))).trans hx214_0; replace hx214_1 := (cell_far (p := ⟨gb213, 1, none⟩) (by first | (rw [add_block]; exact hn214_1) | (show (Addr.add _ _).block ≠ _; rw [add_block]; exact hn214_1) | exact hn214_1) (.bool ((rd_T119 ((rd_T80 l0 x17_1).f4) x64_3).f1))).trans hx214_1; (try have hy214_0 := fun (n_ : Nat) => (show ((((w41.drewN n_).setCell ⟨gb213, 0, none⟩ (.int .i64 ((rd_T119 ((rd_T80 l0 x17_1).f4) x64_3).f0))).setCell ⟨gb213, 1, none⟩ (.bool ((rd_T119 ((rd_T80 l0 x17_1).f4) x64_3).f1)))).cell? _ = some _ from hx214_0)); (try have hy214_1 := fun (n_ : Nat) => (show ((((w41.drewN n_).setCell ⟨gb213, 0, none⟩ (.int .i64 ((rd_T119 ((rd_T80 l0 x17_1).f4) x64_3).f0))).setCell ⟨gb213, 1, none⟩ (.bool ((rd_T119 ((rd_T80 l0 x17_1).f4) x64_3).f1)))).cell? _ = some _ from hx214_1)); clear hn214_0; clear hn214_1; replace p214 := eq_true p214; replace q214 := eq_true q214)))
                                    go_ret
                                    exact ⟨by first | rfl | (simp [errW_none, errW_some] <;> rfl) | (simp [*, errW_none, errW_some] <;> rfl), by repeat (first | (with_reducible first | exact HB.out | apply below_alloc | apply pw_below_drewN | apply below_drew1 | refine below_set ?_ GE209.out | refine below_set ?_ GE211.out | refine below_set ?_ GE213.out) | exact HB.out)⟩
                                  · rw [if_neg c40] at H
                                    have c40b0 : (!(((rd_T119 ((rd_T80 l0 x17_1).f4) x64_3).f0) == ((rd_T119 ((rd_T80 l1 x17_1).f4) x64_3).f0)) || (!(((rd_T119 ((rd_T80 l0 x17_1).f4) x64_3).f1) == ((rd_T119 ((rd_T80 l1 x17_1).f4) x64_3).f1)))) = false := by simpa using c40
                                    clear c40
                                    have H' := Aside0.mk H
                                    clear H
                                    have p212 : 0 ≤ (x64_3 : Int) := of_decide_eq_true (by first | (with_reducible assumption) | assumption)
                                    have q212 : x64_3 < (((rd_T80 l0 x17_1).f4).length : Int) := of_decide_eq_true (by first | (with_reducible assumption) | assumption)
                                    obtain ⟨ad212, e212, hx212_0, hx212_1⟩ := at_T119 HR208_4.out x64_3 p212 q212
                                    cases e212
                                    replace hx212_0 := (HB.out.cell (World.block_lt_of_cell? w _ hx212_0)).trans hx212_0
                                    replace hx212_1 := (HB.out.cell (World.block_lt_of_cell? w _ hx212_1)).trans hx212_1
                                    replace p212 := eq_true p212
                                    replace q212 := eq_true q212
                                    go_wp2_with (first | ((with_reducible refine gate_dst (N := 9) rfl ?_); (try (refine gate_guard (by rfl) ?_; dsimp only)); refine box_event ?hg (N := 9) ?hd (cs := #[.int .i64 0, .bool false]) (t := 119) ?hr ?_; (case hd => rfl); (case hg => rfl); (case hr => first | (go_simp; done) | (go_simp; rfl)); intro gb213 hg w47 hbox hb; have n0_ := Aside0.mk (blk_below (g := gb209) (o := .cells #[.string ((rd_T80 l0 x17_1).f0), .int .i64 ((rd_T80 l0 x17_1).f1), .int .i64 ((rd_T80 l0 x17_1).f2), .int .i32 ((rd_T80 l0 x17_1).f3), .slice (some ad212) ((rd_T80 l0 x17_1).f4).length c208_4] 80 (0, 0)) (by (with_reducible repeat (first | refine blk_drewN ?_ _ | refine blk_drew ?_ | refine blk_alloc ?_ _)); exact BK209.out) hb); have n1_ := Aside0.mk (blk_below (g := gb211) (o := .cells #[.string ((rd_T80 l1 x17_1).f0), .int .i64 ((rd_T80 l1 x17_1).f1), .int .i64 ((rd_T80 l1 x17_1).f2), .int .i32 ((rd_T80 l1 x17_1).f3), .slice A210_4 ((rd_T80 l1 x17_1).f4).length c210_4] 80 (0, 0)) (by (with_reducible repeat (first | refine blk_drewN ?_ _ | refine blk_drew ?_ | refine blk_alloc ?_ _)); exact BK211.out) hb); have n2_ := Aside0.mk (below_step (by repeat (first | (with_reducible first | exact HB.out | apply below_alloc | apply pw_below_drewN | apply below_drew1 | refine below_set ?_ GE209.out | refine below_set ?_ GE211.out) | exact HB.out)) hb); have n3_ := Aside0.mk (hbox); have n4_ := Aside0.mk ((by rw [hg]; exact (below_size (by repeat (first | (with_reducible first | exact HB.out | apply below_alloc | apply pw_below_drewN | apply below_drew1 | refine below_set ?_ GE209.out | refine below_set ?_ GE211.out) | exact HB.out))) : w.heap.size ≤ gb213)); have n5_ := Aside0.mk ((by rw [hg]; exact (below_size (by repeat (first | (with_reducible first | exact HB.out | apply below_alloc | apply pw_below_drewN | apply below_drew1 | refine below_set ?_ GE209.out | refine below_set ?_ GE211.out) | exact HB.out))) : w.heap.size ≤ gb213)); have n6_ := Aside0.mk ((by rw [hg]; exact Nat.ne_of_lt (blk_lt (g := gb209) (o := .cells #[.string ((rd_T80 l0 x17_1).f0), .int .i64 ((rd_T80 l0 x17_1).f1), .int .i64 ((rd_T80 l0 x17_1).f2), .int .i32 ((rd_T80 l0 x17_1).f3), .slice (some ad212) ((rd_T80 l0 x17_1).f4).length c208_4] 80 (0, 0)) (by (with_reducible repeat (first | refine blk_drewN ?_ _ | refine blk_drew ?_ | refine blk_alloc ?_ _)); exact BK209.out)) : gb209 ≠ gb213)); have n7_ := Aside0.mk ((by rw [hg]; exact Nat.ne_of_gt (blk_lt (g := gb209) (o := .cells #[.string ((rd_T80 l0 x17_1).f0), .int .i64 ((rd_T80 l0 x17_1).f1), .int .i64 ((rd_T80 l0 x17_1).f2), .int .i32 ((rd_T80 l0 x17_1).f3), .slice (some ad212) ((rd_T80 l0 x17_1).f4).length c208_4] 80 (0, 0)) (by (with_reducible repeat (first | refine blk_drewN ?_ _ | refine blk_drew ?_ | refine blk_alloc ?_ _)); exact BK209.out)) : gb213 ≠ gb209)); have n8_ := Aside0.mk ((by rw [hg]; exact Nat.ne_of_lt (blk_lt (g := gb211) (o := .cells #[.string ((rd_T80 l1 x17_1).f0), .int .i64 ((rd_T80 l1 x17_1).f1), .int .i64 ((rd_T80 l1 x17_1).f2), .int .i32 ((rd_T80 l1 x17_1).f3), .slice A210_4 ((rd_T80 l1 x17_1).f4).length c210_4] 80 (0, 0)) (by (with_reducible repeat (first | refine blk_drewN ?_ _ | refine blk_drew ?_ | refine blk_alloc ?_ _)); exact BK211.out)) : gb211 ≠ gb213)); have n9_ := Aside0.mk ((by rw [hg]; exact Nat.ne_of_gt (blk_lt (g := gb211) (o := .cells #[.string ((rd_T80 l1 x17_1).f0), .int .i64 ((rd_T80 l1 x17_1).f1), .int .i64 ((rd_T80 l1 x17_1).f2), .int .i32 ((rd_T80 l1 x17_1).f3), .slice A210_4 ((rd_T80 l1 x17_1).f4).length c210_4] 80 (0, 0)) (by (with_reducible repeat (first | refine blk_drewN ?_ _ | refine blk_drew ?_ | refine blk_alloc ?_ _)); exact BK211.out)) : gb213 ≠ gb211)); clear BK209; clear BK211; clear HB; have BK209 := n0_; have BK211 := n1_; have HB := n2_; have BK213 := n3_; have GW213 := n4_; have GE213 := n5_; have NB209_213 := n6_; have NB213_209 := n7_; have NB211_213 := n8_; have NB213_211 := n9_; clear n0_ n1_ n2_ n3_ n4_ n5_ n6_ n7_ n8_ n9_; clear hb hbox hg; have hnb48 := NB213_209.out; have hnc48 := NB209_213.out; have hnb49 := NB213_211.out; have hnc49 := NB211_213.out; have hcz50_0 : w47.cell? ⟨gb213, 0, none⟩ = some (.int .i64 0) := (blk_cell BK213.out 0).trans rfl; have hcz50_1 : w47.cell? ⟨gb213, 1, none⟩ = some (.bool false) := (blk_cell BK213.out 1).trans rfl; have hfz50_0 := blk_frozen BK213.out 0; have hfz50_1 := blk_frozen BK213.out 1; have hnb51 := NB211_209.out; have hnc51 := NB209_211.out; have hcz52_0 : w47.cell? ⟨gb211, 0, none⟩ = some (.string ((rd_T80 l1 x17_1).f0)) := (blk_cell BK211.out 0).trans rfl; have hcz52_1 : w47.cell? ⟨gb211, 1, none⟩ = some (.int .i64 ((rd_T80 l1 x17_1).f1)) := (blk_cell BK211.out 1).trans rfl; have hcz52_2 : w47.cell? ⟨gb211, 2, none⟩ = some (.int .i64 ((rd_T80 l1 x17_1).f2)) := (blk_cell BK211.out 2).trans rfl; have hcz52_3 : w47.cell? ⟨gb211, 3, none⟩ = some (.int .i32 ((rd_T80 l1 x17_1).f3)) := (blk_cell BK211.out 3).trans rfl; have hcz52_4 : w47.cell? ⟨gb211, 4, none⟩ = some (.slice A210_4 ((rd_T80 l1 x17_1).f4).length c210_4) := (blk_cell BK211.out 4).trans rfl; have hfz52_0 := blk_frozen BK211.out 0; have hfz52_1 := blk_frozen BK211.out 1; have hfz52_2 := blk_frozen BK211.out 2; have hfz52_3 := blk_frozen BK211.out 3; have hfz52_4 := blk_frozen BK211.out 4; have p214 : 0 ≤ (x64_3 : Int) := of_decide_eq_true (by first | (with_reducible assumption) | assumption); have q214 : x64_3 < (((rd_T80 l1 x17_1).f4).length : Int) := of_decide_eq_true (by first | (with_reducible assumption) | assumption); obtain ⟨ad214, e214, hx214_0, hx214_1⟩ := at_T119 HR210_4.out x64_3 p214 q214; cases e214; have hn214_0 : ad214.block ≠ gb213 := Nat.ne_of_lt (Nat.lt_of_lt_of_le (by have := World.block_lt_of_cell? _ _ hx214_0; first | rwa [add_block] at this | exact this) GW213.out); have hn214_1 : ad214.block ≠ gb213 := Nat.ne_of_lt (Nat.lt_of_lt_of_le (by have := World.block_lt_of_cell? _ _ hx214_0; first | rwa [add_block] at this | exact this) GW213.out); replace hx214_0 := (HB.out.cell (World.block_lt_of_cell? w _ hx214_0)).trans hx214_0; replace hx214_1 := (HB.out.cell (World.block_lt_of_cell? w _ hx214_1)).trans hx214_1; replace hx214_0 := (cell_far (p := ⟨gb213, 0, none⟩) (by first | (rw [add_block]; exact hn214_0) | (show (Addr.add _ _).block ≠ _; rw [add_block]; exact hn214_0) | exact hn214_0) (.int .i64 ((rd_T119 ((rd_T80 l0 x17_1).f4) x64_3).f0))).trans hx214_0; replace hx214_1 := (cell_far (p := ⟨gb213, 0, none⟩) (by first | (rw [add_block]; exact hn214_0) | (show (Addr.add _ _).block ≠ _; rw [add_block]; exact hn214_0) | exact hn214_0) (.int .i64 ((rd_T119 ((rd_T80 l0 x17_1).f4) x64_3).f0))).trans hx214_1; replace hx214_0 := (cell_far (p := ⟨gb213, 1, none⟩) (by first | (rw [add_block]; exact hn214_1) | (show (Addr.add _ _).block ≠ _; rw [add_block]; exact hn214_1) | exact hn214_1) (.bool ((rd_T119 ((rd_T80 l0 x17_1).f4) x64_3).f1))).trans hx214_0; replace hx214_1 := (cell_far (p := ⟨gb213, 1, none⟩) (by first | (rw [add_block]; exact hn214_1) | (show (Addr.add _ _).block ≠ _; rw [add_block]; exact hn214_1) | exact hn214_1) (.bool ((rd_T119 ((rd_T80 l0 x17_1).f4) x64_3).f1))).trans hx214_1; (try have hy214_0 := fun (n_ : Nat) => (show ((((w47.drewN n_).setCell ⟨gb213, 0, none⟩ (.int .i64 ((rd_T119 ((rd_T80 l0 x17_1).f4) x64_3).f0))).setCell ⟨gb213, 1, none⟩ (.bool ((rd_T119 ((rd_T80 l0 x17_1).f4) x64_3).f1)))).cell? _ = some _ from hx214_0)); (try have hy214_1 := fun (n_ : Nat) => (show ((((w47.drewN n_).setCell ⟨gb213, 0, none⟩ (.int .i64 ((rd_T119 ((rd_T80 l0 x17_1).f4) x64_3).f0))).setCell ⟨gb213, 1, none⟩ (.bool ((rd_T119 ((rd_T80 l0 x17_1).f4) x64_3).f1)))).cell? _ = some _ from hx214_1)); clear hn214_0; clear hn214_1; replace p214 := eq_true p214; replace q214 := eq_true q214))
                                    repeat (go_quiet (first | ((with_reducible refine gate_dst (N := 9) rfl ?_); (try (refine gate_guard (by rfl) ?_; dsimp only)); refine box_event ?hg (N := 9) ?hd (cs := #[.int .i64 0, .bool false]) (t := 119) ?hr ?_; (case hd => rfl); (case hg => rfl); (case hr => first | (go_simp; done) | (go_simp; rfl)); intro gb213 hg w47 hbox hb; have n0_ := Aside0.mk (blk_below (g := gb209) (o := .cells #[.string ((rd_T80 l0 x17_1).f0), .int .i64 ((rd_T80 l0 x17_1).f1), .int .i64 ((rd_T80 l0 x17_1).f2), .int .i32 ((rd_T80 l0 x17_1).f3), .slice (some ad212) ((rd_T80 l0 x17_1).f4).length c208_4] 80 (0, 0)) (by (with_reducible repeat (first | refine blk_drewN ?_ _ | refine blk_drew ?_ | refine blk_alloc ?_ _)); exact BK209.out) hb); have n1_ := Aside0.mk (blk_below (g := gb211) (o := .cells #[.string ((rd_T80 l1 x17_1).f0), .int .i64 ((rd_T80 l1 x17_1).f1), .int .i64 ((rd_T80 l1 x17_1).f2), .int .i32 ((rd_T80 l1 x17_1).f3), .slice A210_4 ((rd_T80 l1 x17_1).f4).length c210_4] 80 (0, 0)) (by (with_reducible repeat (first | refine blk_drewN ?_ _ | refine blk_drew ?_ | refine blk_alloc ?_ _)); exact BK211.out) hb); have n2_ := Aside0.mk (below_step (by repeat (first | (with_reducible first | exact HB.out | apply below_alloc | apply pw_below_drewN | apply below_drew1 | refine below_set ?_ GE209.out | refine below_set ?_ GE211.out) | exact HB.out)) hb); have n3_ := Aside0.mk (hbox); have n4_ := Aside0.mk ((by rw [hg]; exact (below_size (by repeat (first | (with_reducible first | exact HB.out | apply below_alloc | apply pw_below_drewN | apply below_drew1 | refine below_set ?_ GE209.out | refine below_set ?_ GE211.out) | exact HB.out))) : w.heap.size ≤ gb213)); have n5_ := Aside0.mk ((by rw [hg]; exact (below_size (by repeat (first | (with_reducible first | exact HB.out | apply below_alloc | apply pw_below_drewN | apply below_drew1 | refine below_set ?_ GE209.out | refine below_set ?_ GE211.out) | exact HB.out))) : w.heap.size ≤ gb213)); have n6_ := Aside0.mk ((by rw [hg]; exact Nat.ne_of_lt (blk_lt (g := gb209) (o := .cells #[.string ((rd_T80 l0 x17_1).f0), .int .i64 ((rd_T80 l0 x17_1).f1), .int .i64 ((rd_T80 l0 x17_1).f2), .int .i32 ((rd_T80 l0 x17_1).f3), .slice (some ad212) ((rd_T80 l0 x17_1).f4).length c208_4] 80 (0, 0)) (by (with_reducible repeat (first | refine blk_drewN ?_ _ | refine blk_drew ?_ | refine blk_alloc ?_ _)); exact BK209.out)) : gb209 ≠ gb213)); have n7_ := Aside0.mk ((by rw [hg]; exact Nat.ne_of_gt (blk_lt (g := gb209) (o := .cells #[.string ((rd_T80 l0 x17_1).f0), .int .i64 ((rd_T80 l0 x17_1).f1), .int .i64 ((rd_T80 l0 x17_1).f2), .int .i32 ((rd_T80 l0 x17_1).f3), .slice (some ad212) ((rd_T80 l0 x17_1).f4).length c208_4] 80 (0, 0)) (by (with_reducible repeat (first | refine blk_drewN ?_ _ | refine blk_drew ?_ | refine blk_alloc ?_ _)); exact BK209.out)) : gb213 ≠ gb209)); have n8_ := Aside0.mk ((by rw [hg]; exact Nat.ne_of_lt (blk_lt (g := gb211) (o := .cells #[.string ((rd_T80 l1 x17_1).f0), .int .i64 ((rd_T80 l1 x17_1).f1), .int .i64 ((rd_T80 l1 x17_1).f2), .int .i32 ((rd_T80 l1 x17_1).f3), .slice A210_4 ((rd_T80 l1 x17_1).f4).length c210_4] 80 (0, 0)) (by (with_reducible repeat (first | refine blk_drewN ?_ _ | refine blk_drew ?_ | refine blk_alloc ?_ _)); exact BK211.out)) : gb211 ≠ gb213)); have n9_ := Aside0.mk ((by rw [hg]; exact Nat.ne_of_gt (blk_lt (g := gb211) (o := .cells #[.string ((rd_T80 l1 x17_1).f0), .int .i64 ((rd_T80 l1 x17_1).f1), .int .i64 ((rd_T80 l1 x17_1).f2), .int .i32 ((rd_T80 l1 x17_1).f3), .slice A210_4 ((rd_T80 l1 x17_1).f4).length c210_4] 80 (0, 0)) (by (with_reducible repeat (first | refine blk_drewN ?_ _ | refine blk_drew ?_ | refine blk_alloc ?_ _)); exact BK211.out)) : gb213 ≠ gb211)); clear BK209; clear BK211; clear HB; have BK209 := n0_; have BK211 := n1_; have HB := n2_; have BK213 := n3_; have GW213 := n4_; have GE213 := n5_; have NB209_213 := n6_; have NB213_209 := n7_; have NB211_213 := n8_; have NB213_211 := n9_; clear n0_ n1_ n2_ n3_ n4_ n5_ n6_ n7_ n8_ n9_; clear hb hbox hg; have hnb48 := NB213_209.out; have hnc48 := NB209_213.out; have hnb49 := NB213_211.out; have hnc49 := NB211_213.out; have hcz50_0 : w47.cell? ⟨gb213, 0, none⟩ = some (.int .i64 0) := (blk_cell BK213.out 0).trans rfl; have hcz50_1 : w47.cell? ⟨gb213, 1, none⟩ = some (.bool false) := (blk_cell BK213.out 1).trans rfl; have hfz50_0 := blk_frozen BK213.out 0; have hfz50_1 := blk_frozen BK213.out 1; have hnb51 := NB211_209.out; have hnc51 := NB209_211.out; have hcz52_0 : w47.cell? ⟨gb211, 0, none⟩ = some (.string ((rd_T80 l1 x17_1).f0)) := (blk_cell BK211.out 0).trans rfl; have hcz52_1 : w47.cell? ⟨gb211, 1, none⟩ = some (.int .i64 ((rd_T80 l1 x17_1).f1)) := (blk_cell BK211.out 1).trans rfl; have hcz52_2 : w47.cell? ⟨gb211, 2, none⟩ = some (.int .i64 ((rd_T80 l1 x17_1).f2)) := (blk_cell BK211.out 2).trans rfl; have hcz52_3 : w47.cell? ⟨gb211, 3, none⟩ = some (.int .i32 ((rd_T80 l1 x17_1).f3)) := (blk_cell BK211.out 3).trans rfl; have hcz52_4 : w47.cell? ⟨gb211, 4, none⟩ = some (.slice A210_4 ((rd_T80 l1 x17_1).f4).length c210_4) := (blk_cell BK211.out 4).trans rfl; have hfz52_0 := blk_frozen BK211.out 0; have hfz52_1 := blk_frozen BK211.out 1; have hfz52_2 := blk_frozen BK211.out 2; have hfz52_3 := blk_frozen BK211.out 3; have hfz52_4 := blk_frozen BK211.out 4; have p214 : 0 ≤ (x64_3 : Int) := of_decide_eq_true (by first | (with_reducible assumption) | assumption); have q214 : x64_3 < (((rd_T80 l1 x17_1).f4).length : Int) := of_decide_eq_true (by first | (with_reducible assumption) | assumption); obtain ⟨ad214, e214, hx214_0, hx214_1⟩ := at_T119 HR210_4.out x64_3 p214 q214; cases e214; have hn214_0 : ad214.block ≠ gb213 := Nat.ne_of_lt (Nat.lt_of_lt_of_le (by have := World.block_lt_of_cell? _ _ hx214_0; first | rwa [add_block] at this | exact this) GW213.out); have hn214_1 : ad214.block ≠ gb213 := Nat.ne_of_lt (Nat.lt_of_lt_of_le (by have := World.block_lt_of_cell? _ _ hx214_0; first | rwa [add_block] at this | exact this) GW213.out); replace hx214_0 := (HB.out.cell (World.block_lt_of_cell? w _ hx214_0)).trans hx214_0; replace hx214_1 := (HB.out.cell (World.block_lt_of_cell? w _ hx214_1)).trans hx214_1; replace hx214_0 := (cell_far (p := ⟨gb213, 0, none⟩) (by first | (rw [add_block]; exact hn214_0) | (show (Addr.add _ _).block ≠ _; rw [add_block]; exact hn214_0) | exact hn214_0) (.int .i64 ((rd_T119 ((rd_T80 l0 x17_1).f4) x64_3).f0))).trans hx214_0; replace hx214_1 := (cell_far (p := ⟨gb213, 0, none⟩) (by first | (rw [add_block]; exact hn214_0) | (show (Addr.add _ _).block ≠ _; rw [add_block]; exact hn214_0) | exact hn214_0) (.int .i64 ((rd_T119 ((rd_T80 l0 x17_1).f4) x64_3).f0))).trans hx214_1; replace hx214_0 := (cell_far (p := ⟨gb213, 1, none⟩) (by first | (rw [add_block]; exact hn214_1) | (show (Addr.add _ _).block ≠ _; rw [add_block]; exact hn214_1) | exact hn214_1) (.bool ((rd_T119 ((rd_T80 l0 x17_1).f4) x64_3).f1))).trans hx214_0; replace hx214_1 := (cell_far (p := ⟨gb213, 1, none⟩) (by first | (rw [add_block]; exact hn214_1) | (show (Addr.add _ _).block ≠ _; rw [add_block]; exact hn214_1) | exact hn214_1) (.bool ((rd_T119 ((rd_T80 l0 x17_1).f4) x64_3).f1))).trans hx214_1; (try have hy214_0 := fun (n_ : Nat) => (show ((((w47.drewN n_).setCell ⟨gb213, 0, none⟩ (.int .i64 ((rd_T119 ((rd_T80 l0 x17_1).f4) x64_3).f0))).setCell ⟨gb213, 1, none⟩ (.bool ((rd_T119 ((rd_T80 l0 x17_1).f4) x64_3).f1)))).cell? _ = some _ from hx214_0)); (try have hy214_1 := fun (n_ : Nat) => (show ((((w47.drewN n_).setCell ⟨gb213, 0, none⟩ (.int .i64 ((rd_T119 ((rd_T80 l0 x17_1).f4) x64_3).f0))).setCell ⟨gb213, 1, none⟩ (.bool ((rd_T119 ((rd_T80 l0 x17_1).f4) x64_3).f1)))).cell? _ = some _ from hx214_1)); clear hn214_0; clear hn214_1; replace p214 := eq_true p214; replace q214 := eq_true q214)); try go_wp2_with (first | ((with_reducible refine gate_dst (N := 9) rfl ?_); (try (refine gate_guard (by rfl) ?_; dsimp only)); refine box_event ?hg (N := 9) ?hd (cs := #[.int .i64 0, .bool false]) (t := 119) ?hr ?_; (case hd => rfl); (case hg => rfl); (case hr => first | (go_simp; done) | (go_simp; rfl)); intro gb213 hg w47 hbox hb; have n0_ := Aside0.mk (blk_below (g := gb209) (o := .cells #[.string ((rd_T80 l0 x17_1).f0), .int .i64 ((rd_T80 l0 x17_1).f1), .int .i64 ((rd_T80 l0 x17_1).f2), .int .i32 ((rd_T80 l0 x17_1).f3), .slice (some ad212) ((rd_T80 l0 x17_1).f4).length c208_4] 80 (0, 0)) (by (with_reducible repeat (first | refine blk_drewN ?_ _ | refine blk_drew ?_ | refine blk_alloc ?_ _)); exact BK209.out) hb); have n1_ := Aside0.mk (blk_below (g := gb211) (o := .cells #[.string ((rd_T80 l1 x17_1).f0), .int .i64 ((rd_T80 l1 x17_1).f1), .int .i64 ((rd_T80 l1 x17_1).f2), .int .i32 ((rd_T80 l1 x17_1).f3), .slice A210_4 ((rd_T80 l1 x17_1).f4).length c210_4] 80 (0, 0)) (by (with_reducible repeat (first | refine blk_drewN ?_ _ | refine blk_drew ?_ | refine blk_alloc ?_ _)); exact BK211.out) hb); have n2_ := Aside0.mk (below_step (by repeat (first | (with_reducible first | exact HB.out | apply below_alloc | apply pw_below_drewN | apply below_drew1 | refine below_set ?_ GE209.out | refine below_set ?_ GE211.out) | exact HB.out)) hb); have n3_ := Aside0.mk (hbox); have n4_ := Aside0.mk ((by rw [hg]; exact (below_size (by repeat (first | (with_reducible first | exact HB.out | apply below_alloc | apply pw_below_drewN | apply below_drew1 | refine below_set ?_ GE209.out | refine below_set ?_ GE211.out) | exact HB.out))) : w.heap.size ≤ gb213)); have n5_ := Aside0.mk ((by rw [hg]; exact (below_size (by repeat (first | (with_reducible first | exact HB.out | apply below_alloc | apply pw_below_drewN | apply below_drew1 | refine below_set ?_ GE209.out | refine below_set ?_ GE211.out) | exact HB.out))) : w.heap.size ≤ gb213)); have n6_ := Aside0.mk ((by rw [hg]; exact Nat.ne_of_lt (blk_lt (g := gb209) (o := .cells #[.string ((rd_T80 l0 x17_1).f0), .int .i64 ((rd_T80 l0 x17_1).f1), .int .i64 ((rd_T80 l0 x17_1).f2), .int .i32 ((rd_T80 l0 x17_1).f3), .slice (some ad212) ((rd_T80 l0 x17_1).f4).length c208_4] 80 (0, 0)) (by (with_reducible repeat (first | refine blk_drewN ?_ _ | refine blk_drew ?_ | refine blk_alloc ?_ _)); exact BK209.out)) : gb209 ≠ gb213)); have n7_ := Aside0.mk ((by rw [hg]; exact Nat.ne_of_gt (blk_lt (g := gb209) (o := .cells #[.string ((rd_T80 l0 x17_1).f0), .int .i64 ((rd_T80 l0 x17_1).f1), .int .i64 ((rd_T80 l0 x17_1).f2), .int .i32 ((rd_T80 l0 x17_1).f3), .slice (some ad212) ((rd_T80 l0 x17_1).f4).length c208_4] 80 (0, 0)) (by (with_reducible repeat (first | refine blk_drewN ?_ _ | refine blk_drew ?_ | refine blk_alloc ?_ _)); exact BK209.out)) : gb213 ≠ gb209)); have n8_ := Aside0.mk ((by rw [hg]; exact Nat.ne_of_lt (blk_lt (g := gb211) (o := .cells #[.string ((rd_T80 l1 x17_1).f0), .int .i64 ((rd_T80 l1 x17_1).f1), .int .i64 ((rd_T80 l1 x17_1).f2), .int .i32 ((rd_T80 l1 x17_1).f3), .slice A210_4 ((rd_T80 l1 x17_1).f4).length c210_4] 80 (0, 0)) (by (with_reducible repeat (first | refine blk_drewN ?_ _ | refine blk_drew ?_ | refine blk_alloc ?_ _)); exact BK211.out)) : gb211 ≠ gb213)); have n9_ := Aside0.mk ((by rw [hg]; exact Nat.ne_of_gt (blk_lt (g := gb211) (o := .cells #[.string ((rd_T80 l1 x17_1).f0), .int .i64 ((rd_T80 l1 x17_1).f1), .int .i64 ((rd_T80 l1 x17_1).f2), .int .i32 ((rd_T80 l1 x17_1).f3), .slice A210_4 ((rd_T80 l1 x17_1).f4).length c210_4] 80 (0, 0)) (by (with_reducible repeat (first | refine blk_drewN ?_ _ | refine blk_drew ?_ | refine blk_alloc ?_ _)); exact BK211.out)) : gb213 ≠ gb211)); clear BK209; clear BK211; clear HB; have BK209 := n0_; have BK211 := n1_; have HB := n2_; have BK213 := n3_; have GW213 := n4_; have GE213 := n5_; have NB209_213 := n6_; have NB213_209 := n7_; have NB211_213 := n8_; have NB213_211 := n9_; clear n0_ n1_ n2_ n3_ n4_ n5_ n6_ n7_ n8_ n9_; clear hb hbox hg; have hnb48 := NB213_209.out; have hnc48 := NB209_213.out; have hnb49 := NB213_211.out; have hnc49 := NB211_213.out; have hcz50_0 : w47.cell? ⟨gb213, 0, none⟩ = some (.int .i64 0) := (blk_cell BK213.out 0).trans rfl; have hcz50_1 : w47.cell? ⟨gb213, 1, none⟩ = some (.bool false) := (blk_cell BK213.out 1).trans rfl; have hfz50_0 := blk_frozen BK213.out 0; have hfz50_1 := blk_frozen BK213.out 1; have hnb51 := NB211_209.out; have hnc51 := NB209_211.out; have hcz52_0 : w47.cell? ⟨gb211, 0, none⟩ = some (.string ((rd_T80 l1 x17_1).f0)) := (blk_cell BK211.out 0).trans rfl; have hcz52_1 : w47.cell? ⟨gb211, 1, none⟩ = some (.int .i64 ((rd_T80 l1 x17_1).f1)) := (blk_cell BK211.out 1).trans rfl; have hcz52_2 : w47.cell? ⟨gb211, 2, none⟩ = some (.int .i64 ((rd_T80 l1 x17_1).f2)) := (blk_cell BK211.out 2).trans rfl; have hcz52_3 : w47.cell? ⟨gb211, 3, none⟩ = some (.int .i32 ((rd_T80 l1 x17_1).f3)) := (blk_cell BK211.out 3).trans rfl; have hcz52_4 : w47.cell? ⟨gb211, 4, none⟩ = some (.slice A210_4 ((rd_T80 l1 x17_1).f4).length c210_4) := (blk_cell BK211.out 4).trans rfl; have hfz52_0 := blk_frozen BK211.out 0; have hfz52_1 := blk_frozen BK211.out 1; have hfz52_2 := blk_frozen BK211.out 2; have hfz52_3 := blk_frozen BK211.out 3; have hfz52_4 := blk_frozen BK211.out 4; have p214 : 0 ≤ (x64_3 : Int) := of_decide_eq_true (by first | (with_reducible assumption) | assumption); have q214 : x64_3 < (((rd_T80 l1 x17_1).f4).length : Int) := of_decide_eq_true (by first | (with_reducible assumption) | assumption); obtain ⟨ad214, e214, hx214_0, hx214_1⟩ := at_T119 HR210_4.out x64_3 p214 q214; cases e214; have hn214_0 : ad214.block ≠ gb213 := Nat.ne_of_lt (Nat.lt_of_lt_of_le (by have := World.block_lt_of_cell? _ _ hx214_0; first | rwa [add_block] at this | exact this) GW213.out); have hn214_1 : ad214.block ≠ gb213 := Nat.ne_of_lt (Nat.lt_of_lt_of_le (by have := World.block_lt_of_cell? _ _ hx214_0; first | rwa [add_block] at this | exact this) GW213.out); replace hx214_0 := (HB.out.cell (World.block_lt_of_cell? w _ hx214_0)).trans hx214_0; replace hx214_1 := (HB.out.cell (World.block_lt_of_cell? w _ hx214_1)).trans hx214_1; replace hx214_0 := (cell_far (p := ⟨gb213, 0, none⟩) (by first | (rw [add_block]; exact hn214_0) | (show (Addr.add _ _).block ≠ _; rw [add_block]; exact hn214_0) | exact hn214_0) (.int .i64 ((rd_T119 ((rd_T80 l0 x17_1).f4) x64_3).f0))).trans hx214_0; replace hx214_1 := (cell_far (p := ⟨gb213, 0, none⟩) (by first | (rw [add_block]; exact hn214_0) | (show (Addr.add _ _).block ≠ _; rw [add_block]; exact hn214_0) | exact hn214_0) (.int .i64 ((rd_T119 ((rd_T80 l0 x17_1).f4) x64_3).f0))).trans hx214_1; replace hx214_0 := (cell_far (p := ⟨gb213, 1, none⟩) (by first | (rw [add_block]; exact hn214_1) | (show (Addr.add _ _).block ≠ _; rw [add_block]; exact hn214_1) | exact hn214_1) (.bool ((rd_T119 ((rd_T80 l0 x17_1).f4) x64_3).f1))).trans hx214_0; replace hx214_1 := (cell_far (p := ⟨gb213, 1, none⟩) (by first | (rw [add_block]; exact hn214_1) | (show (Addr.add _ _).block ≠ _; rw [add_block]; exact hn214_1) | exact hn214_1) (.bool ((rd_T119 ((rd_T80 l0 x17_1).f4) x64_3).f1))).trans hx214_1; (try have hy214_0 := fun (n_ : Nat) => (show ((((w47.drewN n_).setCell ⟨gb213, 0, none⟩ (.int .i64 ((rd_T119 ((rd_T80 l0 x17_1).f4) x64_3).f0))).setCell ⟨gb213, 1, none⟩ (.bool ((rd_T119 ((rd_T80 l0 x17_1).f4) x64_3).f1)))).cell? _ = some _ from hx214_0)); (try have hy214_1 := fun (n_ : Nat) => (show ((((w47.drewN n_).setCell ⟨gb213, 0, none⟩ (.int .i64 ((rd_T119 ((rd_T80 l0 x17_1).f4) x64_3).f0))).setCell ⟨gb213, 1, none⟩ (.bool ((rd_T119 ((rd_T80 l0 x17_1).f4) x64_3).f1)))).cell? _ = some _ from hx214_1)); clear hn214_0; clear hn214_1; replace p214 := eq_true p214; replace q214 := eq_true q214)))
                                    go_roundg k3
                                    case measure => have := HK1.out; have := HJ7.out; have := HK3.out; omega
                                    case rel => exact ⟨(wrap64 (x64_3 + 1)), (by first | rfl | (simp; done) | (simp [*]; done)), H', ⟨by have := HK1.out; have := HJ7.out; have := HK3.out; omega⟩, ⟨by (with_reducible repeat (first | refine blk_drewN ?_ _ | refine blk_drew ?_ | refine blk_alloc ?_ _)); refine blk_far ?_ NB209_213.out _; (with_reducible repeat (first | refine blk_drewN ?_ _ | refine blk_drew ?_ | refine blk_alloc ?_ _)); refine blk_far ?_ NB209_213.out _; (with_reducible repeat (first | refine blk_drewN ?_ _ | refine blk_drew ?_ | refine blk_alloc ?_ _)); exact BK209.out⟩, ⟨by (with_reducible repeat (first | refine blk_drewN ?_ _ | refine blk_drew ?_ | refine blk_alloc ?_ _)); refine blk_far ?_ NB211_213.out _; (with_reducible repeat (first | refine blk_drewN ?_ _ | refine blk_drew ?_ | refine blk_alloc ?_ _)); refine blk_far ?_ NB211_213.out _; (with_reducible repeat (first | refine blk_drewN ?_ _ | refine blk_drew ?_ | refine blk_alloc ?_ _)); exact BK211.out⟩, ⟨by repeat (first | (with_reducible first | exact HB.out | apply below_alloc | apply pw_below_drewN | apply below_drew1 | refine below_set ?_ GE209.out | refine below_set ?_ GE211.out | refine below_set ?_ GE213.out) | exact HB.out)⟩⟩
                                · rw [if_neg c39] at H
                                  exact absurd H (by simp)
                              · rw [if_neg c38] at H
                                exact absurd H (by simp)
                            · rw [if_neg c37] at H
                              exact absurd H (by simp)
                          · rw [if_neg c36] at H
                            have c36b0 : decide (x64_3 < (((rd_T80 l0 x17_1).f4).length : Int)) = false := decide_eq_false c36
                            clear c36
                            have H' := Aside0.mk H
                            clear H
                            go_wp2
                            repeat (go_quiet (fail); try go_wp2)
                            go_roundg k3
                            case measure => have := HK1.out; have := HJ7.out; have := HK3.out; omega
                            case rel => exact ⟨(wrap64 (x17_1 + 1)), (by first | rfl | (simp; done) | (simp [*]; done)), H', ⟨by have := HK1.out; have := HJ7.out; have := HK3.out; omega⟩, ⟨by repeat (first | (with_reducible first | exact HB.out | apply below_alloc | apply pw_below_drewN | apply below_drew1 | refine below_set ?_ GE209.out | refine below_set ?_ GE211.out) | exact HB.out)⟩⟩
              · rw [if_neg c7] at H
                exact absurd H (by simp)
            · rw [if_neg c6] at H
              exact absurd H (by simp)
          · rw [if_neg c5] at H
            exact absurd H (by simp)
        · rw [if_neg c4] at H
          have c4b0 : decide (x17_1 < (l0.length : Int)) = false := decide_eq_false c4
          clear c4
          obtain rfl := Option.some.inj H
          go_wp2
          repeat (go_quiet (fail); try go_wp2)
          go_ret
          exact ⟨by first | rfl | (simp [errW_none, errW_some] <;> rfl) | (simp [*, errW_none, errW_some] <;> rfl), by repeat (first | (with_reducible first | exact HB.out | apply below_alloc | apply pw_below_drewN | apply below_drew1) | exact HB.out)⟩
  · rw [if_neg c3] at H
    have c3b0 : ((l0.length : Int) == (l1.length : Int)) = false := beq_eq_false_iff_ne.mpr c3
    have c3b1 : ((l0.length : Int) != (l1.length : Int)) = true := bne_iff_ne.mpr c3
    have c3b2 : (l0.length == l1.length) = false := by first | simpa using c3 | (simp at c3 ⊢; omega)
    obtain rfl := Option.some.inj H
    go_enter Try.func27, Try.ntmps27
    go_wp2
    repeat (go_quiet (fail); try go_wp2)
    go_ret
    exact ⟨by first | rfl | (simp [errW_none, errW_some] <;> rfl) | (simp [*, errW_none, errW_some] <;> rfl), by repeat (first | (with_reducible first | exact HB.out | apply below_alloc | apply pw_below_drewN | apply below_drew1) | exact HB.out)⟩

end Go.Proofs.Ytehdhmhpmkkneaa.PAll
