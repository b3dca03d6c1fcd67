-- PRINTED by print.py (a twelfth state) out of the translation. Not trusted: Lean checks it.
import Derived.Test.YtmalonlbnjiclaaPAllx0
import Derived.Test.YtmalonlbnjiclaaPAllx2
namespace Go.Proofs.Ytmalonlbnjiclaa.PAll
open Go.RowKit Go.Proofs.YtmalonlbnjiclaaW.PrintWords Go.Proofs.YtmalonlbnjiclaaW.PrintLast Go.Proofs.YtmalonlbnjiclaaW.PrintMore
attribute [local go_sem] max2_int min2_int max_two min_two max_three min_three max_four min_four   -- for this text's walks alone
set_option linter.unusedVariables false
set_option linter.unusedSimpArgs false

/-! ### scan_Scanner_mark: function 36 -/
mutual
def scan_Scanner_mark.j0 : Nat → Int → ByteArray → Int → Option (Int × Int × Int × ByteArray × Int)
  | 0, _, _, _ => none
  | k + 1, x5, x1000, x1001 => scan_Scanner_mark.l0 k x5 0 x1000 x1001
def scan_Scanner_mark.l0 : Nat → Int → Int → ByteArray → Int → Option (Int × Int × Int × ByteArray × Int)
  | 0, _, _, _, _ => none
  | k + 1, x5, x49, x1000, x1001 => if x49 < 17 then (if 0 ≤ x49 then (if (bt (⟨#[43, 45, 42, 61, 35, 60, 62, 40, 41, 91, 93, 46, 44, 59, 58, 94, 124]⟩ : ByteArray) x49) = x5 then (some (6, 0, 0, x1000, x1001)) else (scan_Scanner_mark.l0 k x5 (wrap64 (x49 + 1)) x1000 x1001)) else (none)) else (some (0, 0, 83, x1000, x1001))
end
def scan_Scanner_mark.f (k : Nat) (s0_0 : ByteArray) (s0_1 : Int) : Option (Int × Int × Int × ByteArray × Int) := (scan_Scanner_peek.f s0_0 s0_1 0).bind fun bt145 => ((scan_Scanner_peek.f bt145.2.1 bt145.2.2 1).bind fun bt148 => (if bt145.1 = 58 then (if bt148.1 = 61 then (some (6, 0, 0, bt148.2.1, wrap64 ((wrap64 (bt148.2.2 + 1)) + 1))) else (if bt145.1 = 60 then (if bt145.1 = 62 then (scan_Scanner_mark.j0 k bt145.1 bt148.2.1 (wrap64 (bt148.2.2 + 1))) else (scan_Scanner_mark.j0 k bt145.1 bt148.2.1 (wrap64 (bt148.2.2 + 1)))) else (if bt145.1 = 62 then (scan_Scanner_mark.j0 k bt145.1 bt148.2.1 (wrap64 (bt148.2.2 + 1))) else (scan_Scanner_mark.j0 k bt145.1 bt148.2.1 (wrap64 (bt148.2.2 + 1)))))) else (if bt145.1 = 60 then (if bt148.1 = 61 then (some (6, 0, 0, bt148.2.1, wrap64 ((wrap64 (bt148.2.2 + 1)) + 1))) else (if bt145.1 = 62 then (scan_Scanner_mark.j0 k bt145.1 bt148.2.1 (wrap64 (bt148.2.2 + 1))) else (scan_Scanner_mark.j0 k bt145.1 bt148.2.1 (wrap64 (bt148.2.2 + 1))))) else (if bt145.1 = 62 then (if bt148.1 = 61 then (some (6, 0, 0, bt148.2.1, wrap64 ((wrap64 (bt148.2.2 + 1)) + 1))) else (scan_Scanner_mark.j0 k bt145.1 bt148.2.1 (wrap64 (bt148.2.2 + 1)))) else (scan_Scanner_mark.j0 k bt145.1 bt148.2.1 (wrap64 (bt148.2.2 + 1)))))))
theorem scan_Scanner_mark.mono_l : ∀ k, (∀ y0 y1 y2, LeO (scan_Scanner_mark.j0 k y0 y1 y2) (scan_Scanner_mark.j0 (k + 1) y0 y1 y2)) ∧ (∀ y0 y1 y2 y3, LeO (scan_Scanner_mark.l0 k y0 y1 y2 y3) (scan_Scanner_mark.l0 (k + 1) y0 y1 y2 y3))
  | 0 => ⟨fun _ _ _ r h => by simp [scan_Scanner_mark.j0] at h, fun _ _ _ _ r h => by simp [scan_Scanner_mark.l0] at h⟩
  | k + 1 => by
    obtain ⟨ih0, ih1⟩ := scan_Scanner_mark.mono_l k
    refine ⟨?_, ?_⟩
    · intro y0 y1 y2
      unfold scan_Scanner_mark.j0
      repeat' first
      | (with_reducible exact ih0 _ _ _)
      | (with_reducible exact ih1 _ _ _ _)
      | (with_reducible exact LeO.refl _)
      | (with_reducible exact LeO.none _)
      | (with_reducible refine LeO.ite ?_ ?_)
      | (with_reducible refine LeO.bind ?_ (fun _ => ?_))
      | exact ih0 _ _ _
      | exact ih1 _ _ _ _
      | exact LeO.none _
      | refine LeO.ite ?_ ?_
      | refine LeO.bind ?_ (fun _ => ?_)
    · intro y0 y1 y2 y3
      unfold scan_Scanner_mark.l0
      repeat' first
      | (with_reducible exact ih0 _ _ _)
      | (with_reducible exact ih1 _ _ _ _)
      | (with_reducible exact LeO.refl _)
      | (with_reducible exact LeO.none _)
      | (with_reducible refine LeO.ite ?_ ?_)
      | (with_reducible refine LeO.bind ?_ (fun _ => ?_))
      | exact ih0 _ _ _
      | exact ih1 _ _ _ _
      | exact LeO.none _
      | refine LeO.ite ?_ ?_
      | refine LeO.bind ?_ (fun _ => ?_)
theorem scan_Scanner_mark.mono : ∀ a0 a1 k, LeO (scan_Scanner_mark.f k a0 a1) (scan_Scanner_mark.f (k + 1) a0 a1) := by
  intro a0 a1 k
  obtain ⟨ih0, ih1⟩ := scan_Scanner_mark.mono_l k
  unfold scan_Scanner_mark.f
  repeat' first
      | (with_reducible exact ih0 _ _ _)
      | (with_reducible exact ih1 _ _ _ _)
      | (with_reducible exact LeO.refl _)
      | (with_reducible exact LeO.none _)
      | (with_reducible refine LeO.ite ?_ ?_)
      | (with_reducible refine LeO.bind ?_ (fun _ => ?_))
      | exact ih0 _ _ _
      | exact ih1 _ _ _ _
      | exact LeO.none _
      | refine LeO.ite ?_ ?_
      | refine LeO.bind ?_ (fun _ => ?_)
set_option maxHeartbeats 8000000 in
set_option maxRecDepth 100000 in
theorem scan_Scanner_mark.calls (k : Nat) (g : Nat) (s0_0 : ByteArray) (s0_1 : Int) (r1 : Int) (r2 : Int) (r3 : Int) (r4 : ByteArray) (r5 : Int) (w0 w : World) (hI : IsS43 w0 w g s0_0 s0_1) (hB : Below w0.heap.size w0 w) (h : scan_Scanner_mark.f k s0_0 s0_1 = some (r1, r2, r3, r4, r5)) :
    Calls Try.prog 36 #[.pointer (some ⟨g, 0, none⟩)] w fun e w' => e = .returned (.tuple #[.int .i64 r1, .int .i32 r2, .int .i64 r3]) ∧ IsS43 w0 w' g r4 r5 ∧ Below w0.heap.size w0 w' ∧ KeepBut w w' g none := by
  have HI0 := Aside0.mk hI
  have HK := Aside0.mk (KeepBut.refl w g none)
  have HL := Aside0.mk hB.size
  clear hI
  have HW0 := Aside0.mk hB.size
  have HB := Aside0.mk hB
  clear hB
  have H : ((scan_Scanner_peek.f s0_0 s0_1 0).bind fun bt145 => ((scan_Scanner_peek.f bt145.2.1 bt145.2.2 1).bind fun bt148 => (if bt145.1 = 58 then (if bt148.1 = 61 then (some (6, 0, 0, bt148.2.1, wrap64 ((wrap64 (bt148.2.2 + 1)) + 1))) else (if bt145.1 = 60 then (if bt145.1 = 62 then (scan_Scanner_mark.j0 k bt145.1 bt148.2.1 (wrap64 (bt148.2.2 + 1))) else (scan_Scanner_mark.j0 k bt145.1 bt148.2.1 (wrap64 (bt148.2.2 + 1)))) else (if bt145.1 = 62 then (scan_Scanner_mark.j0 k bt145.1 bt148.2.1 (wrap64 (bt148.2.2 + 1))) else (scan_Scanner_mark.j0 k bt145.1 bt148.2.1 (wrap64 (bt148.2.2 + 1)))))) else (if bt145.1 = 60 then (if bt148.1 = 61 then (some (6, 0, 0, bt148.2.1, wrap64 ((wrap64 (bt148.2.2 + 1)) + 1))) else (if bt145.1 = 62 then (scan_Scanner_mark.j0 k bt145.1 bt148.2.1 (wrap64 (bt148.2.2 + 1))) else (scan_Scanner_mark.j0 k bt145.1 bt148.2.1 (wrap64 (bt148.2.2 + 1))))) else (if bt145.1 = 62 then (if bt148.1 = 61 then (some (6, 0, 0, bt148.2.1, wrap64 ((wrap64 (bt148.2.2 + 1)) + 1))) else (scan_Scanner_mark.j0 k bt145.1 bt148.2.1 (wrap64 (bt148.2.2 + 1)))) else (scan_Scanner_mark.j0 k bt145.1 bt148.2.1 (wrap64 (bt148.2.2 + 1)))))))) = some (r1, r2, r3, r4, r5) := h
  clear h
  replace H := Option.bind_eq_some_iff.mp H
  obtain ⟨⟨t145, t146, t147⟩, A20, H⟩ := H
  replace H : ((scan_Scanner_peek.f t146 t147 1).bind fun bt148 => (if t145 = 58 then (if bt148.1 = 61 then (some (6, 0, 0, bt148.2.1, wrap64 ((wrap64 (bt148.2.2 + 1)) + 1))) else (if t145 = 60 then (if t145 = 62 then (scan_Scanner_mark.j0 k t145 bt148.2.1 (wrap64 (bt148.2.2 + 1))) else (scan_Scanner_mark.j0 k t145 bt148.2.1 (wrap64 (bt148.2.2 + 1)))) else (if t145 = 62 then (scan_Scanner_mark.j0 k t145 bt148.2.1 (wrap64 (bt148.2.2 + 1))) else (scan_Scanner_mark.j0 k t145 bt148.2.1 (wrap64 (bt148.2.2 + 1)))))) else (if t145 = 60 then (if bt148.1 = 61 then (some (6, 0, 0, bt148.2.1, wrap64 ((wrap64 (bt148.2.2 + 1)) + 1))) else (if t145 = 62 then (scan_Scanner_mark.j0 k t145 bt148.2.1 (wrap64 (bt148.2.2 + 1))) else (scan_Scanner_mark.j0 k t145 bt148.2.1 (wrap64 (bt148.2.2 + 1))))) else (if t145 = 62 then (if bt148.1 = 61 then (some (6, 0, 0, bt148.2.1, wrap64 ((wrap64 (bt148.2.2 + 1)) + 1))) else (scan_Scanner_mark.j0 k t145 bt148.2.1 (wrap64 (bt148.2.2 + 1)))) else (scan_Scanner_mark.j0 k t145 bt148.2.1 (wrap64 (bt148.2.2 + 1))))))) = some (r1, r2, r3, r4, r5) := H
  have A2 := Aside0.mk A20
  clear A20
  replace H := Option.bind_eq_some_iff.mp H
  obtain ⟨⟨t148, t149, t150⟩, A30, H⟩ := H
  replace H : (if t145 = 58 then (if t148 = 61 then (some (6, 0, 0, t149, wrap64 ((wrap64 (t150 + 1)) + 1))) else (if t145 = 60 then (if t145 = 62 then (scan_Scanner_mark.j0 k t145 t149 (wrap64 (t150 + 1))) else (scan_Scanner_mark.j0 k t145 t149 (wrap64 (t150 + 1)))) else (if t145 = 62 then (scan_Scanner_mark.j0 k t145 t149 (wrap64 (t150 + 1))) else (scan_Scanner_mark.j0 k t145 t149 (wrap64 (t150 + 1)))))) else (if t145 = 60 then (if t148 = 61 then (some (6, 0, 0, t149, wrap64 ((wrap64 (t150 + 1)) + 1))) else (if t145 = 62 then (scan_Scanner_mark.j0 k t145 t149 (wrap64 (t150 + 1))) else (scan_Scanner_mark.j0 k t145 t149 (wrap64 (t150 + 1))))) else (if t145 = 62 then (if t148 = 61 then (some (6, 0, 0, t149, wrap64 ((wrap64 (t150 + 1)) + 1))) else (scan_Scanner_mark.j0 k t145 t149 (wrap64 (t150 + 1)))) else (scan_Scanner_mark.j0 k t145 t149 (wrap64 (t150 + 1)))))) = some (r1, r2, r3, r4, r5) := H
  have A3 := Aside0.mk A30
  clear A30
  have HC4 := Aside0.mk H
  clear H
  go_enter Try.func36, Try.ntmps36
  go_upto_block 0 with (first | ((with_reducible refine gate_callee (f := 28) rfl ?_); refine goesL_ (some 9) rfl rfl Try.func28 (by kernel_rfl) rfl #[.pointer (some ⟨g, 0, none⟩), .int .i64 0] rfl (by (try simp only [List.map_toArray, List.map_cons, List.map_nil]); first | done | rfl | (simp only [List.length_drop, List.length_take]; rfl)) ?_; (with_reducible refine (scan_Scanner_peek.calls g s0_0 s0_1 0 t145 t146 t147 w0 _ ?side1 ?side2 A2.out).mono ?_); (case side1 => repeat (first | (with_reducible first | exact HI0.out | apply IsS43.alloc | apply IsS43.drewN | apply IsS43.drew | apply IsS43.set_0 | apply IsS43.set_1) | exact HI0.out)); (case side2 => repeat (first | (with_reducible first | exact HB.out | apply below_alloc | apply pw_below_drewN | apply below_drew1 | refine below_set ?_ (IsS43.ge HI0.out)) | exact HB.out)); rintro e w5 ⟨rfl, hi, hb, hk⟩; refine ⟨_, rfl, ?_⟩; have n0_ := Aside0.mk (KeepBut.trans (by repeat (first | (with_reducible first | exact HK.out | apply KeepBut.set_ | apply keep_drewN | apply keep_drew | apply keep_alloc) | exact HK.out)) hk (.inl rfl)); have n1_ := Aside0.mk (hb); have n2_ := Aside0.mk (hi); clear HK; clear HB; clear HI0; have HK := n0_; have HB := n1_; have HI0 := n2_; clear n0_ n1_ n2_; (try clear hb); (try clear hb2); (try clear hk); (try clear hi)) | ((with_reducible refine gate_callee (f := 28) rfl ?_); refine goesL_ (some 11) rfl rfl Try.func28 (by kernel_rfl) rfl #[.pointer (some ⟨g, 0, none⟩), .int .i64 1] rfl (by (try simp only [List.map_toArray, List.map_cons, List.map_nil]); first | done | rfl | (simp only [List.length_drop, List.length_take]; rfl)) ?_; (with_reducible refine (scan_Scanner_peek.calls g t146 t147 1 t148 t149 t150 w0 _ ?side1 ?side2 A3.out).mono ?_); (case side1 => repeat (first | (with_reducible first | exact HI0.out | apply IsS43.alloc | apply IsS43.drewN | apply IsS43.drew | apply IsS43.set_0 | apply IsS43.set_1) | exact HI0.out)); (case side2 => repeat (first | (with_reducible first | exact HB.out | apply below_alloc | apply pw_below_drewN | apply below_drew1 | refine below_set ?_ (IsS43.ge HI0.out)) | exact HB.out)); rintro e w6 ⟨rfl, hi, hb, hk⟩; refine ⟨_, rfl, ?_⟩; have n0_ := Aside0.mk (KeepBut.trans (by repeat (first | (with_reducible first | exact HK.out | apply KeepBut.set_ | apply keep_drewN | apply keep_drew | apply keep_alloc) | exact HK.out)) hk (.inl rfl)); have n1_ := Aside0.mk (hb); have n2_ := Aside0.mk (hi); clear HK; clear HB; clear HI0; have HK := n0_; have HB := n1_; have HI0 := n2_; clear n0_ n1_ n2_; (try clear hb); (try clear hb2); (try clear hk); (try clear hi); obtain ⟨HGz7, hgz7⟩ := HI0.out; have hcz7_0 := cellS43_0 HGz7; have hcz7_1 := cellS43_1 HGz7; have hfz7_0 := blk_frozen HGz7 0; have hfz7_1 := blk_frozen HGz7 1; clear HGz7 hgz7))
  (try simp only [Act.put, List.setIfInBounds_toArray, List.set_cons_zero, List.set_cons_succ])
  go_cut [] (fun wc => ∃ (kq : Nat) (x1001_3 : Int), Aside0 (scan_Scanner_mark.j0 kq t145 t149 x1001_3 = some (r1, r2, r3, r4, r5)) ∧ Aside0 (kq ≤ k) ∧ Aside0 (IsS43 w0 wc g t149 x1001_3) ∧ Aside0 (KeepBut w wc g none) ∧ Aside0 (Below w0.heap.size w0 wc))
  case first =>
    have H := HC4.out
    clear HC4
    by_cases c8 : t145 = 58
    · rw [if_pos c8] at H
      have c8b0 : (t145 == 58) = true := beq_iff_eq.mpr c8
      have c8b1 : (t145 != 58) = false := bne_eq_false_iff_eq.mpr c8
      clear c8
      (first | rw [c8b0] | (simp only [i64_w, i32_w]; rw [c8b0]) | skip)
      by_cases c9 : t148 = 61
      · rw [if_pos c9] at H
        have c9b0 : (t148 == 61) = true := beq_iff_eq.mpr c9
        have c9b1 : (t148 != 61) = false := bne_eq_false_iff_eq.mpr c9
        clear c9
        simp only [Option.some.injEq, Prod.mk.injEq] at H
        obtain ⟨rfl, rfl, rfl, rfl, rfl⟩ := H
        obtain ⟨HGz10, hgz10⟩ := HI0.out
        have hcz10_0 := cellS43_0 HGz10
        have hcz10_1 := cellS43_1 HGz10
        have hfz10_0 := blk_frozen HGz10 0
        have hfz10_1 := blk_frozen HGz10 1
        clear HGz10 hgz10
        go_wp2
        go_ret3
        exact ⟨by first | rfl | (simp [errW_none, errW_some] <;> rfl) | (simp [*, errW_none, errW_some] <;> rfl), by repeat (first | (with_reducible first | exact HI0.out | apply IsS43.alloc | apply IsS43.drewN | apply IsS43.drew | apply IsS43.set_0 | apply IsS43.set_1) | exact HI0.out), by repeat (first | (with_reducible first | exact HB.out | apply below_alloc | apply pw_below_drewN | apply below_drew1 | refine below_set ?_ (IsS43.ge HI0.out)) | exact HB.out), by repeat (first | (with_reducible first | exact HK.out | apply KeepBut.set_ | apply keep_drewN | apply keep_drew | apply keep_alloc) | exact HK.out)⟩
      · rw [if_neg c9] at H
        have c9b0 : (t148 == 61) = false := beq_eq_false_iff_ne.mpr c9
        have c9b1 : (t148 != 61) = true := bne_iff_ne.mpr c9
        by_cases c11 : t145 = 60
        · rw [if_pos c11] at H
          have c11b0 : (t145 == 60) = true := beq_iff_eq.mpr c11
          have c11b1 : (t145 != 60) = false := bne_eq_false_iff_eq.mpr c11
          clear c11
          by_cases c12 : t145 = 62
          · rw [if_pos c12] at H
            have c12b0 : (t145 == 62) = true := beq_iff_eq.mpr c12
            have c12b1 : (t145 != 62) = false := bne_eq_false_iff_eq.mpr c12
            clear c12
            have H' := Aside0.mk H
            clear H
            go_wp2
            go_meet
            case rel => exact ⟨_, (wrap64 (t150 + 1)), H', ⟨by first | omega | exact Nat.le_refl _⟩, ⟨by repeat (first | (with_reducible first | exact HI0.out | apply IsS43.alloc | apply IsS43.drewN | apply IsS43.drew | apply IsS43.set_0 | apply IsS43.set_1) | exact HI0.out)⟩, ⟨by repeat (first | (with_reducible first | exact HK.out | apply KeepBut.set_ | apply keep_drewN | apply keep_drew | apply keep_alloc) | exact HK.out)⟩, ⟨by repeat (first | (with_reducible first | exact HB.out | apply below_alloc | apply pw_below_drewN | apply below_drew1 | refine below_set ?_ (IsS43.ge HI0.out)) | exact HB.out)⟩⟩
          · rw [if_neg c12] at H
            have c12b0 : (t145 == 62) = false := beq_eq_false_iff_ne.mpr c12
            have c12b1 : (t145 != 62) = true := bne_iff_ne.mpr c12
            have H' := Aside0.mk H
            clear H
            go_wp2
            go_meet
            case rel => exact ⟨_, (wrap64 (t150 + 1)), H', ⟨by first | omega | exact Nat.le_refl _⟩, ⟨by repeat (first | (with_reducible first | exact HI0.out | apply IsS43.alloc | apply IsS43.drewN | apply IsS43.drew | apply IsS43.set_0 | apply IsS43.set_1) | exact HI0.out)⟩, ⟨by repeat (first | (with_reducible first | exact HK.out | apply KeepBut.set_ | apply keep_drewN | apply keep_drew | apply keep_alloc) | exact HK.out)⟩, ⟨by repeat (first | (with_reducible first | exact HB.out | apply below_alloc | apply pw_below_drewN | apply below_drew1 | refine below_set ?_ (IsS43.ge HI0.out)) | exact HB.out)⟩⟩
        · rw [if_neg c11] at H
          have c11b0 : (t145 == 60) = false := beq_eq_false_iff_ne.mpr c11
          have c11b1 : (t145 != 60) = true := bne_iff_ne.mpr c11
          by_cases c13 : t145 = 62
          · rw [if_pos c13] at H
            have c13b0 : (t145 == 62) = true := beq_iff_eq.mpr c13
            have c13b1 : (t145 != 62) = false := bne_eq_false_iff_eq.mpr c13
            clear c13
            have H' := Aside0.mk H
            clear H
            go_wp2
            go_meet
            case rel => exact ⟨_, (wrap64 (t150 + 1)), H', ⟨by first | omega | exact Nat.le_refl _⟩, ⟨by repeat (first | (with_reducible first | exact HI0.out | apply IsS43.alloc | apply IsS43.drewN | apply IsS43.drew | apply IsS43.set_0 | apply IsS43.set_1) | exact HI0.out)⟩, ⟨by repeat (first | (with_reducible first | exact HK.out | apply KeepBut.set_ | apply keep_drewN | apply keep_drew | apply keep_alloc) | exact HK.out)⟩, ⟨by repeat (first | (with_reducible first | exact HB.out | apply below_alloc | apply pw_below_drewN | apply below_drew1 | refine below_set ?_ (IsS43.ge HI0.out)) | exact HB.out)⟩⟩
          · rw [if_neg c13] at H
            have c13b0 : (t145 == 62) = false := beq_eq_false_iff_ne.mpr c13
            have c13b1 : (t145 != 62) = true := bne_iff_ne.mpr c13
            have H' := Aside0.mk H
            clear H
            go_wp2
            go_meet
            case rel => exact ⟨_, (wrap64 (t150 + 1)), H', ⟨by first | omega | exact Nat.le_refl _⟩, ⟨by repeat (first | (with_reducible first | exact HI0.out | apply IsS43.alloc | apply IsS43.drewN | apply IsS43.drew | apply IsS43.set_0 | apply IsS43.set_1) | exact HI0.out)⟩, ⟨by repeat (first | (with_reducible first | exact HK.out | apply KeepBut.set_ | apply keep_drewN | apply keep_drew | apply keep_alloc) | exact HK.out)⟩, ⟨by repeat (first | (with_reducible first | exact HB.out | apply below_alloc | apply pw_below_drewN | apply below_drew1 | refine below_set ?_ (IsS43.ge HI0.out)) | exact HB.out)⟩⟩
    · rw [if_neg c8] at H
      have c8b0 : (t145 == 58) = false := beq_eq_false_iff_ne.mpr c8
      have c8b1 : (t145 != 58) = true := bne_iff_ne.mpr c8
      (first | rw [c8b0] | (simp only [i64_w, i32_w]; rw [c8b0]) | skip)
      by_cases c14 : t145 = 60
      · rw [if_pos c14] at H
        have c14b0 : (t145 == 60) = true := beq_iff_eq.mpr c14
        have c14b1 : (t145 != 60) = false := bne_eq_false_iff_eq.mpr c14
        clear c14
        by_cases c15 : t148 = 61
        · rw [if_pos c15] at H
          have c15b0 : (t148 == 61) = true := beq_iff_eq.mpr c15
          have c15b1 : (t148 != 61) = false := bne_eq_false_iff_eq.mpr c15
          clear c15
          simp only [Option.some.injEq, Prod.mk.injEq] at H
          obtain ⟨rfl, rfl, rfl, rfl, rfl⟩ := H
          obtain ⟨HGz16, hgz16⟩ := HI0.out
          have hcz16_0 := cellS43_0 HGz16
          have hcz16_1 := cellS43_1 HGz16
          have hfz16_0 := blk_frozen HGz16 0
          have hfz16_1 := blk_frozen HGz16 1
          clear HGz16 hgz16
          go_wp2
          go_ret3
          exact ⟨by first | rfl | (simp [errW_none, errW_some] <;> rfl) | (simp [*, errW_none, errW_some] <;> rfl), by repeat (first | (with_reducible first | exact HI0.out | apply IsS43.alloc | apply IsS43.drewN | apply IsS43.drew | apply IsS43.set_0 | apply IsS43.set_1) | exact HI0.out), by repeat (first | (with_reducible first | exact HB.out | apply below_alloc | apply pw_below_drewN | apply below_drew1 | refine below_set ?_ (IsS43.ge HI0.out)) | exact HB.out), by repeat (first | (with_reducible first | exact HK.out | apply KeepBut.set_ | apply keep_drewN | apply keep_drew | apply keep_alloc) | exact HK.out)⟩
        · rw [if_neg c15] at H
          have c15b0 : (t148 == 61) = false := beq_eq_false_iff_ne.mpr c15
          have c15b1 : (t148 != 61) = true := bne_iff_ne.mpr c15
          by_cases c17 : t145 = 62
          · rw [if_pos c17] at H
            have c17b0 : (t145 == 62) = true := beq_iff_eq.mpr c17
            have c17b1 : (t145 != 62) = false := bne_eq_false_iff_eq.mpr c17
            clear c17
            have H' := Aside0.mk H
            clear H
            go_wp2
            go_meet
            case rel => exact ⟨_, (wrap64 (t150 + 1)), H', ⟨by first | omega | exact Nat.le_refl _⟩, ⟨by repeat (first | (with_reducible first | exact HI0.out | apply IsS43.alloc | apply IsS43.drewN | apply IsS43.drew | apply IsS43.set_0 | apply IsS43.set_1) | exact HI0.out)⟩, ⟨by repeat (first | (with_reducible first | exact HK.out | apply KeepBut.set_ | apply keep_drewN | apply keep_drew | apply keep_alloc) | exact HK.out)⟩, ⟨by repeat (first | (with_reducible first | exact HB.out | apply below_alloc | apply pw_below_drewN | apply below_drew1 | refine below_set ?_ (IsS43.ge HI0.out)) | exact HB.out)⟩⟩
          · rw [if_neg c17] at H
            have c17b0 : (t145 == 62) = false := beq_eq_false_iff_ne.mpr c17
            have c17b1 : (t145 != 62) = true := bne_iff_ne.mpr c17
            have H' := Aside0.mk H
            clear H
            go_wp2
            go_meet
            case rel => exact ⟨_, (wrap64 (t150 + 1)), H', ⟨by first | omega | exact Nat.le_refl _⟩, ⟨by repeat (first | (with_reducible first | exact HI0.out | apply IsS43.alloc | apply IsS43.drewN | apply IsS43.drew | apply IsS43.set_0 | apply IsS43.set_1) | exact HI0.out)⟩, ⟨by repeat (first | (with_reducible first | exact HK.out | apply KeepBut.set_ | apply keep_drewN | apply keep_drew | apply keep_alloc) | exact HK.out)⟩, ⟨by repeat (first | (with_reducible first | exact HB.out | apply below_alloc | apply pw_below_drewN | apply below_drew1 | refine below_set ?_ (IsS43.ge HI0.out)) | exact HB.out)⟩⟩
      · rw [if_neg c14] at H
        have c14b0 : (t145 == 60) = false := beq_eq_false_iff_ne.mpr c14
        have c14b1 : (t145 != 60) = true := bne_iff_ne.mpr c14
        by_cases c18 : t145 = 62
        · rw [if_pos c18] at H
          have c18b0 : (t145 == 62) = true := beq_iff_eq.mpr c18
          have c18b1 : (t145 != 62) = false := bne_eq_false_iff_eq.mpr c18
          clear c18
          by_cases c19 : t148 = 61
          · rw [if_pos c19] at H
            have c19b0 : (t148 == 61) = true := beq_iff_eq.mpr c19
            have c19b1 : (t148 != 61) = false := bne_eq_false_iff_eq.mpr c19
            clear c19
            simp only [Option.some.injEq, Prod.mk.injEq] at H
            obtain ⟨rfl, rfl, rfl, rfl, rfl⟩ := H
            obtain ⟨HGz20, hgz20⟩ := HI0.out
            have hcz20_0 := cellS43_0 HGz20
            have hcz20_1 := cellS43_1 HGz20
            have hfz20_0 := blk_frozen HGz20 0
            have hfz20_1 := blk_frozen HGz20 1
            clear HGz20 hgz20
            go_wp2
            go_ret3
            exact ⟨by first | rfl | (simp [errW_none, errW_some] <;> rfl) | (simp [*, errW_none, errW_some] <;> rfl), by repeat (first | (with_reducible first | exact HI0.out | apply IsS43.alloc | apply IsS43.drewN | apply IsS43.drew | apply IsS43.set_0 | apply IsS43.set_1) | exact HI0.out), by repeat (first | (with_reducible first | exact HB.out | apply below_alloc | apply pw_below_drewN | apply below_drew1 | refine below_set ?_ (IsS43.ge HI0.out)) | exact HB.out), by repeat (first | (with_reducible first | exact HK.out | apply KeepBut.set_ | apply keep_drewN | apply keep_drew | apply keep_alloc) | exact HK.out)⟩
          · rw [if_neg c19] at H
            have c19b0 : (t148 == 61) = false := beq_eq_false_iff_ne.mpr c19
            have c19b1 : (t148 != 61) = true := bne_iff_ne.mpr c19
            have H' := Aside0.mk H
            clear H
            go_wp2
            go_meet
            case rel => exact ⟨_, (wrap64 (t150 + 1)), H', ⟨by first | omega | exact Nat.le_refl _⟩, ⟨by repeat (first | (with_reducible first | exact HI0.out | apply IsS43.alloc | apply IsS43.drewN | apply IsS43.drew | apply IsS43.set_0 | apply IsS43.set_1) | exact HI0.out)⟩, ⟨by repeat (first | (with_reducible first | exact HK.out | apply KeepBut.set_ | apply keep_drewN | apply keep_drew | apply keep_alloc) | exact HK.out)⟩, ⟨by repeat (first | (with_reducible first | exact HB.out | apply below_alloc | apply pw_below_drewN | apply below_drew1 | refine below_set ?_ (IsS43.ge HI0.out)) | exact HB.out)⟩⟩
        · rw [if_neg c18] at H
          have c18b0 : (t145 == 62) = false := beq_eq_false_iff_ne.mpr c18
          have c18b1 : (t145 != 62) = true := bne_iff_ne.mpr c18
          have H' := Aside0.mk H
          clear H
          go_wp2
          go_meet
          case rel => exact ⟨_, (wrap64 (t150 + 1)), H', ⟨by first | omega | exact Nat.le_refl _⟩, ⟨by repeat (first | (with_reducible first | exact HI0.out | apply IsS43.alloc | apply IsS43.drewN | apply IsS43.drew | apply IsS43.set_0 | apply IsS43.set_1) | exact HI0.out)⟩, ⟨by repeat (first | (with_reducible first | exact HK.out | apply KeepBut.set_ | apply keep_drewN | apply keep_drew | apply keep_alloc) | exact HK.out)⟩, ⟨by repeat (first | (with_reducible first | exact HB.out | apply below_alloc | apply pw_below_drewN | apply below_drew1 | refine below_set ?_ (IsS43.ge HI0.out)) | exact HB.out)⟩⟩
  case rest =>
    clear HC4
    try clear c1
    try clear c2
    try clear p2
    try clear c3
    try clear p6
    try clear c8
    try clear c8b0
    try clear c8b1
    try clear c9
    try clear c9b0
    try clear c9b1
    try clear c11
    try clear c11b0
    try clear c11b1
    try clear c12
    try clear c12b0
    try clear c12b1
    try clear c13
    try clear c13b0
    try clear c13b1
    try clear c14
    try clear c14b0
    try clear c14b1
    try clear c15
    try clear c15b0
    try clear c15b1
    try clear c17
    try clear c17b0
    try clear c17b1
    try clear c18
    try clear c18b0
    try clear c18b1
    try clear c19
    try clear c19b0
    try clear c19b1
    try clear hcz10_0
    try clear hcz10_1
    try clear hcz16_0
    try clear hcz16_1
    try clear hcz20_0
    try clear hcz20_1
    try clear hcz7_0
    try clear hcz7_1
    try clear hfz10_0
    try clear hfz10_1
    try clear hfz16_0
    try clear hfz16_1
    try clear hfz20_0
    try clear hfz20_1
    try clear hfz7_0
    try clear hfz7_1
    obtain ⟨kq, x1001_3, HA, HJ3, HI0, HK, HB⟩ := hcut
    cases kq with
    | zero => exact absurd HA.out (by simp [scan_Scanner_mark.j0])
    | succ kj3 =>
      have H := HA.out
      clear HA
      simp only [scan_Scanner_mark.j0] at H
      have H' := Aside0.mk H
      clear H
      go_wp2
      go_loopg [49] kj3 (fun kq v49 w' => ∃ (x49_2 : Int), v49 = .int .i64 x49_2 ∧ Aside0 (scan_Scanner_mark.l0 kq t145 x49_2 t149 x1001_3 = some (r1, r2, r3, r4, r5)) ∧ Aside0 (kq ≤ kj3) ∧ Aside0 (IsS43 w0 w' g t149 x1001_3) ∧ Aside0 (KeepBut w w' g none) ∧ Aside0 (Below w0.heap.size w0 w'))
      case atStart => exact ⟨(0), (by first | rfl | (simp; done) | (simp [*]; done)), H', ⟨Nat.le_refl _⟩, ⟨by repeat (first | (with_reducible first | exact HI0.out | apply IsS43.alloc | apply IsS43.drewN | apply IsS43.drew | apply IsS43.set_0 | apply IsS43.set_1) | exact HI0.out)⟩, ⟨by repeat (first | (with_reducible first | exact HK.out | apply KeepBut.set_ | apply keep_drewN | apply keep_drew | apply keep_alloc) | exact HK.out)⟩, ⟨by repeat (first | (with_reducible first | exact HB.out | apply below_alloc | apply pw_below_drewN | apply below_drew1 | refine below_set ?_ (IsS43.ge HI0.out)) | exact HB.out)⟩⟩
      case round =>
        clear H'
        try clear c1
        try clear c2
        try clear p2
        try clear c3
        try clear p6
        try clear c8
        try clear c8b0
        try clear c8b1
        try clear c9
        try clear c9b0
        try clear c9b1
        try clear c11
        try clear c11b0
        try clear c11b1
        try clear c12
        try clear c12b0
        try clear c12b1
        try clear c13
        try clear c13b0
        try clear c13b1
        try clear c14
        try clear c14b0
        try clear c14b1
        try clear c15
        try clear c15b0
        try clear c15b1
        try clear c17
        try clear c17b0
        try clear c17b1
        try clear c18
        try clear c18b0
        try clear c18b1
        try clear c19
        try clear c19b0
        try clear c19b1
        try clear hcz10_0
        try clear hcz10_1
        try clear hcz16_0
        try clear hcz16_1
        try clear hcz20_0
        try clear hcz20_1
        try clear hcz7_0
        try clear hcz7_1
        try clear hfz10_0
        try clear hfz10_1
        try clear hfz16_0
        try clear hfz16_1
        try clear hfz20_0
        try clear hfz20_1
        try clear hfz7_0
        try clear hfz7_1
        try clear p2
        try clear p6
        obtain ⟨x49_2, rfl, HA, HK2, HI0, HK, HB⟩ := hrel
        cases gk with
        | zero => exact absurd HA.out (by simp [scan_Scanner_mark.l0])
        | succ k2 =>
          have H := HA.out
          clear HA
          simp only [scan_Scanner_mark.l0] at H
          by_cases c21 : x49_2 < 17
          · rw [if_pos c21] at H
            have c21b0 : decide (x49_2 < 17) = true := decide_eq_true c21
            clear c21
            by_cases c22 : 0 ≤ x49_2
            · rw [if_pos c22] at H
              have c22b0 : decide (0 ≤ x49_2) = true := decide_eq_true c22
              clear c22
              by_cases c24 : (bt (⟨#[43, 45, 42, 61, 35, 60, 62, 40, 41, 91, 93, 46, 44, 59, 58, 94, 124]⟩ : ByteArray) x49_2) = t145
              · rw [if_pos c24] at H
                have c24b0 : ((bt (⟨#[43, 45, 42, 61, 35, 60, 62, 40, 41, 91, 93, 46, 44, 59, 58, 94, 124]⟩ : ByteArray) x49_2) == t145) = true := beq_iff_eq.mpr c24
                have c24b1 : ((bt (⟨#[43, 45, 42, 61, 35, 60, 62, 40, 41, 91, 93, 46, 44, 59, 58, 94, 124]⟩ : ByteArray) x49_2) != t145) = false := bne_eq_false_iff_eq.mpr c24
                clear c24
                simp only [Option.some.injEq, Prod.mk.injEq] at H
                obtain ⟨rfl, rfl, rfl, rfl, rfl⟩ := H
                have p23 : 0 ≤ (x49_2 : Int) := of_decide_eq_true (by first | (with_reducible assumption) | assumption)
                have q23 : x49_2 < (17 : Int) := of_decide_eq_true (by first | (with_reducible assumption) | assumption)
                have hx23 := bt_at (⟨#[43, 45, 42, 61, 35, 60, 62, 40, 41, 91, 93, 46, 44, 59, 58, 94, 124]⟩ : ByteArray) x49_2
                replace p23 := eq_true p23
                replace q23 := eq_true q23
                go_wp2
                go_ret3
                exact ⟨by first | rfl | (simp [errW_none, errW_some] <;> rfl) | (simp [*, errW_none, errW_some] <;> rfl), by repeat (first | (with_reducible first | exact HI0.out | apply IsS43.alloc | apply IsS43.drewN | apply IsS43.drew | apply IsS43.set_0 | apply IsS43.set_1) | exact HI0.out), by repeat (first | (with_reducible first | exact HB.out | apply below_alloc | apply pw_below_drewN | apply below_drew1 | refine below_set ?_ (IsS43.ge HI0.out)) | exact HB.out), by repeat (first | (with_reducible first | exact HK.out | apply KeepBut.set_ | apply keep_drewN | apply keep_drew | apply keep_alloc) | exact HK.out)⟩
              · rw [if_neg c24] at H
                have c24b0 : ((bt (⟨#[43, 45, 42, 61, 35, 60, 62, 40, 41, 91, 93, 46, 44, 59, 58, 94, 124]⟩ : ByteArray) x49_2) == t145) = false := beq_eq_false_iff_ne.mpr c24
                have c24b1 : ((bt (⟨#[43, 45, 42, 61, 35, 60, 62, 40, 41, 91, 93, 46, 44, 59, 58, 94, 124]⟩ : ByteArray) x49_2) != t145) = true := bne_iff_ne.mpr c24
                have H' := Aside0.mk H
                clear H
                have p23 : 0 ≤ (x49_2 : Int) := of_decide_eq_true (by first | (with_reducible assumption) | assumption)
                have q23 : x49_2 < (17 : Int) := of_decide_eq_true (by first | (with_reducible assumption) | assumption)
                have hx23 := bt_at (⟨#[43, 45, 42, 61, 35, 60, 62, 40, 41, 91, 93, 46, 44, 59, 58, 94, 124]⟩ : ByteArray) x49_2
                replace p23 := eq_true p23
                replace q23 := eq_true q23
                go_wp2
                go_roundg k2
                case measure => have := HJ3.out; have := HK2.out; omega
                case rel => exact ⟨(wrap64 (x49_2 + 1)), (by first | rfl | (simp; done) | (simp [*]; done)), H', ⟨by have := HJ3.out; have := HK2.out; omega⟩, ⟨by repeat (first | (with_reducible first | exact HI0.out | apply IsS43.alloc | apply IsS43.drewN | apply IsS43.drew | apply IsS43.set_0 | apply IsS43.set_1) | exact HI0.out)⟩, ⟨by repeat (first | (with_reducible first | exact HK.out | apply KeepBut.set_ | apply keep_drewN | apply keep_drew | apply keep_alloc) | exact HK.out)⟩, ⟨by repeat (first | (with_reducible first | exact HB.out | apply below_alloc | apply pw_below_drewN | apply below_drew1 | refine below_set ?_ (IsS43.ge HI0.out)) | exact HB.out)⟩⟩
            · rw [if_neg c22] at H
              exact absurd H (by simp)
          · rw [if_neg c21] at H
            have c21b0 : decide (x49_2 < 17) = false := decide_eq_false c21
            clear c21
            simp only [Option.some.injEq, Prod.mk.injEq] at H
            obtain ⟨rfl, rfl, rfl, rfl, rfl⟩ := H
            go_wp2
            go_ret3
            exact ⟨by first | rfl | (simp [errW_none, errW_some] <;> rfl) | (simp [*, errW_none, errW_some] <;> rfl), by repeat (first | (with_reducible first | exact HI0.out | apply IsS43.alloc | apply IsS43.drewN | apply IsS43.drew | apply IsS43.set_0 | apply IsS43.set_1) | exact HI0.out), by repeat (first | (with_reducible first | exact HB.out | apply below_alloc | apply pw_below_drewN | apply below_drew1 | refine below_set ?_ (IsS43.ge HI0.out)) | exact HB.out), by repeat (first | (with_reducible first | exact HK.out | apply KeepBut.set_ | apply keep_drewN | apply keep_drew | apply keep_alloc) | exact HK.out)⟩

end Go.Proofs.Ytmalonlbnjiclaa.PAll
