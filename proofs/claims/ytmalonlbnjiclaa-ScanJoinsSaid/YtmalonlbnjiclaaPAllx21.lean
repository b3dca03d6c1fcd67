-- Began as a text printed by a turned copy of print.py; two places are written anew (fix21.py). Not trusted: Lean checks it.
import Derived.Test.YtmalonlbnjiclaaPAllx0
import Derived.Test.YtmalonlbnjiclaaPAllx1
import Derived.Test.YtmalonlbnjiclaaPAllx9
import Derived.Test.YtmalonlbnjiclaaPAllx10
namespace Go.Proofs.Ytmalonlbnjiclaa.PAll
open Go.RowKit Go.Proofs.YtmalonlbnjiclaaW.PrintWords Go.Proofs.YtmalonlbnjiclaaW.PrintLast Go.Proofs.YtmalonlbnjiclaaW.PrintMore
attribute [local go_sem] max2_int min2_int max_two min_two max_three min_three max_four min_four   -- for this text's walks alone
set_option linter.unusedVariables false
set_option linter.unusedSimpArgs false

attribute [local go_sem high] eqA32
/-! ### pascalinelaw08_ScanJoins: function 7 -/
mutual
def pascalinelaw08_ScanJoins.j0 : Nat → ByteArray → ByteArray → Bool → Option (Bool)
  | 0, _, _, _ => none
  | k + 1, x0, x1, x25 => if x25 = true then (some true) else ((scan_All.f k x0).bind fun bt397 => ((scan_All.f k x1).bind fun bt402 => (if x0.size + 1 ≤ 9223372036854775807 then (if (x0 ++ (⟨#[32]⟩ : ByteArray)).size + x1.size ≤ 9223372036854775807 then ((scan_All.f k ((x0 ++ (⟨#[32]⟩ : ByteArray)) ++ x1)).bind fun bt407 => (if bt397.2.2 = 0 then (pascalinelaw08_ScanJoins.j1 k x0 bt397.1 bt402.1 bt407.1 bt407.2.2 (bt402.2.2 != 0)) else (pascalinelaw08_ScanJoins.j1 k x0 bt397.1 bt402.1 bt407.1 bt407.2.2 true))) else (none)) else (none))))
def pascalinelaw08_ScanJoins.j1 : Nat → ByteArray → List (S32) → List (S32) → List (S32) → Int → Bool → Option (Bool)
  | 0, _, _, _, _, _, _ => none
  | k + 1, x0, x5, x8, x11, x13, x52 => if x52 = true then (some true) else (if x13 = 0 then (if (x5.length : Int) < 1 then (pascalinelaw08_ScanJoins.j2 k x0 x5 x8 x11 true) else (pascalinelaw08_ScanJoins.j2 k x0 x5 x8 x11 ((x11.length : Int) != (wrap64 ((wrap64 ((x5.length : Int) - 1)) + (x8.length : Int)))))) else (pascalinelaw08_ScanJoins.j2 k x0 x5 x8 x11 true))
def pascalinelaw08_ScanJoins.j2 : Nat → ByteArray → List (S32) → List (S32) → List (S32) → Bool → Option (Bool)
  | 0, _, _, _, _, _ => none
  | k + 1, x0, x5, x8, x11, x70 => if x70 = true then (some false) else (pascalinelaw08_ScanJoins.l0 k x0 x5 x8 x11 0)
def pascalinelaw08_ScanJoins.l0 : Nat → ByteArray → List (S32) → List (S32) → List (S32) → Int → Option (Bool)
  | 0, _, _, _, _, _ => none
  | k + 1, x0, x5, x8, x11, x14 => if x14 < (x11.length : Int) then (if x14 < (wrap64 ((x5.length : Int) - 1)) then (if 0 ≤ x14 then (if x14 < (x5.length : Int) then (if (!(((rd_T32 x11 x14).f0) == ((rd_T32 x5 x14).f0)) || (!(((rd_T32 x11 x14).f1) == ((rd_T32 x5 x14).f1)) || (!(((rd_T32 x11 x14).f2) == ((rd_T32 x5 x14).f2)) || (!((((rd_T32 x11 x14).f3).toList) == (((rd_T32 x5 x14).f3).toList)) || (!(((rd_T32 x11 x14).f4) == ((rd_T32 x5 x14).f4))))))) = true then (some false) else (pascalinelaw08_ScanJoins.l0 k x0 x5 x8 x11 (wrap64 (x14 + 1)))) else (none)) else (none)) else (if 0 ≤ (wrap64 ((wrap64 (x14 - (x5.length : Int))) + 1)) then (if (wrap64 ((wrap64 (x14 - (x5.length : Int))) + 1)) < (x8.length : Int) then (if 0 ≤ x14 then (if (!(((rd_T32 x11 x14).f0) == ((rd_T32 x8 (wrap64 ((wrap64 (x14 - (x5.length : Int))) + 1))).f0)) || (!(((rd_T32 x11 x14).f1) == (wrap64 ((wrap64 (((rd_T32 x8 (wrap64 ((wrap64 (x14 - (x5.length : Int))) + 1))).f1) + (x0.size : Int))) + 1))) || (!(((rd_T32 x11 x14).f2) == (wrap64 ((wrap64 (((rd_T32 x8 (wrap64 ((wrap64 (x14 - (x5.length : Int))) + 1))).f2) + (x0.size : Int))) + 1))) || (!((((rd_T32 x11 x14).f3).toList) == (((rd_T32 x8 (wrap64 ((wrap64 (x14 - (x5.length : Int))) + 1))).f3).toList)) || (!(((rd_T32 x11 x14).f4) == ((rd_T32 x8 (wrap64 ((wrap64 (x14 - (x5.length : Int))) + 1))).f4))))))) = true then (some false) else (pascalinelaw08_ScanJoins.l0 k x0 x5 x8 x11 (wrap64 (x14 + 1)))) else (none)) else (none)) else (none))) else (some true)
end
def pascalinelaw08_ScanJoins.f (k : Nat) (a0 : ByteArray) (a1 : ByteArray) : Option (Bool) := (pascalinelaw08_awake.f k).bind fun t396 => (if t396 = true then (if (a0.size : Int) > 2000 then (pascalinelaw08_ScanJoins.j0 k a0 a1 true) else (pascalinelaw08_ScanJoins.j0 k a0 a1 (decide ((a1.size : Int) > 2000)))) else (some false))
theorem pascalinelaw08_ScanJoins.mono_l : ∀ k, (∀ y0 y1 y2, LeO (pascalinelaw08_ScanJoins.j0 k y0 y1 y2) (pascalinelaw08_ScanJoins.j0 (k + 1) y0 y1 y2)) ∧ (∀ y0 y1 y2 y3 y4 y5, LeO (pascalinelaw08_ScanJoins.j1 k y0 y1 y2 y3 y4 y5) (pascalinelaw08_ScanJoins.j1 (k + 1) y0 y1 y2 y3 y4 y5)) ∧ (∀ y0 y1 y2 y3 y4, LeO (pascalinelaw08_ScanJoins.j2 k y0 y1 y2 y3 y4) (pascalinelaw08_ScanJoins.j2 (k + 1) y0 y1 y2 y3 y4)) ∧ (∀ y0 y1 y2 y3 y4, LeO (pascalinelaw08_ScanJoins.l0 k y0 y1 y2 y3 y4) (pascalinelaw08_ScanJoins.l0 (k + 1) y0 y1 y2 y3 y4))
  | 0 => ⟨fun _ _ _ r h => by simp [pascalinelaw08_ScanJoins.j0] at h, fun _ _ _ _ _ _ r h => by simp [pascalinelaw08_ScanJoins.j1] at h, fun _ _ _ _ _ r h => by simp [pascalinelaw08_ScanJoins.j2] at h, fun _ _ _ _ _ r h => by simp [pascalinelaw08_ScanJoins.l0] at h⟩
  | k + 1 => by
    obtain ⟨ih0, ih1, ih2, ih3⟩ := pascalinelaw08_ScanJoins.mono_l k
    refine ⟨?_, ?_, ?_, ?_⟩
    · intro y0 y1 y2
      unfold pascalinelaw08_ScanJoins.j0
      repeat' first
      | (with_reducible exact ih0 _ _ _)
      | (with_reducible exact ih1 _ _ _ _ _ _)
      | (with_reducible exact ih2 _ _ _ _ _)
      | (with_reducible exact ih3 _ _ _ _ _)
      | (with_reducible exact pascalinelaw08_awake.mono _)
      | (with_reducible exact scan_All.mono _ _)
      | (with_reducible exact LeO.refl _)
      | (with_reducible exact LeO.none _)
      | (with_reducible refine LeO.ite ?_ ?_)
      | (with_reducible refine LeO.bind ?_ (fun _ => ?_))
      | exact ih0 _ _ _
      | exact ih1 _ _ _ _ _ _
      | exact ih2 _ _ _ _ _
      | exact ih3 _ _ _ _ _
      | exact pascalinelaw08_awake.mono _
      | exact scan_All.mono _ _
      | exact LeO.none _
      | refine LeO.ite ?_ ?_
      | refine LeO.bind ?_ (fun _ => ?_)
    · intro y0 y1 y2 y3 y4 y5
      unfold pascalinelaw08_ScanJoins.j1
      repeat' first
      | (with_reducible exact ih0 _ _ _)
      | (with_reducible exact ih1 _ _ _ _ _ _)
      | (with_reducible exact ih2 _ _ _ _ _)
      | (with_reducible exact ih3 _ _ _ _ _)
      | (with_reducible exact pascalinelaw08_awake.mono _)
      | (with_reducible exact scan_All.mono _ _)
      | (with_reducible exact LeO.refl _)
      | (with_reducible exact LeO.none _)
      | (with_reducible refine LeO.ite ?_ ?_)
      | (with_reducible refine LeO.bind ?_ (fun _ => ?_))
      | exact ih0 _ _ _
      | exact ih1 _ _ _ _ _ _
      | exact ih2 _ _ _ _ _
      | exact ih3 _ _ _ _ _
      | exact pascalinelaw08_awake.mono _
      | exact scan_All.mono _ _
      | exact LeO.none _
      | refine LeO.ite ?_ ?_
      | refine LeO.bind ?_ (fun _ => ?_)
    · intro y0 y1 y2 y3 y4
      unfold pascalinelaw08_ScanJoins.j2
      repeat' first
      | (with_reducible exact ih0 _ _ _)
      | (with_reducible exact ih1 _ _ _ _ _ _)
      | (with_reducible exact ih2 _ _ _ _ _)
      | (with_reducible exact ih3 _ _ _ _ _)
      | (with_reducible exact pascalinelaw08_awake.mono _)
      | (with_reducible exact scan_All.mono _ _)
      | (with_reducible exact LeO.refl _)
      | (with_reducible exact LeO.none _)
      | (with_reducible refine LeO.ite ?_ ?_)
      | (with_reducible refine LeO.bind ?_ (fun _ => ?_))
      | exact ih0 _ _ _
      | exact ih1 _ _ _ _ _ _
      | exact ih2 _ _ _ _ _
      | exact ih3 _ _ _ _ _
      | exact pascalinelaw08_awake.mono _
      | exact scan_All.mono _ _
      | exact LeO.none _
      | refine LeO.ite ?_ ?_
      | refine LeO.bind ?_ (fun _ => ?_)
    · intro y0 y1 y2 y3 y4
      unfold pascalinelaw08_ScanJoins.l0
      repeat' first
      | (with_reducible exact ih0 _ _ _)
      | (with_reducible exact ih1 _ _ _ _ _ _)
      | (with_reducible exact ih2 _ _ _ _ _)
      | (with_reducible exact ih3 _ _ _ _ _)
      | (with_reducible exact pascalinelaw08_awake.mono _)
      | (with_reducible exact scan_All.mono _ _)
      | (with_reducible exact LeO.refl _)
      | (with_reducible exact LeO.none _)
      | (with_reducible refine LeO.ite ?_ ?_)
      | (with_reducible refine LeO.bind ?_ (fun _ => ?_))
      | exact ih0 _ _ _
      | exact ih1 _ _ _ _ _ _
      | exact ih2 _ _ _ _ _
      | exact ih3 _ _ _ _ _
      | exact pascalinelaw08_awake.mono _
      | exact scan_All.mono _ _
      | exact LeO.none _
      | refine LeO.ite ?_ ?_
      | refine LeO.bind ?_ (fun _ => ?_)
theorem pascalinelaw08_ScanJoins.mono : ∀ a0 a1 k, LeO (pascalinelaw08_ScanJoins.f k a0 a1) (pascalinelaw08_ScanJoins.f (k + 1) a0 a1) := by
  intro a0 a1 k
  obtain ⟨ih0, ih1, ih2, ih3⟩ := pascalinelaw08_ScanJoins.mono_l k
  unfold pascalinelaw08_ScanJoins.f
  repeat' first
      | (with_reducible exact ih0 _ _ _)
      | (with_reducible exact ih1 _ _ _ _ _ _)
      | (with_reducible exact ih2 _ _ _ _ _)
      | (with_reducible exact ih3 _ _ _ _ _)
      | (with_reducible exact pascalinelaw08_awake.mono _)
      | (with_reducible exact scan_All.mono _ _)
      | (with_reducible exact LeO.refl _)
      | (with_reducible exact LeO.none _)
      | (with_reducible refine LeO.ite ?_ ?_)
      | (with_reducible refine LeO.bind ?_ (fun _ => ?_))
      | exact ih0 _ _ _
      | exact ih1 _ _ _ _ _ _
      | exact ih2 _ _ _ _ _
      | exact ih3 _ _ _ _ _
      | exact pascalinelaw08_awake.mono _
      | exact scan_All.mono _ _
      | exact LeO.none _
      | refine LeO.ite ?_ ?_
      | refine LeO.bind ?_ (fun _ => ?_)
set_option maxHeartbeats 8000000 in
set_option maxRecDepth 100000 in
theorem pascalinelaw08_ScanJoins.calls (k : Nat) (a0 : ByteArray) (a1 : ByteArray) (r : Bool) (w : World) (h : pascalinelaw08_ScanJoins.f k a0 a1 = some r) :
    Calls Try.prog 7 #[.string a0, .string a1] w fun e w' => e = .returned (.bool r) ∧ Below w.heap.size w w' := by
  have hu32 := Try.underlying32
  have HB := Aside0.mk (Below.refl w.heap.size w)
  have H : ((pascalinelaw08_awake.f k).bind fun t396 => (if t396 = true then (if (a0.size : Int) > 2000 then (pascalinelaw08_ScanJoins.j0 k a0 a1 true) else (pascalinelaw08_ScanJoins.j0 k a0 a1 (decide ((a1.size : Int) > 2000)))) else (some false))) = some r := h
  clear h
  replace H := Option.bind_eq_some_iff.mp H
  obtain ⟨t396, A30, H⟩ := H
  replace H : (if t396 = true then (if (a0.size : Int) > 2000 then (pascalinelaw08_ScanJoins.j0 k a0 a1 true) else (pascalinelaw08_ScanJoins.j0 k a0 a1 (decide ((a1.size : Int) > 2000)))) else (some false)) = some r := H
  have A3 := Aside0.mk A30
  clear A30
  by_cases c4 : t396 = true
  · subst c4
    have H1 : (if (a0.size : Int) > 2000 then (pascalinelaw08_ScanJoins.j0 k a0 a1 true) else (pascalinelaw08_ScanJoins.j0 k a0 a1 (decide ((a1.size : Int) > 2000)))) = some r := by rw [if_pos rfl] at H; exact H
    clear H
    have H := H1
    clear H1
    have HC5 := Aside0.mk H
    clear H
    go_enter Try.func7, Try.ntmps7
    go_upto_region 3 with (first | (go_at_call 8; (with_reducible refine (pascalinelaw08_awake.calls k  true _ A3.out).mono ?_); rintro e w6 ⟨rfl, hb⟩; have n0_ := Aside0.mk (below_step (by repeat (first | (with_reducible first | exact HB.out | apply below_alloc | apply pw_below_drewN | apply below_drew1) | exact HB.out)) hb); clear HB; have HB := n0_; clear n0_; (try clear hb); (try clear hb2); (try clear hk); (try clear hi)))
    repeat (go_quiet (first | (go_at_call 8; (with_reducible refine (pascalinelaw08_awake.calls k  true _ A3.out).mono ?_); rintro e w6 ⟨rfl, hb⟩; have n0_ := Aside0.mk (below_step (by repeat (first | (with_reducible first | exact HB.out | apply below_alloc | apply pw_below_drewN | apply below_drew1) | exact HB.out)) hb); clear HB; have HB := n0_; clear n0_; (try clear hb); (try clear hb2); (try clear hk); (try clear hi))); go_upto_region 3 with (first | (go_at_call 8; (with_reducible refine (pascalinelaw08_awake.calls k  true _ A3.out).mono ?_); rintro e w6 ⟨rfl, hb⟩; have n0_ := Aside0.mk (below_step (by repeat (first | (with_reducible first | exact HB.out | apply below_alloc | apply pw_below_drewN | apply below_drew1) | exact HB.out)) hb); clear HB; have HB := n0_; clear n0_; (try clear hb); (try clear hb2); (try clear hk); (try clear hi))))
    (try simp only [Act.put, List.setIfInBounds_toArray, List.set_cons_zero, List.set_cons_succ])
    go_cut [25] (fun v25 wc => ∃ (kq : Nat) (x25_4 : Bool), v25 = .bool x25_4 ∧ Aside0 (pascalinelaw08_ScanJoins.j0 kq a0 a1 x25_4 = some r) ∧ Aside0 (kq ≤ k) ∧ Aside0 (Below w.heap.size w wc))
    case first =>
      have H := HC5.out
      clear HC5
      by_cases c7 : (a0.size : Int) > 2000
      · rw [if_pos c7] at H
        have c7b0 : decide (2000 < (a0.size : Int)) = true := decide_eq_true c7
        have c7b1 : decide (2000 < a0.size) = true := decide_eq_true (by omega)
        clear c7
        (first | rw [c7b0] | (simp only [i64_w, i32_w]; rw [c7b0]) | skip)
        have H' := Aside0.mk H
        clear H
        go_wp2
        repeat (go_quiet (fail); try go_wp2)
        go_meet
        case rel => exact ⟨_, (true), (by first | rfl | (simp; done) | (simp [*]; done)), H', ⟨by first | omega | exact Nat.le_refl _⟩, ⟨by repeat (first | (with_reducible first | exact HB.out | apply below_alloc | apply pw_below_drewN | apply below_drew1) | exact HB.out)⟩⟩
      · rw [if_neg c7] at H
        have c7b0 : decide (2000 < (a0.size : Int)) = false := decide_eq_false c7
        have c7b1 : decide (2000 < a0.size) = false := decide_eq_false (by omega)
        clear c7
        (first | rw [c7b0] | (simp only [i64_w, i32_w]; rw [c7b0]) | skip)
        have H' := Aside0.mk H
        clear H
        go_wp2
        repeat (go_quiet (fail); try go_wp2)
        go_meet
        case rel => exact ⟨_, (decide ((a1.size : Int) > 2000)), (by first | rfl | (simp; done) | (simp [*]; done)), H', ⟨by first | omega | exact Nat.le_refl _⟩, ⟨by repeat (first | (with_reducible first | exact HB.out | apply below_alloc | apply pw_below_drewN | apply below_drew1) | exact HB.out)⟩⟩
    case rest =>
      clear HC5
      try clear p2
      try clear c4
      try clear c7
      try clear c7b0
      try clear c7b1
      obtain ⟨kq, x25_4, rfl, HA, HJ4, HB⟩ := hcut
      cases kq with
      | zero => exact absurd HA.out (by simp [pascalinelaw08_ScanJoins.j0])
      | succ kj4 =>
        have H := HA.out
        clear HA
        simp only [pascalinelaw08_ScanJoins.j0] at H
        by_cases c8 : x25_4 = true
        · subst c8
          have H1 : (some true) = some r := by rw [if_pos rfl] at H; exact H
          clear H
          have H := H1
          clear H1
          obtain rfl := Option.some.inj H
          go_wp2
          repeat (go_quiet (fail); try go_wp2)
          go_ret
          exact ⟨by first | rfl | (simp [errW_none, errW_some] <;> rfl) | (simp [*, errW_none, errW_some] <;> rfl), by repeat (first | (with_reducible first | exact HB.out | apply below_alloc | apply pw_below_drewN | apply below_drew1) | exact HB.out)⟩
        · replace c8 := Bool.eq_false_iff.mpr c8
          subst c8
          have H1 : ((scan_All.f kj4 a0).bind fun bt397 => ((scan_All.f kj4 a1).bind fun bt402 => (if a0.size + 1 ≤ 9223372036854775807 then (if (a0 ++ (⟨#[32]⟩ : ByteArray)).size + a1.size ≤ 9223372036854775807 then ((scan_All.f kj4 ((a0 ++ (⟨#[32]⟩ : ByteArray)) ++ a1)).bind fun bt407 => (if bt397.2.2 = 0 then (pascalinelaw08_ScanJoins.j1 kj4 a0 bt397.1 bt402.1 bt407.1 bt407.2.2 (bt402.2.2 != 0)) else (pascalinelaw08_ScanJoins.j1 kj4 a0 bt397.1 bt402.1 bt407.1 bt407.2.2 true))) else (none)) else (none)))) = some r := by rw [if_neg (show ¬ (false = true) by decide)] at H; exact H
          clear H
          have H := H1
          clear H1
          replace H := Option.bind_eq_some_iff.mp H
          obtain ⟨⟨t397, t398, t399⟩, A90, H⟩ := H
          replace H : ((scan_All.f kj4 a1).bind fun bt402 => (if a0.size + 1 ≤ 9223372036854775807 then (if (a0 ++ (⟨#[32]⟩ : ByteArray)).size + a1.size ≤ 9223372036854775807 then ((scan_All.f kj4 ((a0 ++ (⟨#[32]⟩ : ByteArray)) ++ a1)).bind fun bt407 => (if t399 = 0 then (pascalinelaw08_ScanJoins.j1 kj4 a0 t397 bt402.1 bt407.1 bt407.2.2 (bt402.2.2 != 0)) else (pascalinelaw08_ScanJoins.j1 kj4 a0 t397 bt402.1 bt407.1 bt407.2.2 true))) else (none)) else (none))) = some r := H
          have A9 := Aside0.mk A90
          clear A90
          replace H := Option.bind_eq_some_iff.mp H
          obtain ⟨⟨t402, t403, t404⟩, A100, H⟩ := H
          replace H : (if a0.size + 1 ≤ 9223372036854775807 then (if (a0 ++ (⟨#[32]⟩ : ByteArray)).size + a1.size ≤ 9223372036854775807 then ((scan_All.f kj4 ((a0 ++ (⟨#[32]⟩ : ByteArray)) ++ a1)).bind fun bt407 => (if t399 = 0 then (pascalinelaw08_ScanJoins.j1 kj4 a0 t397 t402 bt407.1 bt407.2.2 (t404 != 0)) else (pascalinelaw08_ScanJoins.j1 kj4 a0 t397 t402 bt407.1 bt407.2.2 true))) else (none)) else (none)) = some r := H
          have A10 := Aside0.mk A100
          clear A100
          by_cases c11 : a0.size + 1 ≤ 9223372036854775807
          · rw [if_pos c11] at H
            have c11b0 := eq_true c11
            have c11b1 : decide (a0.size + 1 ≤ 9223372036854775807) = true := decide_eq_true c11
            try have c11b2 : (9223372036854775807 < a0.size + 1) = False := eq_false (Nat.not_lt.2 c11)
            by_cases c12 : (a0 ++ (⟨#[32]⟩ : ByteArray)).size + a1.size ≤ 9223372036854775807
            · rw [if_pos c12] at H
              have c12b0 := eq_true c12
              have c12b1 : decide ((a0 ++ (⟨#[32]⟩ : ByteArray)).size + a1.size ≤ 9223372036854775807) = true := decide_eq_true c12
              try have c12b2 : (9223372036854775807 < (a0 ++ (⟨#[32]⟩ : ByteArray)).size + a1.size) = False := eq_false (Nat.not_lt.2 c12)
              replace H := Option.bind_eq_some_iff.mp H
              obtain ⟨⟨t407, t408, t409⟩, A130, H⟩ := H
              replace H : (if t399 = 0 then (pascalinelaw08_ScanJoins.j1 kj4 a0 t397 t402 t407 t409 (t404 != 0)) else (pascalinelaw08_ScanJoins.j1 kj4 a0 t397 t402 t407 t409 true)) = some r := H
              have A13 := Aside0.mk A130
              clear A130
              have HC14 := Aside0.mk H
              clear H
              go_upto_region 8 with (first | (go_at_call 9; (with_reducible refine (scan_All.calls kj4 a0 t397 t398 t399 _ A9.out).mono ?_); rintro e w15 ⟨v400, rfl, ho0, hb⟩; have n0_ := Aside0.mk (Kd.R_lower ho0 (below_size (by repeat (first | (with_reducible first | exact HB.out | apply below_alloc | apply pw_below_drewN | apply below_drew1) | exact HB.out)))); have n1_ := Aside0.mk (below_step (by repeat (first | (with_reducible first | exact HB.out | apply below_alloc | apply pw_below_drewN | apply below_drew1) | exact HB.out)) hb); clear HB; have HO401 := n0_; have HB := n1_; clear n0_ n1_; (try clear hb); (try clear hb2); (try clear hk); (try clear hi); (try clear ho0)) | (go_at_call 9; (with_reducible refine (scan_All.calls kj4 a1 t402 t403 t404 _ A10.out).mono ?_); rintro e w16 ⟨v405, rfl, ho0, hb⟩; have n0_ := Aside0.mk (Kd.R_elder' (by (with_reducible repeat (first | apply Kd.R_alloc | apply Kd.R_drewN | apply Kd.R_drew)); exact HO401.out) (Kd.R_base ho0) hb); have n1_ := Aside0.mk (Kd.R_lower (Kd.R_new' ho0 (Kd.R_lt (by (with_reducible repeat (first | apply Kd.R_alloc | apply Kd.R_drewN | apply Kd.R_drew)); exact HO401.out))) (below_size (by repeat (first | (with_reducible first | exact HB.out | apply below_alloc | apply pw_below_drewN | apply below_drew1) | exact HB.out)))); have n2_ := Aside0.mk (below_step (by repeat (first | (with_reducible first | exact HB.out | apply below_alloc | apply pw_below_drewN | apply below_drew1) | exact HB.out)) hb); clear HO401; clear HB; have HO401 := n0_; have HO406 := n1_; have HB := n2_; clear n0_ n1_ n2_; (try clear hb); (try clear hb2); (try clear hk); (try clear hi); (try clear ho0)) | (go_at_call 9; (with_reducible refine (scan_All.calls kj4 ((a0 ++ (⟨#[32]⟩ : ByteArray)) ++ a1) t407 t408 t409 _ A13.out).mono ?_); rintro e w17 ⟨v410, rfl, ho0, hb⟩; have n0_ := Aside0.mk (Kd.R_elder' (by (with_reducible repeat (first | apply Kd.R_alloc | apply Kd.R_drewN | apply Kd.R_drew)); exact HO401.out) (Kd.R_base ho0) hb); have n1_ := Aside0.mk (Kd.R_elder' (by (with_reducible repeat (first | apply Kd.R_alloc | apply Kd.R_drewN | apply Kd.R_drew)); exact HO406.out) (Kd.R_base ho0) hb); have n2_ := Aside0.mk (Kd.R_lower (Kd.R_new' (Kd.R_new' ho0 (Kd.R_lt (by (with_reducible repeat (first | apply Kd.R_alloc | apply Kd.R_drewN | apply Kd.R_drew)); exact HO401.out))) (Kd.R_lt (by (with_reducible repeat (first | apply Kd.R_alloc | apply Kd.R_drewN | apply Kd.R_drew)); exact HO406.out))) (below_size (by repeat (first | (with_reducible first | exact HB.out | apply below_alloc | apply pw_below_drewN | apply below_drew1) | exact HB.out)))); have n3_ := Aside0.mk (below_step (by repeat (first | (with_reducible first | exact HB.out | apply below_alloc | apply pw_below_drewN | apply below_drew1) | exact HB.out)) hb); clear HO401; clear HO406; clear HB; have HO401 := n0_; have HO406 := n1_; have HO411 := n2_; have HB := n3_; clear n0_ n1_ n2_ n3_; (try clear hb); (try clear hb2); (try clear hk); (try clear hi); (try clear ho0)))
              repeat (go_quiet (first | (go_at_call 9; (with_reducible refine (scan_All.calls kj4 a0 t397 t398 t399 _ A9.out).mono ?_); rintro e w15 ⟨v400, rfl, ho0, hb⟩; have n0_ := Aside0.mk (Kd.R_lower ho0 (below_size (by repeat (first | (with_reducible first | exact HB.out | apply below_alloc | apply pw_below_drewN | apply below_drew1) | exact HB.out)))); have n1_ := Aside0.mk (below_step (by repeat (first | (with_reducible first | exact HB.out | apply below_alloc | apply pw_below_drewN | apply below_drew1) | exact HB.out)) hb); clear HB; have HO401 := n0_; have HB := n1_; clear n0_ n1_; (try clear hb); (try clear hb2); (try clear hk); (try clear hi); (try clear ho0)) | (go_at_call 9; (with_reducible refine (scan_All.calls kj4 a1 t402 t403 t404 _ A10.out).mono ?_); rintro e w16 ⟨v405, rfl, ho0, hb⟩; have n0_ := Aside0.mk (Kd.R_elder' (by (with_reducible repeat (first | apply Kd.R_alloc | apply Kd.R_drewN | apply Kd.R_drew)); exact HO401.out) (Kd.R_base ho0) hb); have n1_ := Aside0.mk (Kd.R_lower (Kd.R_new' ho0 (Kd.R_lt (by (with_reducible repeat (first | apply Kd.R_alloc | apply Kd.R_drewN | apply Kd.R_drew)); exact HO401.out))) (below_size (by repeat (first | (with_reducible first | exact HB.out | apply below_alloc | apply pw_below_drewN | apply below_drew1) | exact HB.out)))); have n2_ := Aside0.mk (below_step (by repeat (first | (with_reducible first | exact HB.out | apply below_alloc | apply pw_below_drewN | apply below_drew1) | exact HB.out)) hb); clear HO401; clear HB; have HO401 := n0_; have HO406 := n1_; have HB := n2_; clear n0_ n1_ n2_; (try clear hb); (try clear hb2); (try clear hk); (try clear hi); (try clear ho0)) | (go_at_call 9; (with_reducible refine (scan_All.calls kj4 ((a0 ++ (⟨#[32]⟩ : ByteArray)) ++ a1) t407 t408 t409 _ A13.out).mono ?_); rintro e w17 ⟨v410, rfl, ho0, hb⟩; have n0_ := Aside0.mk (Kd.R_elder' (by (with_reducible repeat (first | apply Kd.R_alloc | apply Kd.R_drewN | apply Kd.R_drew)); exact HO401.out) (Kd.R_base ho0) hb); have n1_ := Aside0.mk (Kd.R_elder' (by (with_reducible repeat (first | apply Kd.R_alloc | apply Kd.R_drewN | apply Kd.R_drew)); exact HO406.out) (Kd.R_base ho0) hb); have n2_ := Aside0.mk (Kd.R_lower (Kd.R_new' (Kd.R_new' ho0 (Kd.R_lt (by (with_reducible repeat (first | apply Kd.R_alloc | apply Kd.R_drewN | apply Kd.R_drew)); exact HO401.out))) (Kd.R_lt (by (with_reducible repeat (first | apply Kd.R_alloc | apply Kd.R_drewN | apply Kd.R_drew)); exact HO406.out))) (below_size (by repeat (first | (with_reducible first | exact HB.out | apply below_alloc | apply pw_below_drewN | apply below_drew1) | exact HB.out)))); have n3_ := Aside0.mk (below_step (by repeat (first | (with_reducible first | exact HB.out | apply below_alloc | apply pw_below_drewN | apply below_drew1) | exact HB.out)) hb); clear HO401; clear HO406; clear HB; have HO401 := n0_; have HO406 := n1_; have HO411 := n2_; have HB := n3_; clear n0_ n1_ n2_ n3_; (try clear hb); (try clear hb2); (try clear hk); (try clear hi); (try clear ho0))); go_upto_region 8 with (first | (go_at_call 9; (with_reducible refine (scan_All.calls kj4 a0 t397 t398 t399 _ A9.out).mono ?_); rintro e w15 ⟨v400, rfl, ho0, hb⟩; have n0_ := Aside0.mk (Kd.R_lower ho0 (below_size (by repeat (first | (with_reducible first | exact HB.out | apply below_alloc | apply pw_below_drewN | apply below_drew1) | exact HB.out)))); have n1_ := Aside0.mk (below_step (by repeat (first | (with_reducible first | exact HB.out | apply below_alloc | apply pw_below_drewN | apply below_drew1) | exact HB.out)) hb); clear HB; have HO401 := n0_; have HB := n1_; clear n0_ n1_; (try clear hb); (try clear hb2); (try clear hk); (try clear hi); (try clear ho0)) | (go_at_call 9; (with_reducible refine (scan_All.calls kj4 a1 t402 t403 t404 _ A10.out).mono ?_); rintro e w16 ⟨v405, rfl, ho0, hb⟩; have n0_ := Aside0.mk (Kd.R_elder' (by (with_reducible repeat (first | apply Kd.R_alloc | apply Kd.R_drewN | apply Kd.R_drew)); exact HO401.out) (Kd.R_base ho0) hb); have n1_ := Aside0.mk (Kd.R_lower (Kd.R_new' ho0 (Kd.R_lt (by (with_reducible repeat (first | apply Kd.R_alloc | apply Kd.R_drewN | apply Kd.R_drew)); exact HO401.out))) (below_size (by repeat (first | (with_reducible first | exact HB.out | apply below_alloc | apply pw_below_drewN | apply below_drew1) | exact HB.out)))); have n2_ := Aside0.mk (below_step (by repeat (first | (with_reducible first | exact HB.out | apply below_alloc | apply pw_below_drewN | apply below_drew1) | exact HB.out)) hb); clear HO401; clear HB; have HO401 := n0_; have HO406 := n1_; have HB := n2_; clear n0_ n1_ n2_; (try clear hb); (try clear hb2); (try clear hk); (try clear hi); (try clear ho0)) | (go_at_call 9; (with_reducible refine (scan_All.calls kj4 ((a0 ++ (⟨#[32]⟩ : ByteArray)) ++ a1) t407 t408 t409 _ A13.out).mono ?_); rintro e w17 ⟨v410, rfl, ho0, hb⟩; have n0_ := Aside0.mk (Kd.R_elder' (by (with_reducible repeat (first | apply Kd.R_alloc | apply Kd.R_drewN | apply Kd.R_drew)); exact HO401.out) (Kd.R_base ho0) hb); have n1_ := Aside0.mk (Kd.R_elder' (by (with_reducible repeat (first | apply Kd.R_alloc | apply Kd.R_drewN | apply Kd.R_drew)); exact HO406.out) (Kd.R_base ho0) hb); have n2_ := Aside0.mk (Kd.R_lower (Kd.R_new' (Kd.R_new' ho0 (Kd.R_lt (by (with_reducible repeat (first | apply Kd.R_alloc | apply Kd.R_drewN | apply Kd.R_drew)); exact HO401.out))) (Kd.R_lt (by (with_reducible repeat (first | apply Kd.R_alloc | apply Kd.R_drewN | apply Kd.R_drew)); exact HO406.out))) (below_size (by repeat (first | (with_reducible first | exact HB.out | apply below_alloc | apply pw_below_drewN | apply below_drew1) | exact HB.out)))); have n3_ := Aside0.mk (below_step (by repeat (first | (with_reducible first | exact HB.out | apply below_alloc | apply pw_below_drewN | apply below_drew1) | exact HB.out)) hb); clear HO401; clear HO406; clear HB; have HO401 := n0_; have HO406 := n1_; have HO411 := n2_; have HB := n3_; clear n0_ n1_ n2_ n3_; (try clear hb); (try clear hb2); (try clear hk); (try clear hi); (try clear ho0))))
              (try simp only [Act.put, List.setIfInBounds_toArray, List.set_cons_zero, List.set_cons_succ])
              go_cut [52] (fun v52 wc => ∃ (kq : Nat) (x52_13 : Bool), v52 = .bool x52_13 ∧ Aside0 (pascalinelaw08_ScanJoins.j1 kq a0 t397 t402 t407 t409 x52_13 = some r) ∧ Aside0 (kq ≤ kj4) ∧ Aside0 (Kd.R k32 32 wc w.heap.size (fun k_ => some k_ ≠ (v405 : Value).ownBlock ∧ some k_ ≠ (v410 : Value).ownBlock) v400 t397) ∧ Aside0 (Kd.R k32 32 wc w.heap.size (fun k_ => some k_ ≠ (v400 : Value).ownBlock ∧ some k_ ≠ (v410 : Value).ownBlock) v405 t402) ∧ Aside0 (Kd.R k32 32 wc w.heap.size (fun k_ => some k_ ≠ (v400 : Value).ownBlock ∧ some k_ ≠ (v405 : Value).ownBlock) v410 t407) ∧ Aside0 (Below w.heap.size w wc))
              case first =>
                have H := HC14.out
                clear HC14
                by_cases c18 : t399 = 0
                · rw [if_pos c18] at H
                  have c18b0 : (t399 == 0) = true := beq_iff_eq.mpr c18
                  have c18b1 : (t399 != 0) = false := bne_eq_false_iff_eq.mpr c18
                  clear c18
                  (first | rw [c18b0] | (simp only [i64_w, i32_w]; rw [c18b0]) | skip)
                  have H' := Aside0.mk H
                  clear H
                  go_wp2
                  repeat (go_quiet (fail); try go_wp2)
                  go_meet
                  case rel => exact ⟨_, ((t404 != 0)), (by first | rfl | (simp; done) | (simp [*]; done)), H', ⟨by have := HJ4.out; first | omega | exact Nat.le_refl _⟩, ⟨by (with_reducible repeat (first | apply Kd.R_alloc | apply Kd.R_drewN | apply Kd.R_drew)); exact Kd.R_mono HO401.out (fun _ hk => ⟨hk.1.2, hk.2⟩)⟩, ⟨by (with_reducible repeat (first | apply Kd.R_alloc | apply Kd.R_drewN | apply Kd.R_drew)); exact Kd.R_mono HO406.out (fun _ hk => ⟨hk.1.2, hk.2⟩)⟩, ⟨by (with_reducible repeat (first | apply Kd.R_alloc | apply Kd.R_drewN | apply Kd.R_drew)); exact Kd.R_mono HO411.out (fun _ hk => ⟨hk.1.2, hk.2⟩)⟩, ⟨by repeat (first | (with_reducible first | exact HB.out | apply below_alloc | apply pw_below_drewN | apply below_drew1) | exact HB.out)⟩⟩
                · rw [if_neg c18] at H
                  have c18b0 : (t399 == 0) = false := beq_eq_false_iff_ne.mpr c18
                  have c18b1 : (t399 != 0) = true := bne_iff_ne.mpr c18
                  (first | rw [c18b0] | (simp only [i64_w, i32_w]; rw [c18b0]) | skip)
                  have H' := Aside0.mk H
                  clear H
                  go_wp2
                  repeat (go_quiet (fail); try go_wp2)
                  go_meet
                  case rel => exact ⟨_, (true), (by first | rfl | (simp; done) | (simp [*]; done)), H', ⟨by have := HJ4.out; first | omega | exact Nat.le_refl _⟩, ⟨by (with_reducible repeat (first | apply Kd.R_alloc | apply Kd.R_drewN | apply Kd.R_drew)); exact Kd.R_mono HO401.out (fun _ hk => ⟨hk.1.2, hk.2⟩)⟩, ⟨by (with_reducible repeat (first | apply Kd.R_alloc | apply Kd.R_drewN | apply Kd.R_drew)); exact Kd.R_mono HO406.out (fun _ hk => ⟨hk.1.2, hk.2⟩)⟩, ⟨by (with_reducible repeat (first | apply Kd.R_alloc | apply Kd.R_drewN | apply Kd.R_drew)); exact Kd.R_mono HO411.out (fun _ hk => ⟨hk.1.2, hk.2⟩)⟩, ⟨by repeat (first | (with_reducible first | exact HB.out | apply below_alloc | apply pw_below_drewN | apply below_drew1) | exact HB.out)⟩⟩
              case rest =>
                clear HC14
                try clear c1
                try clear p2
                try clear c4
                try clear c7
                try clear c7b0
                try clear c7b1
                try clear c8
                try clear c11
                try clear c11b0
                try clear c11b1
                try clear c11b2
                try clear c12
                try clear c12b0
                try clear c12b1
                try clear c12b2
                try clear c18
                try clear c18b0
                try clear c18b1
                try clear p2
                obtain ⟨kq, x52_13, rfl, HA, HJ13, HO_5, HO_8, HO_11, HB⟩ := hcut
                cases kq with
                | zero => exact absurd HA.out (by simp [pascalinelaw08_ScanJoins.j1])
                | succ kj13 =>
                  have H := HA.out
                  clear HA
                  simp only [pascalinelaw08_ScanJoins.j1] at H
                  by_cases c19 : x52_13 = true
                  · subst c19
                    have H1 : (some true) = some r := by rw [if_pos rfl] at H; exact H
                    clear H
                    have H := H1
                    clear H1
                    obtain rfl := Option.some.inj H
                    go_wp2
                    repeat (go_quiet (fail); try go_wp2)
                    go_ret
                    exact ⟨by first | rfl | (simp [errW_none, errW_some] <;> rfl) | (simp [*, errW_none, errW_some] <;> rfl), by repeat (first | (with_reducible first | exact HB.out | apply below_alloc | apply pw_below_drewN | apply below_drew1) | exact HB.out)⟩
                  · replace c19 := Bool.eq_false_iff.mpr c19
                    subst c19
                    have H1 : (if t409 = 0 then (if (t397.length : Int) < 1 then (pascalinelaw08_ScanJoins.j2 kj13 a0 t397 t402 t407 true) else (pascalinelaw08_ScanJoins.j2 kj13 a0 t397 t402 t407 ((t407.length : Int) != (wrap64 ((wrap64 ((t397.length : Int) - 1)) + (t402.length : Int)))))) else (pascalinelaw08_ScanJoins.j2 kj13 a0 t397 t402 t407 true)) = some r := by rw [if_neg (show ¬ (false = true) by decide)] at H; exact H
                    clear H
                    have H := H1
                    clear H1
                    have HC20 := Aside0.mk H
                    clear H
                    go_upto_region 10 with (fail)
                    repeat (go_quiet (fail); go_upto_region 10 with (fail))
                    go_cut [70] (fun v70 wc => ∃ (kq : Nat) (x70_19 : Bool), v70 = .bool x70_19 ∧ Aside0 (pascalinelaw08_ScanJoins.j2 kq a0 t397 t402 t407 x70_19 = some r) ∧ Aside0 (kq ≤ kj13) ∧ Aside0 (Kd.R k32 32 wc w.heap.size (fun k_ => some k_ ≠ (v405 : Value).ownBlock ∧ some k_ ≠ (v410 : Value).ownBlock) v400 t397) ∧ Aside0 (Kd.R k32 32 wc w.heap.size (fun k_ => some k_ ≠ (v400 : Value).ownBlock ∧ some k_ ≠ (v410 : Value).ownBlock) v405 t402) ∧ Aside0 (Kd.R k32 32 wc w.heap.size (fun k_ => some k_ ≠ (v400 : Value).ownBlock ∧ some k_ ≠ (v405 : Value).ownBlock) v410 t407) ∧ Aside0 (Below w.heap.size w wc))
                    case first =>
                      have H := HC20.out
                      clear HC20
                      by_cases c21 : t409 = 0
                      · rw [if_pos c21] at H
                        have c21b0 : (t409 == 0) = true := beq_iff_eq.mpr c21
                        have c21b1 : (t409 != 0) = false := bne_eq_false_iff_eq.mpr c21
                        clear c21
                        (first | rw [c21b0] | (simp only [i64_w, i32_w]; rw [c21b0]) | skip)
                        by_cases c22 : (t397.length : Int) < 1
                        · rw [if_pos c22] at H
                          have c22b0 : decide ((t397.length : Int) < 1) = true := decide_eq_true c22
                          have c22b1 : decide (t397.length < 1) = true := decide_eq_true (by omega)
                          clear c22
                          have H' := Aside0.mk H
                          clear H
                          obtain ⟨Ao23, co23, eo23⟩ := Kd.R_slice HO_5.out
                          subst eo23
                          go_wp2
                          repeat (go_quiet (fail); try go_wp2)
                          go_meet
                          case rel => exact ⟨_, (true), (by first | rfl | (simp; done) | (simp [*]; done)), H', ⟨by have := HJ4.out; have := HJ13.out; first | omega | exact Nat.le_refl _⟩, ⟨by (with_reducible repeat (first | apply Kd.R_alloc | apply Kd.R_drewN | apply Kd.R_drew)); exact HO_5.out⟩, ⟨by (with_reducible repeat (first | apply Kd.R_alloc | apply Kd.R_drewN | apply Kd.R_drew)); exact HO_8.out⟩, ⟨by (with_reducible repeat (first | apply Kd.R_alloc | apply Kd.R_drewN | apply Kd.R_drew)); exact HO_11.out⟩, ⟨by repeat (first | (with_reducible first | exact HB.out | apply below_alloc | apply pw_below_drewN | apply below_drew1) | exact HB.out)⟩⟩
                        · rw [if_neg c22] at H
                          have c22b0 : decide ((t397.length : Int) < 1) = false := decide_eq_false c22
                          have c22b1 : decide (t397.length < 1) = false := decide_eq_false (by omega)
                          clear c22
                          have H' := Aside0.mk H
                          clear H
                          obtain ⟨Ao24, co24, eo24⟩ := Kd.R_slice HO_5.out
                          subst eo24
                          obtain ⟨Ao25, co25, eo25⟩ := Kd.R_slice HO_11.out
                          subst eo25
                          obtain ⟨Ao26, co26, eo26⟩ := Kd.R_slice HO_8.out
                          subst eo26
                          go_wp2
                          repeat (go_quiet (fail); try go_wp2)
                          go_meet
                          case rel => exact ⟨_, (((t407.length : Int) != (wrap64 ((wrap64 ((t397.length : Int) - 1)) + (t402.length : Int))))), (by first | rfl | (simp; done) | (simp [*]; done)), H', ⟨by have := HJ4.out; have := HJ13.out; first | omega | exact Nat.le_refl _⟩, ⟨by (with_reducible repeat (first | apply Kd.R_alloc | apply Kd.R_drewN | apply Kd.R_drew)); exact HO_5.out⟩, ⟨by (with_reducible repeat (first | apply Kd.R_alloc | apply Kd.R_drewN | apply Kd.R_drew)); exact HO_8.out⟩, ⟨by (with_reducible repeat (first | apply Kd.R_alloc | apply Kd.R_drewN | apply Kd.R_drew)); exact HO_11.out⟩, ⟨by repeat (first | (with_reducible first | exact HB.out | apply below_alloc | apply pw_below_drewN | apply below_drew1) | exact HB.out)⟩⟩
                      · rw [if_neg c21] at H
                        have c21b0 : (t409 == 0) = false := beq_eq_false_iff_ne.mpr c21
                        have c21b1 : (t409 != 0) = true := bne_iff_ne.mpr c21
                        (first | rw [c21b0] | (simp only [i64_w, i32_w]; rw [c21b0]) | skip)
                        have H' := Aside0.mk H
                        clear H
                        go_wp2
                        repeat (go_quiet (fail); try go_wp2)
                        go_meet
                        case rel => exact ⟨_, (true), (by first | rfl | (simp; done) | (simp [*]; done)), H', ⟨by have := HJ4.out; have := HJ13.out; first | omega | exact Nat.le_refl _⟩, ⟨by (with_reducible repeat (first | apply Kd.R_alloc | apply Kd.R_drewN | apply Kd.R_drew)); exact HO_5.out⟩, ⟨by (with_reducible repeat (first | apply Kd.R_alloc | apply Kd.R_drewN | apply Kd.R_drew)); exact HO_8.out⟩, ⟨by (with_reducible repeat (first | apply Kd.R_alloc | apply Kd.R_drewN | apply Kd.R_drew)); exact HO_11.out⟩, ⟨by repeat (first | (with_reducible first | exact HB.out | apply below_alloc | apply pw_below_drewN | apply below_drew1) | exact HB.out)⟩⟩
                    case rest =>
                      clear HC20
                      try clear c1
                      try clear c2
                      try clear p2
                      try clear c4
                      try clear p6
                      try clear c7
                      try clear c7b0
                      try clear c7b1
                      try clear c8
                      try clear c11
                      try clear c11b0
                      try clear c11b1
                      try clear c11b2
                      try clear c12
                      try clear c12b0
                      try clear c12b1
                      try clear c12b2
                      try clear c18
                      try clear c18b0
                      try clear c18b1
                      try clear c19
                      try clear c21
                      try clear c21b0
                      try clear c21b1
                      try clear c22
                      try clear c22b0
                      try clear c22b1
                      try clear p2
                      obtain ⟨kq, x70_19, rfl, HA, HJ19, HO_5, HO_8, HO_11, HB⟩ := hcut
                      cases kq with
                      | zero => exact absurd HA.out (by simp [pascalinelaw08_ScanJoins.j2])
                      | succ kj19 =>
                        have H := HA.out
                        clear HA
                        simp only [pascalinelaw08_ScanJoins.j2] at H
                        by_cases c27 : x70_19 = true
                        · subst c27
                          have H1 : (some false) = some r := by rw [if_pos rfl] at H; exact H
                          clear H
                          have H := H1
                          clear H1
                          obtain rfl := Option.some.inj H
                          go_wp2
                          repeat (go_quiet (fail); try go_wp2)
                          go_ret
                          exact ⟨by first | rfl | (simp [errW_none, errW_some] <;> rfl) | (simp [*, errW_none, errW_some] <;> rfl), by repeat (first | (with_reducible first | exact HB.out | apply below_alloc | apply pw_below_drewN | apply below_drew1) | exact HB.out)⟩
                        · replace c27 := Bool.eq_false_iff.mpr c27
                          subst c27
                          have H1 : (pascalinelaw08_ScanJoins.l0 kj19 a0 t397 t402 t407 0) = some r := by rw [if_neg (show ¬ (false = true) by decide)] at H; exact H
                          clear H
                          have H := H1
                          clear H1
                          have H' := Aside0.mk H
                          clear H
                          go_wp2
                          repeat (go_quiet (fail); try go_wp2)
                          go_loopg [14] kj19 (fun kq v14 w' => ∃ (x14_4 : Int), v14 = .int .i64 x14_4 ∧ Aside0 (pascalinelaw08_ScanJoins.l0 kq a0 t397 t402 t407 x14_4 = some r) ∧ Aside0 (kq ≤ kj19) ∧ Aside0 (Kd.R k32 32 w' w.heap.size (fun k_ => some k_ ≠ (v405 : Value).ownBlock ∧ some k_ ≠ (v410 : Value).ownBlock) v400 t397) ∧ Aside0 (Kd.R k32 32 w' w.heap.size (fun k_ => some k_ ≠ (v400 : Value).ownBlock ∧ some k_ ≠ (v410 : Value).ownBlock) v405 t402) ∧ Aside0 (Kd.R k32 32 w' w.heap.size (fun k_ => some k_ ≠ (v400 : Value).ownBlock ∧ some k_ ≠ (v405 : Value).ownBlock) v410 t407) ∧ Aside0 (Below w.heap.size w w'))
                          case atStart => exact ⟨(0), (by first | rfl | (simp; done) | (simp [*]; done)), H', ⟨Nat.le_refl _⟩, ⟨by (with_reducible repeat (first | apply Kd.R_alloc | apply Kd.R_drewN | apply Kd.R_drew)); exact HO_5.out⟩, ⟨by (with_reducible repeat (first | apply Kd.R_alloc | apply Kd.R_drewN | apply Kd.R_drew)); exact HO_8.out⟩, ⟨by (with_reducible repeat (first | apply Kd.R_alloc | apply Kd.R_drewN | apply Kd.R_drew)); exact HO_11.out⟩, ⟨by repeat (first | (with_reducible first | exact HB.out | apply below_alloc | apply pw_below_drewN | apply below_drew1) | exact HB.out)⟩⟩
                          case round =>
                            clear H'
                            try clear c1
                            try clear c2
                            try clear p2
                            try clear c4
                            try clear p6
                            try clear c7
                            try clear c7b0
                            try clear c7b1
                            try clear c8
                            try clear c11
                            try clear c11b0
                            try clear c11b1
                            try clear c11b2
                            try clear c12
                            try clear c12b0
                            try clear c12b1
                            try clear c12b2
                            try clear c18
                            try clear c18b0
                            try clear c18b1
                            try clear c19
                            try clear c21
                            try clear c21b0
                            try clear c21b1
                            try clear c22
                            try clear c22b0
                            try clear c22b1
                            try clear c27
                            try clear p2
                            try clear p6
                            obtain ⟨x14_4, rfl, HA, HK4, HO_5, HO_8, HO_11, HB⟩ := hrel
                            cases gk with
                            | zero => exact absurd HA.out (by simp [pascalinelaw08_ScanJoins.l0])
                            | succ k4 =>
                              have H := HA.out
                              clear HA
                              simp only [pascalinelaw08_ScanJoins.l0] at H
                              by_cases c28 : x14_4 < (t407.length : Int)
                              · rw [if_pos c28] at H
                                have c28b0 : decide (x14_4 < (t407.length : Int)) = true := decide_eq_true c28
                                clear c28
                                by_cases c29 : x14_4 < (wrap64 ((t397.length : Int) - 1))
                                · rw [if_pos c29] at H
                                  have c29b0 : decide (x14_4 < (wrap64 ((t397.length : Int) - 1))) = true := decide_eq_true c29
                                  clear c29
                                  by_cases c30 : 0 ≤ x14_4
                                  · rw [if_pos c30] at H
                                    have c30b0 : decide (0 ≤ x14_4) = true := decide_eq_true c30
                                    clear c30
                                    by_cases c31 : x14_4 < (t397.length : Int)
                                    · rw [if_pos c31] at H
                                      have c31b0 : decide (x14_4 < (t397.length : Int)) = true := decide_eq_true c31
                                      clear c31
                                      by_cases c32 : (!(((rd_T32 t407 x14_4).f0) == ((rd_T32 t397 x14_4).f0)) || (!(((rd_T32 t407 x14_4).f1) == ((rd_T32 t397 x14_4).f1)) || (!(((rd_T32 t407 x14_4).f2) == ((rd_T32 t397 x14_4).f2)) || (!((((rd_T32 t407 x14_4).f3).toList) == (((rd_T32 t397 x14_4).f3).toList)) || (!(((rd_T32 t407 x14_4).f4) == ((rd_T32 t397 x14_4).f4))))))) = true
                                      · rw [if_pos c32] at H
                                        have c32b0 : (!(((rd_T32 t407 x14_4).f0) == ((rd_T32 t397 x14_4).f0)) || (!(((rd_T32 t407 x14_4).f1) == ((rd_T32 t397 x14_4).f1)) || (!(((rd_T32 t407 x14_4).f2) == ((rd_T32 t397 x14_4).f2)) || (!((((rd_T32 t407 x14_4).f3).toList) == (((rd_T32 t397 x14_4).f3).toList)) || (!(((rd_T32 t407 x14_4).f4) == ((rd_T32 t397 x14_4).f4))))))) = true := c32
                                        clear c32
                                        obtain rfl := Option.some.inj H
                                        obtain ⟨Ao33, co33, eo33⟩ := Kd.R_slice HO_11.out
                                        subst eo33
                                        obtain ⟨Ao34, co34, eo34⟩ := Kd.R_slice HO_5.out
                                        subst eo34
                                        have p412 : 0 ≤ (x14_4 : Int) := of_decide_eq_true (by first | (with_reducible assumption) | assumption)
                                        have q412 : x14_4 < (t407.length : Int) := of_decide_eq_true (by first | (with_reducible assumption) | assumption)
                                        obtain ⟨ad412, e412, hx412_0, hx412_1, hx412_2, hx412_3, hx412_4⟩ := at_T32 (Kd.R_reads' HO_11.out).2.2 x14_4 p412 q412
                                        cases e412
                                        replace p412 := eq_true p412
                                        replace q412 := eq_true q412
                                        have p413 : 0 ≤ (x14_4 : Int) := of_decide_eq_true (by first | (with_reducible assumption) | assumption)
                                        have q413 : x14_4 < (t397.length : Int) := of_decide_eq_true (by first | (with_reducible assumption) | assumption)
                                        obtain ⟨ad413, e413, hx413_0, hx413_1, hx413_2, hx413_3, hx413_4⟩ := at_T32 (Kd.R_reads' HO_5.out).2.2 x14_4 p413 q413
                                        cases e413
                                        replace p413 := eq_true p413
                                        replace q413 := eq_true q413
                                        go_wp2
                                        repeat (go_quiet (fail); try go_wp2)
                                        go_ret
                                        exact ⟨by first | rfl | (simp [errW_none, errW_some] <;> rfl) | (simp [*, errW_none, errW_some] <;> rfl), by repeat (first | (with_reducible first | exact HB.out | apply below_alloc | apply pw_below_drewN | apply below_drew1) | exact HB.out)⟩
                                      · rw [if_neg c32] at H
                                        have c32b0 : (!(((rd_T32 t407 x14_4).f0) == ((rd_T32 t397 x14_4).f0)) || (!(((rd_T32 t407 x14_4).f1) == ((rd_T32 t397 x14_4).f1)) || (!(((rd_T32 t407 x14_4).f2) == ((rd_T32 t397 x14_4).f2)) || (!((((rd_T32 t407 x14_4).f3).toList) == (((rd_T32 t397 x14_4).f3).toList)) || (!(((rd_T32 t407 x14_4).f4) == ((rd_T32 t397 x14_4).f4))))))) = false := by simpa using c32
                                        clear c32
                                        have H' := Aside0.mk H
                                        clear H
                                        obtain ⟨Ao35, co35, eo35⟩ := Kd.R_slice HO_11.out
                                        subst eo35
                                        obtain ⟨Ao36, co36, eo36⟩ := Kd.R_slice HO_5.out
                                        subst eo36
                                        have p412 : 0 ≤ (x14_4 : Int) := of_decide_eq_true (by first | (with_reducible assumption) | assumption)
                                        have q412 : x14_4 < (t407.length : Int) := of_decide_eq_true (by first | (with_reducible assumption) | assumption)
                                        obtain ⟨ad412, e412, hx412_0, hx412_1, hx412_2, hx412_3, hx412_4⟩ := at_T32 (Kd.R_reads' HO_11.out).2.2 x14_4 p412 q412
                                        cases e412
                                        replace p412 := eq_true p412
                                        replace q412 := eq_true q412
                                        have p413 : 0 ≤ (x14_4 : Int) := of_decide_eq_true (by first | (with_reducible assumption) | assumption)
                                        have q413 : x14_4 < (t397.length : Int) := of_decide_eq_true (by first | (with_reducible assumption) | assumption)
                                        obtain ⟨ad413, e413, hx413_0, hx413_1, hx413_2, hx413_3, hx413_4⟩ := at_T32 (Kd.R_reads' HO_5.out).2.2 x14_4 p413 q413
                                        cases e413
                                        replace p413 := eq_true p413
                                        replace q413 := eq_true q413
                                        go_wp2
                                        repeat (go_quiet (fail); try go_wp2)
                                        go_roundg k4
                                        case measure => have := HJ4.out; have := HJ13.out; have := HJ19.out; have := HK4.out; omega
                                        case rel => exact ⟨(wrap64 (x14_4 + 1)), (by first | rfl | (simp; done) | (simp [*]; done)), H', ⟨by have := HJ4.out; have := HJ13.out; have := HJ19.out; have := HK4.out; omega⟩, ⟨by (with_reducible repeat (first | apply Kd.R_alloc | apply Kd.R_drewN | apply Kd.R_drew)); exact HO_5.out⟩, ⟨by (with_reducible repeat (first | apply Kd.R_alloc | apply Kd.R_drewN | apply Kd.R_drew)); exact HO_8.out⟩, ⟨by (with_reducible repeat (first | apply Kd.R_alloc | apply Kd.R_drewN | apply Kd.R_drew)); exact HO_11.out⟩, ⟨by repeat (first | (with_reducible first | exact HB.out | apply below_alloc | apply pw_below_drewN | apply below_drew1) | exact HB.out)⟩⟩
                                    · rw [if_neg c31] at H
                                      exact absurd H (by simp)
                                  · rw [if_neg c30] at H
                                    exact absurd H (by simp)
                                · rw [if_neg c29] at H
                                  have c29b0 : decide (x14_4 < (wrap64 ((t397.length : Int) - 1))) = false := decide_eq_false c29
                                  clear c29
                                  obtain ⟨ji37, hji37⟩ : ∃ j_ : Int, (wrap64 ((wrap64 (x14_4 - (t397.length : Int))) + 1)) = j_ := ⟨_, rfl⟩
                                  replace H : (if 0 ≤ (ji37) then (if (ji37) < (t402.length : Int) then (if 0 ≤ x14_4 then (if (!(((rd_T32 t407 x14_4).f0) == ((rd_T32 t402 (ji37)).f0)) || (!(((rd_T32 t407 x14_4).f1) == (wrap64 ((wrap64 (((rd_T32 t402 (ji37)).f1) + (a0.size : Int))) + 1))) || (!(((rd_T32 t407 x14_4).f2) == (wrap64 ((wrap64 (((rd_T32 t402 (ji37)).f2) + (a0.size : Int))) + 1))) || (!((((rd_T32 t407 x14_4).f3).toList) == (((rd_T32 t402 (ji37)).f3).toList)) || (!(((rd_T32 t407 x14_4).f4) == ((rd_T32 t402 (ji37)).f4))))))) = true then (some false) else (pascalinelaw08_ScanJoins.l0 k4 a0 t397 t402 t407 (wrap64 (x14_4 + 1)))) else (none)) else (none)) else (none)) = some r := by first | (rw [hji37] at H; exact H) | (simp only [hji37] at H ⊢; exact H)
                                  have hji37w : (IntKind.i64.wrap ((wrap64 (x14_4 - (t397.length : Int))) + 1)) = ji37 := (i64_w _).trans hji37
                                  by_cases c38 : 0 ≤ (ji37)
                                  · rw [if_pos c38] at H
                                    have c38b0 : decide (0 ≤ (ji37)) = true := decide_eq_true c38
                                    clear c38
                                    by_cases c39 : (ji37) < (t402.length : Int)
                                    · rw [if_pos c39] at H
                                      have c39b0 : decide ((ji37) < (t402.length : Int)) = true := decide_eq_true c39
                                      clear c39
                                      by_cases c40 : 0 ≤ x14_4
                                      · rw [if_pos c40] at H
                                        have c40b0 : decide (0 ≤ x14_4) = true := decide_eq_true c40
                                        clear c40
                                        by_cases c41 : (!(((rd_T32 t407 x14_4).f0) == ((rd_T32 t402 (ji37)).f0)) || (!(((rd_T32 t407 x14_4).f1) == (wrap64 ((wrap64 (((rd_T32 t402 (ji37)).f1) + (a0.size : Int))) + 1))) || (!(((rd_T32 t407 x14_4).f2) == (wrap64 ((wrap64 (((rd_T32 t402 (ji37)).f2) + (a0.size : Int))) + 1))) || (!((((rd_T32 t407 x14_4).f3).toList) == (((rd_T32 t402 (ji37)).f3).toList)) || (!(((rd_T32 t407 x14_4).f4) == ((rd_T32 t402 (ji37)).f4))))))) = true
                                        · rw [if_pos c41] at H
                                          have c41b0 : (!(((rd_T32 t407 x14_4).f0) == ((rd_T32 t402 (ji37)).f0)) || (!(((rd_T32 t407 x14_4).f1) == (wrap64 ((wrap64 (((rd_T32 t402 (ji37)).f1) + (a0.size : Int))) + 1))) || (!(((rd_T32 t407 x14_4).f2) == (wrap64 ((wrap64 (((rd_T32 t402 (ji37)).f2) + (a0.size : Int))) + 1))) || (!((((rd_T32 t407 x14_4).f3).toList) == (((rd_T32 t402 (ji37)).f3).toList)) || (!(((rd_T32 t407 x14_4).f4) == ((rd_T32 t402 (ji37)).f4))))))) = true := c41
                                          clear c41
                                          obtain rfl := Option.some.inj H
                                          obtain ⟨Ao42, co42, eo42⟩ := Kd.R_slice HO_11.out
                                          subst eo42
                                          obtain ⟨Ao43, co43, eo43⟩ := Kd.R_slice HO_5.out
                                          subst eo43
                                          obtain ⟨Ao44, co44, eo44⟩ := Kd.R_slice HO_8.out
                                          subst eo44
                                          have p414 : 0 ≤ ((ji37) : Int) := of_decide_eq_true (by first | (with_reducible assumption) | assumption)
                                          have q414 : (ji37) < (t402.length : Int) := of_decide_eq_true (by first | (with_reducible assumption) | assumption)
                                          obtain ⟨ad414, e414, hx414_0, hx414_1, hx414_2, hx414_3, hx414_4⟩ := at_T32 (Kd.R_reads' HO_8.out).2.2 (ji37) p414 q414
                                          cases e414
                                          replace p414 := eq_true p414
                                          replace q414 := eq_true q414
                                          go_upto_region 20 with fail
                                          obtain ⟨gb415, hg⟩ : ∃ n, n = wr.heap.size := ⟨_, rfl⟩
                                          rw [← hg]
                                          obtain ⟨w45, hw_⟩ : ∃ W_ : World, W_ = wr.alloc (.cells #[.int .i64 (rd_T32 t402 ji37).f0, .int .i64 (wrap64 (wrap64 ((rd_T32 t402 ji37).f1 + (a0.size : Int)) + 1)), .int .i64 (wrap64 (wrap64 ((rd_T32 t402 ji37).f2 + (a0.size : Int)) + 1)), .string (rd_T32 t402 ji37).f3, .int .i32 (rd_T32 t402 ji37).f4] 32) := ⟨_, rfl⟩
                                          have hbox : w45.heap[gb415]? = some (.cells #[.int .i64 (rd_T32 t402 ji37).f0, .int .i64 (wrap64 (wrap64 ((rd_T32 t402 ji37).f1 + (a0.size : Int)) + 1)), .int .i64 (wrap64 (wrap64 ((rd_T32 t402 ji37).f2 + (a0.size : Int)) + 1)), .string (rd_T32 t402 ji37).f3, .int .i32 (rd_T32 t402 ji37).f4] 32 (0, 0)) := by rw [hg, hw_]; simpa using heap_alloc_new wr _
                                          have hb : Below wr.heap.size wr w45 := by rw [hw_]; exact below_alloc (Below.refl _ _) _
                                          rw [← hw_]
                                          clear hw_
                                          (have n0_ := Aside0.mk (Kd.R_below (Kd.R_elderB (by (with_reducible repeat (first | apply Kd.R_alloc | apply Kd.R_drewN | apply Kd.R_drew)); exact HO_5.out) gb415 (Nat.le_of_eq hg.symm)) hb); have n1_ := Aside0.mk (Kd.R_below (Kd.R_elderB (by (with_reducible repeat (first | apply Kd.R_alloc | apply Kd.R_drewN | apply Kd.R_drew)); exact HO_8.out) gb415 (Nat.le_of_eq hg.symm)) hb); have n2_ := Aside0.mk (Kd.R_below (Kd.R_elderB (by (with_reducible repeat (first | apply Kd.R_alloc | apply Kd.R_drewN | apply Kd.R_drew)); exact HO_11.out) gb415 (Nat.le_of_eq hg.symm)) hb); have n3_ := Aside0.mk (below_step (by repeat (first | (with_reducible first | exact HB.out | apply below_alloc | apply pw_below_drewN | apply below_drew1) | exact HB.out)) hb); have n4_ := Aside0.mk (hbox); have n5_ := Aside0.mk ((by rw [hg]; exact (below_size (by repeat (first | (with_reducible first | exact HB.out | apply below_alloc | apply pw_below_drewN | apply below_drew1) | exact HB.out))) : w.heap.size ≤ gb415)); have n6_ := Aside0.mk ((by rw [hg]; exact (below_size (by repeat (first | (with_reducible first | exact HB.out | apply below_alloc | apply pw_below_drewN | apply below_drew1) | exact HB.out))) : w.heap.size ≤ gb415)); clear HO_5; clear HO_8; clear HO_11; clear HB; have HO_5 := n0_; have HO_8 := n1_; have HO_11 := n2_; have HB := n3_; have BK415 := n4_; have GW415 := n5_; have GE415 := n6_; clear n0_ n1_ n2_ n3_ n4_ n5_ n6_; clear hb hbox hg; have hcz46_0 : w45.cell? ⟨gb415, 0, none⟩ = some (.int .i64 (rd_T32 t402 ji37).f0) := (blk_cell BK415.out 0).trans rfl; have hcz46_1 : w45.cell? ⟨gb415, 1, none⟩ = some (.int .i64 (wrap64 (wrap64 ((rd_T32 t402 ji37).f1 + (a0.size : Int)) + 1))) := (blk_cell BK415.out 1).trans rfl; have hcz46_2 : w45.cell? ⟨gb415, 2, none⟩ = some (.int .i64 (wrap64 (wrap64 ((rd_T32 t402 ji37).f2 + (a0.size : Int)) + 1))) := (blk_cell BK415.out 2).trans rfl; have hcz46_3 : w45.cell? ⟨gb415, 3, none⟩ = some (.string (rd_T32 t402 ji37).f3) := (blk_cell BK415.out 3).trans rfl; have hcz46_4 : w45.cell? ⟨gb415, 4, none⟩ = some (.int .i32 (rd_T32 t402 ji37).f4) := (blk_cell BK415.out 4).trans rfl; have hfz46_0 := blk_frozen BK415.out 0; have hfz46_1 := blk_frozen BK415.out 1; have hfz46_2 := blk_frozen BK415.out 2; have hfz46_3 := blk_frozen BK415.out 3; have hfz46_4 := blk_frozen BK415.out 4; have p416 : 0 ≤ (x14_4 : Int) := of_decide_eq_true (by first | (with_reducible assumption) | assumption); have q416 : x14_4 < (t407.length : Int) := of_decide_eq_true (by first | (with_reducible assumption) | assumption); obtain ⟨ad416, e416, hx416_0, hx416_1, hx416_2, hx416_3, hx416_4⟩ := at_T32 (Kd.R_reads' HO_11.out).2.2 x14_4 p416 q416; cases e416)
                                          repeat (go_quiet (fail); try go_wp2)
                                          go_ret
                                          exact ⟨by first | rfl | (simp [errW_none, errW_some] <;> rfl) | (simp only [← hji37]; first | rfl | (simp [errW_none, errW_some] <;> rfl)) | (simp [*, errW_none, errW_some] <;> rfl), by repeat (first | (with_reducible first | exact HB.out | apply below_alloc | apply pw_below_drewN | apply below_drew1 | refine below_set ?_ GE415.out) | exact HB.out)⟩
                                        · rw [if_neg c41] at H
                                          have c41b0 : (!(((rd_T32 t407 x14_4).f0) == ((rd_T32 t402 (ji37)).f0)) || (!(((rd_T32 t407 x14_4).f1) == (wrap64 ((wrap64 (((rd_T32 t402 (ji37)).f1) + (a0.size : Int))) + 1))) || (!(((rd_T32 t407 x14_4).f2) == (wrap64 ((wrap64 (((rd_T32 t402 (ji37)).f2) + (a0.size : Int))) + 1))) || (!((((rd_T32 t407 x14_4).f3).toList) == (((rd_T32 t402 (ji37)).f3).toList)) || (!(((rd_T32 t407 x14_4).f4) == ((rd_T32 t402 (ji37)).f4))))))) = false := by simpa using c41
                                          clear c41
                                          have H' := Aside0.mk H
                                          clear H
                                          obtain ⟨Ao47, co47, eo47⟩ := Kd.R_slice HO_11.out
                                          subst eo47
                                          obtain ⟨Ao48, co48, eo48⟩ := Kd.R_slice HO_5.out
                                          subst eo48
                                          obtain ⟨Ao49, co49, eo49⟩ := Kd.R_slice HO_8.out
                                          subst eo49
                                          have p414 : 0 ≤ ((ji37) : Int) := of_decide_eq_true (by first | (with_reducible assumption) | assumption)
                                          have q414 : (ji37) < (t402.length : Int) := of_decide_eq_true (by first | (with_reducible assumption) | assumption)
                                          obtain ⟨ad414, e414, hx414_0, hx414_1, hx414_2, hx414_3, hx414_4⟩ := at_T32 (Kd.R_reads' HO_8.out).2.2 (ji37) p414 q414
                                          cases e414
                                          replace p414 := eq_true p414
                                          replace q414 := eq_true q414
                                          go_upto_region 20 with fail
                                          obtain ⟨gb415, hg⟩ : ∃ n, n = wr.heap.size := ⟨_, rfl⟩
                                          rw [← hg]
                                          obtain ⟨w50, hw_⟩ : ∃ W_ : World, W_ = wr.alloc (.cells #[.int .i64 (rd_T32 t402 ji37).f0, .int .i64 (wrap64 (wrap64 ((rd_T32 t402 ji37).f1 + (a0.size : Int)) + 1)), .int .i64 (wrap64 (wrap64 ((rd_T32 t402 ji37).f2 + (a0.size : Int)) + 1)), .string (rd_T32 t402 ji37).f3, .int .i32 (rd_T32 t402 ji37).f4] 32) := ⟨_, rfl⟩
                                          have hbox : w50.heap[gb415]? = some (.cells #[.int .i64 (rd_T32 t402 ji37).f0, .int .i64 (wrap64 (wrap64 ((rd_T32 t402 ji37).f1 + (a0.size : Int)) + 1)), .int .i64 (wrap64 (wrap64 ((rd_T32 t402 ji37).f2 + (a0.size : Int)) + 1)), .string (rd_T32 t402 ji37).f3, .int .i32 (rd_T32 t402 ji37).f4] 32 (0, 0)) := by rw [hg, hw_]; simpa using heap_alloc_new wr _
                                          have hb : Below wr.heap.size wr w50 := by rw [hw_]; exact below_alloc (Below.refl _ _) _
                                          rw [← hw_]
                                          clear hw_
                                          (have n0_ := Aside0.mk (Kd.R_below (Kd.R_elderB (by (with_reducible repeat (first | apply Kd.R_alloc | apply Kd.R_drewN | apply Kd.R_drew)); exact HO_5.out) gb415 (Nat.le_of_eq hg.symm)) hb); have n1_ := Aside0.mk (Kd.R_below (Kd.R_elderB (by (with_reducible repeat (first | apply Kd.R_alloc | apply Kd.R_drewN | apply Kd.R_drew)); exact HO_8.out) gb415 (Nat.le_of_eq hg.symm)) hb); have n2_ := Aside0.mk (Kd.R_below (Kd.R_elderB (by (with_reducible repeat (first | apply Kd.R_alloc | apply Kd.R_drewN | apply Kd.R_drew)); exact HO_11.out) gb415 (Nat.le_of_eq hg.symm)) hb); have n3_ := Aside0.mk (below_step (by repeat (first | (with_reducible first | exact HB.out | apply below_alloc | apply pw_below_drewN | apply below_drew1) | exact HB.out)) hb); have n4_ := Aside0.mk (hbox); have n5_ := Aside0.mk ((by rw [hg]; exact (below_size (by repeat (first | (with_reducible first | exact HB.out | apply below_alloc | apply pw_below_drewN | apply below_drew1) | exact HB.out))) : w.heap.size ≤ gb415)); have n6_ := Aside0.mk ((by rw [hg]; exact (below_size (by repeat (first | (with_reducible first | exact HB.out | apply below_alloc | apply pw_below_drewN | apply below_drew1) | exact HB.out))) : w.heap.size ≤ gb415)); clear HO_5; clear HO_8; clear HO_11; clear HB; have HO_5 := n0_; have HO_8 := n1_; have HO_11 := n2_; have HB := n3_; have BK415 := n4_; have GW415 := n5_; have GE415 := n6_; clear n0_ n1_ n2_ n3_ n4_ n5_ n6_; clear hb hbox hg; have hcz51_0 : w50.cell? ⟨gb415, 0, none⟩ = some (.int .i64 (rd_T32 t402 ji37).f0) := (blk_cell BK415.out 0).trans rfl; have hcz51_1 : w50.cell? ⟨gb415, 1, none⟩ = some (.int .i64 (wrap64 (wrap64 ((rd_T32 t402 ji37).f1 + (a0.size : Int)) + 1))) := (blk_cell BK415.out 1).trans rfl; have hcz51_2 : w50.cell? ⟨gb415, 2, none⟩ = some (.int .i64 (wrap64 (wrap64 ((rd_T32 t402 ji37).f2 + (a0.size : Int)) + 1))) := (blk_cell BK415.out 2).trans rfl; have hcz51_3 : w50.cell? ⟨gb415, 3, none⟩ = some (.string (rd_T32 t402 ji37).f3) := (blk_cell BK415.out 3).trans rfl; have hcz51_4 : w50.cell? ⟨gb415, 4, none⟩ = some (.int .i32 (rd_T32 t402 ji37).f4) := (blk_cell BK415.out 4).trans rfl; have hfz51_0 := blk_frozen BK415.out 0; have hfz51_1 := blk_frozen BK415.out 1; have hfz51_2 := blk_frozen BK415.out 2; have hfz51_3 := blk_frozen BK415.out 3; have hfz51_4 := blk_frozen BK415.out 4; have p416 : 0 ≤ (x14_4 : Int) := of_decide_eq_true (by first | (with_reducible assumption) | assumption); have q416 : x14_4 < (t407.length : Int) := of_decide_eq_true (by first | (with_reducible assumption) | assumption); obtain ⟨ad416, e416, hx416_0, hx416_1, hx416_2, hx416_3, hx416_4⟩ := at_T32 (Kd.R_reads' HO_11.out).2.2 x14_4 p416 q416; cases e416)
                                          repeat (go_quiet (fail); try go_wp2)
                                          go_roundg k4
                                          case measure => have := HJ4.out; have := HJ13.out; have := HJ19.out; have := HK4.out; omega
                                          case rel => exact ⟨(wrap64 (x14_4 + 1)), (by first | rfl | (simp; done) | (simp [*]; done)), H', ⟨by have := HJ4.out; have := HJ13.out; have := HJ19.out; have := HK4.out; omega⟩, ⟨by (with_reducible repeat (first | apply Kd.R_alloc | apply Kd.R_drewN | apply Kd.R_drew)); exact Kd.R_mono HO_5.out (fun _ hk => by first | trivial | exact hk.1 | exact ⟨hk.1.1, hk.1.2⟩ | exact hk)⟩, ⟨by (with_reducible repeat (first | apply Kd.R_alloc | apply Kd.R_drewN | apply Kd.R_drew)); exact Kd.R_mono HO_8.out (fun _ hk => by first | trivial | exact hk.1 | exact ⟨hk.1.1, hk.1.2⟩ | exact hk)⟩, ⟨by (with_reducible repeat (first | apply Kd.R_alloc | apply Kd.R_drewN | apply Kd.R_drew)); exact Kd.R_mono HO_11.out (fun _ hk => by first | trivial | exact hk.1 | exact ⟨hk.1.1, hk.1.2⟩ | exact hk)⟩, ⟨by repeat (first | (with_reducible first | exact HB.out | apply below_alloc | apply pw_below_drewN | apply below_drew1 | refine below_set ?_ GE415.out) | exact HB.out)⟩⟩
                                      · rw [if_neg c40] at H
                                        exact absurd H (by simp)
                                    · rw [if_neg c39] at H
                                      exact absurd H (by simp)
                                  · rw [if_neg c38] at H
                                    exact absurd H (by simp)
                              · rw [if_neg c28] at H
                                have c28b0 : decide (x14_4 < (t407.length : Int)) = false := decide_eq_false c28
                                clear c28
                                obtain rfl := Option.some.inj H
                                obtain ⟨Ao52, co52, eo52⟩ := Kd.R_slice HO_11.out
                                subst eo52
                                go_wp2
                                repeat (go_quiet (fail); try go_wp2)
                                go_ret
                                exact ⟨by first | rfl | (simp [errW_none, errW_some] <;> rfl) | (simp [*, errW_none, errW_some] <;> rfl), by repeat (first | (with_reducible first | exact HB.out | apply below_alloc | apply pw_below_drewN | apply below_drew1) | exact HB.out)⟩
            · rw [if_neg c12] at H
              exact absurd H (by simp)
          · rw [if_neg c11] at H
            exact absurd H (by simp)
  · replace c4 := Bool.eq_false_iff.mpr c4
    subst c4
    have H1 : (some false) = some r := by rw [if_neg (show ¬ (false = true) by decide)] at H; exact H
    clear H
    have H := H1
    clear H1
    obtain rfl := Option.some.inj H
    go_enter Try.func7, Try.ntmps7
    go_wp2_with (first | (go_at_call 8; (with_reducible refine (pascalinelaw08_awake.calls k  false _ A3.out).mono ?_); rintro e w53 ⟨rfl, hb⟩; have n0_ := Aside0.mk (below_step (by repeat (first | (with_reducible first | exact HB.out | apply below_alloc | apply pw_below_drewN | apply below_drew1) | exact HB.out)) hb); clear HB; have HB := n0_; clear n0_; (try clear hb); (try clear hb2); (try clear hk); (try clear hi)))
    repeat (go_quiet (first | (go_at_call 8; (with_reducible refine (pascalinelaw08_awake.calls k  false _ A3.out).mono ?_); rintro e w53 ⟨rfl, hb⟩; have n0_ := Aside0.mk (below_step (by repeat (first | (with_reducible first | exact HB.out | apply below_alloc | apply pw_below_drewN | apply below_drew1) | exact HB.out)) hb); clear HB; have HB := n0_; clear n0_; (try clear hb); (try clear hb2); (try clear hk); (try clear hi))); try go_wp2_with (first | (go_at_call 8; (with_reducible refine (pascalinelaw08_awake.calls k  false _ A3.out).mono ?_); rintro e w53 ⟨rfl, hb⟩; have n0_ := Aside0.mk (below_step (by repeat (first | (with_reducible first | exact HB.out | apply below_alloc | apply pw_below_drewN | apply below_drew1) | exact HB.out)) hb); clear HB; have HB := n0_; clear n0_; (try clear hb); (try clear hb2); (try clear hk); (try clear hi))))
    go_ret
    exact ⟨by first | rfl | (simp [errW_none, errW_some] <;> rfl) | (simp [*, errW_none, errW_some] <;> rfl), by repeat (first | (with_reducible first | exact HB.out | apply below_alloc | apply pw_below_drewN | apply below_drew1) | exact HB.out)⟩

/-- THE ONE PURE STATEMENT of pascalinelaw08_ScanJoins: yours. -/
def pascalinelaw08_ScanJoins.Pure : Prop := ∀ (a0 : ByteArray) (a1 : ByteArray), a0.size ≤ 140737488351232 → a1.size ≤ 140737488351232 → ∃ k, pascalinelaw08_ScanJoins.f k a0 a1 = some true
theorem pascalinelaw08_ScanJoins.walk (P : pascalinelaw08_ScanJoins.Pure) (a0 : ByteArray) (a1 : ByteArray) (w : World) (w0 : a0.size ≤ 140737488351232) (w1 : a1.size ≤ 140737488351232) :
    Calls Try.prog 7 #[.string a0, .string a1] w fun e w' => e = .returned (.bool true) ∧ Below w.heap.size w w' := by
  obtain ⟨k, h⟩ := P a0 a1 w0 w1
  refine (pascalinelaw08_ScanJoins.calls k a0 a1 true w h).mono ?_
  rintro e w' ⟨rfl, hd⟩
  exact ⟨rfl, hd⟩

end Go.Proofs.Ytmalonlbnjiclaa.PAll
