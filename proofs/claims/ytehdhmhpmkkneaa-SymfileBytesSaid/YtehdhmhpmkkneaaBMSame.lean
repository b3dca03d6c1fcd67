/- The texts Sc, Qa, Qb, Qc, one behind the other. -/
import Derived.Lib.Hide
import Derived.Test.YtehdhmhpmkkneaaBMKey
import Derived.Test.YtehdhmhpmkkneaaBPAllx12
import Derived.RegionTactic
import Derived.ChangeAlike
import Derived.Test.YtehdhmhpmkkneaaBPAllx2
import Derived.Test.YtehdhmhpmkkneaaBPAllx1
import Derived.Test.YtehdhmhpmkkneaaBMSym2
/- Which lists of exports are the same: the document's Same. -/
namespace Go.Proofs.Ytehdhmhpmkkneaa
open Go.RowKit Go.Proofs.YtehdhmhpmkkneaaW.PrintWords Go.Proofs.Ytehdhmhpmkkneaa.PAll
theorem cell_old' {w0 w : World} (hb : Below w0.heap.size w0 w) {b off : Nat} {v : Value} (hlt : b < w0.heap.size) (h : w0.cell? ⟨b, off, none⟩ = some v) : w.cell? ⟨b, off, none⟩ = some v :=
  (hb.cell (p := ⟨b, off, none⟩) hlt).trans h
theorem str_eq {a b : ByteArray} : a.toList = b.toList ↔ a = b := by
  refine ⟨fun h => ?_, fun h => by rw [h]⟩
  rw [ByteArray.toList_eq, ByteArray.toList_eq] at h
  obtain ⟨⟨l⟩⟩ := a
  obtain ⟨⟨l'⟩⟩ := b
  simp only at h
  rw [h]
theorem wrap_succ' (i : Nat) (h : i < 9223372036854775807) : wrap64 ((i : Int) + 1) = ((i + 1 : Nat) : Int) := by unfold wrap64; omega
/-- Two lists that agree below i and differ at i. -/
theorem drop_ne {α : Type} {l l' : List α} {i : Nat} (h : i < l.length) (h' : i < l'.length) (hne : l[i] ≠ l'[i]) : l.drop i ≠ l'.drop i := by
  rw [List.drop_eq_getElem_cons h, List.drop_eq_getElem_cons h']
  intro e
  exact hne (by injection e)
theorem drop_succ {α : Type} {l l' : List α} {i : Nat} (h : i < l.length) (h' : i < l'.length) (he : l[i] = l'[i]) : l.drop i = l'.drop i ↔ l.drop (i + 1) = l'.drop (i + 1) := by
  rw [List.drop_eq_getElem_cons h, List.drop_eq_getElem_cons h', he]
  exact ⟨fun e => by injection e, fun e => by rw [e]⟩
theorem params_loop (l l' : List S119) (hL : l.length = l'.length) (hm : l.length ≤ 9223372036854775807) : ∀ (d k i : Nat), i + d = l.length → d < k → ∃ r, pascalineref11_Params.l0 k l l' (i : Int) = some r ∧ (r = true ↔ l.drop i = l'.drop i) := by
  intro d
  induction d with
  | zero =>
    intro k i hi hk
    obtain ⟨k, rfl⟩ : ∃ m, k = m + 1 := ⟨k - 1, by omega⟩
    refine ⟨true, by rw [pascalineref11_Params.l0, if_neg (by omega)], ?_⟩
    rw [List.drop_of_length_le (by omega), List.drop_of_length_le (by omega)]
    simp
  | succ d ih =>
    intro k i hi hk
    obtain ⟨k, rfl⟩ : ∃ m, k = m + 1 := ⟨k - 1, by omega⟩
    have h1 : i < l.length := by omega
    have h2 : i < l'.length := by omega
    have e1 : rd_T119 l (i : Int) = l[i] := by simp [rd_T119, h1]
    have e2 : rd_T119 l' (i : Int) = l'[i] := by simp [rd_T119, h2]
    rw [pascalineref11_Params.l0, if_pos (by omega), if_pos (by omega), if_pos (by omega), e1, e2, wrap_succ' i (by omega)]
    by_cases h : l[i] = l'[i]
    · obtain ⟨r, hr, hp⟩ := ih k (i + 1) (by omega) (by omega)
      refine ⟨r, ?_, by rw [hp, drop_succ h1 h2 h]⟩
      rw [h, if_neg (by simp), hr]
    · refine ⟨false, ?_, ⟨(fun e => by cases e), fun e => absurd e (drop_ne h1 h2 h)⟩⟩
      rw [if_pos]
      cases hx : l[i]
      cases hy : l'[i]
      rw [hx, hy] at h
      simp only [S119.mk.injEq, not_and] at h
      simp only [Bool.or_eq_true, Bool.not_eq_true', beq_eq_false_iff_ne]
      rename_i a b a' b'
      by_cases hab : a = a'
      · exact .inr (h hab)
      · exact .inl hab
theorem rparams (l l' : List S119) (A A' : Option Addr) (c c' : Nat) (w : World) (hr : Kd.C k119 w A l.length l) (hc : l.length ≤ c) (hr' : Kd.C k119 w A' l'.length l') (hc' : l'.length ≤ c') :
    ∃ r, (r = true ↔ l = l') ∧ Calls Try.prog 82 #[.slice A l.length c, .slice A' l'.length c'] w fun e w' => e = .returned (.bool r) ∧ Drawn0 w w' := by
  by_cases h : l.length = l'.length
  · obtain ⟨r, hk, hp⟩ := params_loop l l' h hr.2.1 l.length (l.length + 1) 0 (by omega) (by omega)
    rw [Int.natCast_zero] at hk
    refine ⟨r, by simpa using hp, pascalineref11_Params.calls (l.length + 1) A c l A' c' l' r w hr hc hr' hc' ?_⟩
    unfold pascalineref11_Params.f
    rw [if_pos (by omega), hk]
  · refine ⟨false, ⟨(fun e => by cases e), fun e => absurd (by rw [e]) h⟩, pascalineref11_Params.calls 0 A c l A' c' l' false w hr hc hr' hc' ?_⟩
    unfold pascalineref11_Params.f
    rw [if_neg (by omega)]
/-- A bool is handed back that says whether P; nothing that was there has changed. -/
def SaidB (w : World) (P : Prop) (e : Ending) (w' : World) : Prop := ∃ r, e = .returned (.bool r) ∧ (r = true ↔ P) ∧ Below w.heap.size w w'
theorem rparams' (l l' : List S119) (A A' : Option Addr) (c c' : Nat) (w : World) (r : Bool) (e : r = true ↔ l = l') (hr : Kd.C k119 w A l.length l) (hc : l.length ≤ c) (hr' : Kd.C k119 w A' l'.length l') (hc' : l'.length ≤ c') :
    Calls Try.prog 82 #[.slice A l.length c, .slice A' l'.length c'] w fun e w' => e = .returned (.bool r) ∧ Drawn0 w w' := by
  obtain ⟨r', hr1, hk⟩ := rparams l l' A A' c c' w hr hc hr' hc'
  have : r = r' := by
    cases r <;> cases r' <;> simp_all
  rw [this]
  exact hk
set_option maxHeartbeats 4000000 in
set_option maxRecDepth 100000 in
theorem rsame80 (l l' : List S80) (A A' : Option Addr) (c c' : Nat) (w : World) (hr : Kd.C k80 w A l.length l) (hr' : Kd.C k80 w A' l'.length l') (hL : l.length = l'.length) :
    Calls Try.prog 26 #[.slice A l.length c, .slice A' l'.length c'] w (SaidB w (l = l')) := by
  have HR := Lib.hid hr
  have HR' := Lib.hid hr'
  have l63 := hr.2.1
  have LL := Lib.hid hL
  obtain ⟨P, hP⟩ : ∃ P : Prop, P = (l = l') := ⟨_, rfl⟩
  rw [← hP]
  have HP := Lib.hid hP
  clear hr hr' hP
  go_enter Try.func26, Try.ntmps26
  go_wp2
  clear hL
  go_loopw [4, 5] (fun r4 r5 wr => ∃ (k : Nat), k ≤ l.length ∧ r4 = .bool false ∧ r5 = .int .i64 k ∧ Hid (Below w.heap.size w wr) ∧ Hid (P ↔ l.drop k = l'.drop k)) (fun _ r5 _ => l.length - (intOf r5).toNat)
  case atStart => exact ⟨0, by omega, rfl, rfl, Lib.hid (Below.refl _ _), Lib.hid (by rw [HP.out]; simp)⟩
  case round =>
    obtain ⟨k, hk, rfl, rfl, HB, HI⟩ := hrel
    by_cases hlt : k < l.length
    rotate_left
    · go_wp2
      go_ret
      refine ⟨true, rfl, ?_, HB.out⟩
      rw [HI.out, List.drop_of_length_le (by omega), List.drop_of_length_le (by have := LL.out; omega)]
      simp
    have hlt' : k < l'.length := by have := LL.out; omega
    obtain ⟨b, off, A4, c4, rfl, hbl, x0, x1, x2, x3, x4, l4, g4⟩ := row80 HR.out k hlt
    obtain ⟨b', off', A4', c4', rfl, hbl', x0', x1', x2', x3', x4', l4', g4'⟩ := row80 HR'.out k hlt'
    have q0 := cell_old' HB.out hbl x0
    have q1 := cell_old' HB.out hbl x1
    have q2 := cell_old' HB.out hbl x2
    have q3 := cell_old' HB.out hbl x3
    have q4 := cell_old' HB.out hbl x4
    have q0' := cell_old' HB.out hbl' x0'
    have q1' := cell_old' HB.out hbl' x1'
    have q2' := cell_old' HB.out hbl' x2'
    have q3' := cell_old' HB.out hbl' x3'
    have q4' := cell_old' HB.out hbl' x4'
    have G4 := Lib.hid g4
    have G4' := Lib.hid g4'
    have DN : Hid (l[k] ≠ l'[k] → ¬ P) := Lib.hid (fun h => by rw [HI.out]; exact drop_ne hlt hlt' h)
    have DS : Hid (l[k] = l'[k] → (P ↔ l.drop (k + 1) = l'.drop (k + 1))) := Lib.hid (fun h => by rw [HI.out]; exact drop_succ hlt hlt' h)
    clear x0 x1 x2 x3 x4 x0' x1' x2' x3' x4' g4 g4'
    have bl := World.block_lt_of_cell? _ _ q0
    have bl' := World.block_lt_of_cell? _ _ q0'
    simp only at bl bl'
    generalize l[k] = x at *
    generalize l'[k] = x' at *
    obtain ⟨f0, f1, f2, f3, f4⟩ := x
    obtain ⟨e0, e1, e2, e3, e4⟩ := x'
    simp only at q0 q1 q2 q3 q4 q0' q1' q2' q3' q4' l4 l4'
    by_cases h4 : f4 = e4
    rotate_left
    · have RF : Hid (false = true ↔ f4 = e4) := Lib.hid ⟨(fun h => by cases h), fun h => absurd h h4⟩
      have RN := Lib.hid h4
      clear h4
      go_wp2
      go_region
      all_goals
        go_wp2_with (go_at_call 82; go_must (refine (rparams' f4 e4 A4 A4' c4 c4' _ false RF.out (Kd.C_below G4.out (by repeat (first | with_reducible exact HB.out | with_reducible apply below_drew | with_reducible apply pw_below_drewN | with_reducible apply below_alloc))) l4 (Kd.C_below G4'.out (by repeat (first | with_reducible exact HB.out | with_reducible apply below_drew | with_reducible apply pw_below_drewN | with_reducible apply below_alloc))) l4').mono ?_; rintro e w2 ⟨rfl, d2⟩; have B2 := Lib.hid d2.below; clear d2))
      all_goals
        go_ret
        refine ⟨false, rfl, ⟨(fun h => by cases h), fun h => absurd h (DN.out (fun e => ?_))⟩, ?_⟩
      all_goals first
        | (exfalso; injection e with i0 i1 i2 i3 i4; first | exact (‹¬ f3 = e3› i3) | exact (‹¬ f2 = e2› i2) | exact (‹¬ f1 = e1› i1) | exact (‹¬ f0.toList = e0.toList› (by rw [i0])) | exact RN.out i4)
        | (refine Below.trans ?_ (B2.out.mono (by have := HB.out.size; simp; omega)); (repeat (first | with_reducible exact HB.out | with_reducible apply below_drew | with_reducible apply pw_below_drewN | with_reducible apply below_alloc)); done)
        | ((repeat (first | with_reducible exact HB.out | with_reducible apply below_drew | with_reducible apply pw_below_drewN | with_reducible apply below_alloc)); done)
    · have RE := Lib.hid h4
      clear h4
      go_wp2
      go_region
      all_goals
        go_wp2_with (go_at_call 82; go_must (refine (rparams' f4 e4 A4 A4' c4 c4' _ true (iff_of_true rfl RE.out) (Kd.C_below G4.out (by repeat (first | with_reducible exact HB.out | with_reducible apply below_drew | with_reducible apply pw_below_drewN | with_reducible apply below_alloc))) l4 (Kd.C_below G4'.out (by repeat (first | with_reducible exact HB.out | with_reducible apply below_drew | with_reducible apply pw_below_drewN | with_reducible apply below_alloc))) l4').mono ?_; rintro e w2 ⟨rfl, d2⟩; have B2 := Lib.hid d2.below; clear d2))
      all_goals first
        | (go_ret; refine ⟨false, rfl, ⟨(fun h => by cases h), fun h => absurd h (DN.out (fun e => ?_))⟩, ?_⟩)
        | refine ⟨⟨k + 1, by omega, rfl, by go_num, Lib.hid ?_, Lib.hid (DS.out (by rw [str_eq.1 ‹f0.toList = e0.toList›, ‹f1 = e1›, ‹f2 = e2›, ‹f3 = e3›, RE.out]))⟩, ?_⟩
      all_goals first
        | (exfalso; injection e with i0 i1 i2 i3 i4; first | exact (‹¬ f3 = e3› i3) | exact (‹¬ f2 = e2› i2) | exact (‹¬ f1 = e1› i1) | exact (‹¬ f0.toList = e0.toList› (by rw [i0])))
        | (refine Below.trans ?_ (B2.out.mono (by have := HB.out.size; simp; omega)); (repeat (first | with_reducible exact HB.out | with_reducible apply below_drew | with_reducible apply pw_below_drewN | with_reducible apply below_alloc)); done)
        | ((repeat (first | with_reducible exact HB.out | with_reducible apply below_drew | with_reducible apply pw_below_drewN | with_reducible apply below_alloc)); done)
        | (simp [intOf]; omega)
set_option maxHeartbeats 400000 in
set_option maxRecDepth 100000 in
theorem rsame80_ne (l l' : List S80) (A A' : Option Addr) (c c' : Nat) (w : World) (hL : ((l.length : Int) != (l'.length : Int)) = true) :
    Calls Try.prog 26 #[.slice A l.length c, .slice A' l'.length c'] w fun e w' => e = .returned (.bool false) ∧ w = w' := by
  go_enter Try.func26, Try.ntmps26
  go_wp2
  go_ret
  exact ⟨rfl, rfl⟩
theorem rsame80' (l l' : List S80) (A A' : Option Addr) (c c' : Nat) (w : World) (hr : Kd.C k80 w A l.length l) (hr' : Kd.C k80 w A' l'.length l') :
    Calls Try.prog 26 #[.slice A l.length c, .slice A' l'.length c'] w (SaidB w (l = l')) := by
  by_cases h : l.length = l'.length
  · exact rsame80 l l' A A' c c' w hr hr' h
  · refine (rsame80_ne l l' A A' c c' w (by rw [bne_iff_ne]; omega)).mono ?_
    rintro e w' ⟨rfl, rfl⟩
    exact ⟨false, rfl, ⟨(fun e => by cases e), fun e => absurd (by rw [e]) h⟩, Below.refl _ _⟩
end Go.Proofs.Ytehdhmhpmkkneaa
/- finger.Same, walked. -/
namespace Go.Proofs.Ytehdhmhpmkkneaa
open Go.RowKit Go.Proofs.YtehdhmhpmkkneaaW.PrintWords Go.Proofs.YtehdhmhpmkkneaaW.PrintLast Go.Proofs.YtehdhmhpmkkneaaW.PrintMore Go.Proofs.Ytehdhmhpmkkneaa.PAll
attribute [local go_sem high] eqA119
set_option maxHeartbeats 400000 in
set_option maxRecDepth 100000 in
theorem fsame_ne (l l' : List S80) (A A' : Option Addr) (c c' : Nat) (w : World) (hL : ((l.length : Int) != (l'.length : Int)) = true) :
    Calls Try.prog 27 #[.slice A l.length c, .slice A' l'.length c'] w fun e w' => e = .returned (.bool false) ∧ w = w' := by
  go_enter Try.func27, Try.ntmps27
  go_wp2
  go_ret
  exact ⟨rfl, rfl⟩
theorem pw_below_drewN' {B : Nat} {w W : World} (h : Below B w W) (m : Nat) : Below B w (W.drewN m) := ⟨h.os, h.tape, h.output, h.size, h.block⟩
set_option maxHeartbeats 4000000 in
set_option maxRecDepth 100000 in
theorem fsame_eq (a b : List S80) (A A' : Option Addr) (c c' : Nat) (w : World) (hr : Kd.C k80 w A a.length a) (hr' : Kd.C k80 w A' b.length b) (hL : a.length = b.length) :
    Calls Try.prog 27 #[.slice A a.length c, .slice A' b.length c'] w (SaidB w (a = b)) := by
  have HR := Lib.hid hr
  have HR' := Lib.hid hr'
  have l63 := hr.2.1
  have LL := Lib.hid hL
  have hn : ((a.length : Int) != (b.length : Int)) = false := by rw [hL]; simp
  obtain ⟨P, hP⟩ : ∃ P : Prop, P = (a = b) := ⟨_, rfl⟩
  rw [← hP]
  have HP := Lib.hid hP
  clear hr hr' hP hL
  go_enter Try.func27, Try.ntmps27
  go_wp2
  clear hn
  go_loopw [17] (fun r17 wr => ∃ (k : Nat), k ≤ a.length ∧ r17 = .int .i64 k ∧ Hid (Below w.heap.size w wr) ∧ Hid (P ↔ a.drop k = b.drop k)) (fun r17 _ => a.length - (intOf r17).toNat)
  case atStart => exact ⟨0, by omega, rfl, Lib.hid (Below.refl _ _), Lib.hid (by rw [HP.out]; simp)⟩
  case round =>
    obtain ⟨k, hk, rfl, HB, HI⟩ := hrel
    by_cases hlt : k < a.length
    rotate_left
    · go_wp2
      go_ret
      refine ⟨true, rfl, ?_, HB.out⟩
      rw [HI.out, List.drop_of_length_le (by omega), List.drop_of_length_le (by have := LL.out; omega)]
      simp
    have hlt' : k < b.length := by have := LL.out; omega
    obtain ⟨bk, off, A4, c4, rfl, hbl, x0, x1, x2, x3, x4, l4, g4⟩ := row80 HR.out k hlt
    obtain ⟨bk', off', A4', c4', rfl, hbl', x0', x1', x2', x3', x4', l4', g4'⟩ := row80 HR'.out k hlt'
    have q0 := cell_old' HB.out hbl x0
    have q1 := cell_old' HB.out hbl x1
    have q2 := cell_old' HB.out hbl x2
    have q3 := cell_old' HB.out hbl x3
    have q4 := cell_old' HB.out hbl x4
    have q0' := cell_old' HB.out hbl' x0'
    have q1' := cell_old' HB.out hbl' x1'
    have q2' := cell_old' HB.out hbl' x2'
    have q3' := cell_old' HB.out hbl' x3'
    have q4' := cell_old' HB.out hbl' x4'
    have G4 := Lib.hid (Kd.C_below g4 HB.out)
    have G4' := Lib.hid (Kd.C_below g4' HB.out)
    have DN : Hid (a[k] ≠ b[k] → ¬ P) := Lib.hid (fun h => by rw [HI.out]; exact drop_ne hlt hlt' h)
    have DS : Hid (a[k] = b[k] → (P ↔ a.drop (k + 1) = b.drop (k + 1))) := Lib.hid (fun h => by rw [HI.out]; exact drop_succ hlt hlt' h)
    clear x0 x1 x2 x3 x4 x0' x1' x2' x3' x4' g4 g4'
    have bl := World.block_lt_of_cell? _ _ q0
    have bl' := World.block_lt_of_cell? _ _ q0'
    simp only at bl bl'
    generalize a[k] = x at *
    generalize b[k] = x' at *
    obtain ⟨f0, f1, f2, f3, f4⟩ := x
    obtain ⟨e0, e1, e2, e3, e4⟩ := x'
    simp only at q0 q1 q2 q3 q4 q0' q1' q2' q3' q4' l4 l4'
    have W2 : Hid (Below w.heap.size w ((wr.alloc (.cells #[.string f0, .int .i64 f1, .int .i64 f2, .int .i32 f3, .slice A4 f4.length c4] 80)).alloc (.cells #[.string e0, .int .i64 e1, .int .i64 e2, .int .i32 e3, .slice A4' e4.length c4'] 80))) := Lib.hid ((HB.out.alloc HB.out.size _).alloc (Nat.le_trans HB.out.size (by simp)) _)
    by_cases d0 : f0 = e0
    rotate_left
    · have t0 : ¬ f0.toList = e0.toList := fun e => d0 (str_eq.1 e)
      have D := Lib.hid (DN.out (fun e => d0 (by injection e)))
      clear d0
      go_wp2
      go_ret
      exact ⟨false, rfl, ⟨(fun h => by cases h), fun h => absurd h D.out⟩, W2.out⟩
    subst d0
    by_cases d1 : f1 = e1
    rotate_left
    · have t1 : ¬ f1 = e1 := d1
      have D := Lib.hid (DN.out (fun e => d1 (by injection e)))
      clear d1
      go_wp2
      go_ret
      exact ⟨false, rfl, ⟨(fun h => by cases h), fun h => absurd h D.out⟩, W2.out⟩
    subst d1
    by_cases d2 : f2 = e2
    rotate_left
    · have t2 : ¬ f2 = e2 := d2
      have D := Lib.hid (DN.out (fun e => d2 (by injection e)))
      clear d2
      go_wp2
      go_ret
      exact ⟨false, rfl, ⟨(fun h => by cases h), fun h => absurd h D.out⟩, W2.out⟩
    subst d2
    by_cases d3 : f3 = e3
    rotate_left
    · have t3 : ¬ f3 = e3 := d3
      have D := Lib.hid (DN.out (fun e => d3 (by injection e)))
      clear d3
      go_wp2
      go_ret
      exact ⟨false, rfl, ⟨(fun h => by cases h), fun h => absurd h D.out⟩, W2.out⟩
    subst d3
    by_cases d4 : f4.length = e4.length
    rotate_left
    · have t4 : ((f4.length : Int) != (e4.length : Int)) = true := by rw [bne_iff_ne]; omega
      have D := Lib.hid (DN.out (fun e => d4 (by injection e with _ _ _ _ h; rw [h])))
      clear d4
      go_wp2
      go_ret
      exact ⟨false, rfl, ⟨(fun h => by cases h), fun h => absurd h D.out⟩, W2.out⟩
    have t4 : ((f4.length : Int) != (e4.length : Int)) = false := by rw [d4]; simp
    have L4 := Lib.hid d4
    have P63 := G4.out.2.1
    clear d4
    have HI4 : Hid (P ↔ (f4 = e4 ∧ a.drop (k + 1) = b.drop (k + 1))) := Lib.hid (by
      by_cases h : f4 = e4
      · rw [DS.out (by rw [h])]
        simp [h]
      · exact ⟨fun p => absurd p (DN.out (fun e => h (by injection e))), fun p => absurd p.1 h⟩)
    obtain ⟨V, HV⟩ : ∃ V, Hid (V = (wr.alloc (.cells #[.string f0, .int .i64 f1, .int .i64 f2, .int .i32 f3, .slice A4 f4.length c4] 80)).alloc (.cells #[.string f0, .int .i64 f1, .int .i64 f2, .int .i32 f3, .slice A4' e4.length c4'] 80)) := ⟨_, Lib.hid rfl⟩
    obtain ⟨N, HN⟩ : ∃ N, Hid (N = wr.heap.size + 1) := ⟨_, Lib.hid rfl⟩
    have KN : V.heap[N]? = some (.cells #[.string f0, .int .i64 f1, .int .i64 f2, .int .i32 f3, .slice A4' e4.length c4'] 80) := by
      rw [HV.out, HN.out]
      simpa using heap_alloc_new (wr.alloc (.cells #[.string f0, .int .i64 f1, .int .i64 f2, .int .i32 f3, .slice A4 f4.length c4] 80)) (.cells #[.string f0, .int .i64 f1, .int .i64 f2, .int .i32 f3, .slice A4' e4.length c4'] 80)
    have VN := Lib.hid (blk_lt KN)
    have n4 := blk_cell KN 4
    simp only [List.getElem?_toArray, List.getElem?_cons_zero, List.getElem?_cons_succ] at n4
    have BV : Hid (Below wr.heap.size wr V) := Lib.hid (by rw [HV.out]; exact ((Below.refl _ _).alloc (Nat.le_refl _) _).alloc (by simp) _)
    have BW : Hid (Below w.heap.size w V) := Lib.hid (by rw [HV.out]; exact W2.out)
    have GV := Lib.hid (Kd.C_below G4.out BV.out)
    have GV' := Lib.hid (Kd.C_below G4'.out BV.out)
    clear KN W2 BV G4 G4'
    go_wp2
    rw [← HV.out, ← HN.out]
    clear q0 q1 q2 q3 q4 q0' q1' q2' q3' q4' bl bl' t4
    obtain ⟨wo, rfl⟩ : ∃ wo : World, wo = wr := ⟨_, rfl⟩
    go_loopw [64] (fun r64 w2 => ∃ (j : Nat), j ≤ f4.length ∧ r64 = .int .i64 j ∧ Hid (Below V.heap.size V w2) ∧ Hid (P ↔ (f4.drop j = e4.drop j ∧ a.drop (k + 1) = b.drop (k + 1)))) (fun r64 _ => f4.length - (intOf r64).toNat)
    case atStart => exact ⟨0, by omega, rfl, Lib.hid (Below.refl _ _), Lib.hid (by rw [HI4.out]; simp)⟩
    case round =>
      obtain ⟨j, hj, rfl, B2, J2⟩ := hrel
      have bw2 := Lib.hid (BW.out.trans (B2.out.mono BW.out.size))
      by_cases hjl : j < f4.length
      rotate_left
      · have JE : Hid (P ↔ a.drop (k + 1) = b.drop (k + 1)) := Lib.hid (by
          rw [J2.out, List.drop_of_length_le (by omega), List.drop_of_length_le (by have := L4.out; omega)]
          simp)
        go_wp2
        go_roundw
        case rel => exact ⟨k + 1, by omega, by go_num, bw2, JE⟩
        case measure => simp [intOf]; omega
      have hjl' : j < e4.length := by have := L4.out; omega
      obtain ⟨b2, off2, rfl, hbl2, y0, y1⟩ := row119 GV.out j hjl
      obtain ⟨b3, off3, rfl, hbl3, z0, z1⟩ := row119 GV'.out j hjl'
      have m4 := (B2.out.cell (p := ⟨N, 4, none⟩) VN.out).trans n4
      have u0 := cell_old' B2.out hbl2 y0
      have u1 := cell_old' B2.out hbl2 y1
      have v0 := cell_old' B2.out hbl3 z0
      have v1 := cell_old' B2.out hbl3 z1
      have DN2 : Hid (f4[j] ≠ e4[j] → ¬ P) := Lib.hid (fun h p => drop_ne hjl hjl' h (J2.out.1 p).1)
      have DS2 : Hid (f4[j] = e4[j] → (P ↔ (f4.drop (j + 1) = e4.drop (j + 1) ∧ a.drop (k + 1) = b.drop (k + 1)))) := Lib.hid (fun h => by rw [J2.out, drop_succ hjl hjl' h])
      have bN : N < wr.heap.size := Nat.lt_of_lt_of_le VN.out B2.out.size
      have bb2 := World.block_lt_of_cell? _ _ u0
      have bb3 := World.block_lt_of_cell? _ _ v0
      simp only at bb2 bb3
      clear y0 y1 z0 z1 n4
      generalize f4[j] = pp at *
      generalize e4[j] = qq at *
      obtain ⟨p0, p1⟩ := pp
      obtain ⟨r0, r1⟩ := qq
      simp only at u0 u1 v0 v1
      have ba : Hid (Below w.heap.size w (wr.alloc (.cells #[.int .i64 p0, .bool p1] 119))) := Lib.hid (bw2.out.alloc bw2.out.size _)
      by_cases hp : p0 = r0 ∧ p1 = r1
      · obtain ⟨rfl, rfl⟩ := hp
        have JE := Lib.hid (DS2.out rfl)
        have BB : Hid (Below V.heap.size V (wr.alloc (.cells #[.int .i64 p0, .bool p1] 119))) := Lib.hid (B2.out.alloc B2.out.size _)
        go_wp2
        go_quiet (fail)
        go_wp2
        go_roundw
        case rel => exact ⟨j + 1, hjl, by go_num, Lib.hid (pw_below_drewN' BB.out _), JE⟩
        case measure => simp [intOf]; omega
      · have D := Lib.hid (DN2.out (fun e => hp (by injection e with h1 h2; exact ⟨h1, h2⟩)))
        have hq : (p0 == r0 && (p1 == r1)) = false := by
          cases h : (p0 == r0 && (p1 == r1))
          · rfl
          · rw [Bool.and_eq_true, beq_iff_eq, beq_iff_eq] at h
            exact absurd h hp
        clear hp
        go_wp2
        go_quiet (fail)
        go_wp2
        go_ret
        exact ⟨false, rfl, ⟨(fun h => by cases h), fun h => absurd h D.out⟩, pw_below_drewN ba.out _⟩
theorem fsame' (a b : List S80) (A A' : Option Addr) (c c' : Nat) (w : World) (hr : Kd.C k80 w A a.length a) (hr' : Kd.C k80 w A' b.length b) :
    Calls Try.prog 27 #[.slice A a.length c, .slice A' b.length c'] w (SaidB w (a = b)) := by
  by_cases h : a.length = b.length
  · exact fsame_eq a b A A' c c' w hr hr' h
  · refine (fsame_ne a b A A' c c' w (by rw [bne_iff_ne]; omega)).mono ?_
    rintro e w' ⟨rfl, rfl⟩
    exact ⟨false, rfl, ⟨(fun e => by cases e), fun e => absurd (by rw [e]) h⟩, Below.refl _ _⟩
end Go.Proofs.Ytehdhmhpmkkneaa
/- Which imports are the same, and which files: walked. -/
namespace Go.Proofs.Ytehdhmhpmkkneaa
open Go.RowKit Go.Proofs.YtehdhmhpmkkneaaW.PrintWords Go.Proofs.YtehdhmhpmkkneaaW.PrintLast Go.Proofs.YtehdhmhpmkkneaaW.PrintMore Go.Proofs.Ytehdhmhpmkkneaa.PAll
attribute [local go_sem high] eqA93
/-- An element of a row of imports. -/
theorem row93 {w : World} {A : Option Addr} {xs : List S93} (h : Kd.C k93 w A xs.length xs) (k : Nat) (hk : k < xs.length) :
    ∃ b off, A = some ⟨b, off, none⟩ ∧ b < w.heap.size ∧ w.cell? ⟨b, off + k * 2, none⟩ = some (.string xs[k].f0) ∧ w.cell? ⟨b, off + k * 2 + 1, none⟩ = some (.int .u32 xs[k].f1) := by
  obtain ⟨ad, rfl, d0, _⟩ := at_T93 h (0 : Int) (by omega) (by omega)
  obtain ⟨b, off, rfl⟩ := plain_of d0
  obtain ⟨ad, e0, c0, c1⟩ := at_T93 h (k : Int) (by omega) (by omega)
  injection e0 with e0
  subst e0
  simp only [Int.toNat_natCast] at c0 c1
  rw [plain_add] at c0 c1
  have ex : rd_T93 xs (k : Int) = xs[k] := by simp [rd_T93, hk]
  rw [ex] at c0 c1
  exact ⟨b, off, rfl, World.block_lt_of_cell? _ _ c0, c0, c1⟩
theorem uses_ne (l l' : List S93) (A A' : Option Addr) (c c' : Nat) (w : World) (hL : ((l.length : Int) != (l'.length : Int)) = true) :
    Calls Try.prog 66 #[.slice A l.length c, .slice A' l'.length c'] w fun e w' => e = .returned (.bool false) ∧ w = w' := by
  go_enter Try.func66, Try.ntmps66
  go_wp2
  go_ret
  exact ⟨rfl, rfl⟩
set_option maxHeartbeats 2000000 in
set_option maxRecDepth 100000 in
theorem uses_eq (a b : List S93) (A A' : Option Addr) (c c' : Nat) (w : World) (hr : Kd.C k93 w A a.length a) (hr' : Kd.C k93 w A' b.length b) (hL : a.length = b.length) :
    Calls Try.prog 66 #[.slice A a.length c, .slice A' b.length c'] w (SaidB w (a = b)) := by
  have HR := Lib.hid hr
  have HR' := Lib.hid hr'
  have l63 := hr.2.1
  have LL := Lib.hid hL
  have hn : ((a.length : Int) != (b.length : Int)) = false := by rw [hL]; simp
  obtain ⟨P, hP⟩ : ∃ P : Prop, P = (a = b) := ⟨_, rfl⟩
  rw [← hP]
  have HP := Lib.hid hP
  clear hr hr' hP hL
  go_enter Try.func66, Try.ntmps66
  go_wp2
  clear hn
  go_loopw [5] (fun r5 wr => ∃ (k : Nat), k ≤ a.length ∧ r5 = .int .i64 k ∧ Hid (Below w.heap.size w wr) ∧ Hid (P ↔ a.drop k = b.drop k)) (fun r5 _ => a.length - (intOf r5).toNat)
  case atStart => exact ⟨0, by omega, rfl, Lib.hid (Below.refl _ _), Lib.hid (by rw [HP.out]; simp)⟩
  case round =>
    obtain ⟨k, hk, rfl, HB, HI⟩ := hrel
    by_cases hlt : k < a.length
    rotate_left
    · go_wp2
      go_ret
      refine ⟨true, rfl, ?_, HB.out⟩
      rw [HI.out, List.drop_of_length_le (by omega), List.drop_of_length_le (by have := LL.out; omega)]
      simp
    have hlt' : k < b.length := by have := LL.out; omega
    have hlz : (k : Int) < (b.length : Int) := by omega
    obtain ⟨bk, off, rfl, hbl, x0, x1⟩ := row93 HR.out k hlt
    obtain ⟨bk', off', rfl, hbl', x0', x1'⟩ := row93 HR'.out k hlt'
    have q0 := cell_old' HB.out hbl x0
    have q1 := cell_old' HB.out hbl x1
    have q0' := cell_old' HB.out hbl' x0'
    have q1' := cell_old' HB.out hbl' x1'
    have DN : Hid (a[k] ≠ b[k] → ¬ P) := Lib.hid (fun h => by rw [HI.out]; exact drop_ne hlt hlt' h)
    have DS : Hid (a[k] = b[k] → (P ↔ a.drop (k + 1) = b.drop (k + 1))) := Lib.hid (fun h => by rw [HI.out]; exact drop_succ hlt hlt' h)
    clear x0 x1 x0' x1'
    generalize a[k] = x at *
    generalize b[k] = x' at *
    obtain ⟨f0, f1⟩ := x
    obtain ⟨e0, e1⟩ := x'
    simp only at q0 q1 q0' q1'
    by_cases hp : f0 = e0 ∧ f1 = e1
    · obtain ⟨rfl, rfl⟩ := hp
      have JE := Lib.hid (DS.out rfl)
      go_wp2
      go_quiet (fail)
      go_wp2
      go_roundw
      case rel => exact ⟨k + 1, hlt, by go_num, Lib.hid (pw_below_drewN' HB.out _), JE⟩
      case measure => simp [intOf]; omega
    · have D := Lib.hid (DN.out (fun e => hp (by injection e with h1 h2; exact ⟨h1, h2⟩)))
      have hq : (f0.toList == e0.toList && (f1 == e1)) = false := by
        cases h : (f0.toList == e0.toList && (f1 == e1))
        · rfl
        · rw [Bool.and_eq_true, beq_iff_eq, beq_iff_eq] at h
          exact absurd ⟨str_eq.1 h.1, h.2⟩ hp
      clear hp
      go_wp2
      go_quiet (fail)
      go_wp2
      go_ret
      exact ⟨false, rfl, ⟨(fun h => by cases h), fun h => absurd h D.out⟩, pw_below_drewN' HB.out _⟩
theorem uses' (a b : List S93) (A A' : Option Addr) (c c' : Nat) (w : World) (hr : Kd.C k93 w A a.length a) (hr' : Kd.C k93 w A' b.length b) :
    Calls Try.prog 66 #[.slice A a.length c, .slice A' b.length c'] w (SaidB w (a = b)) := by
  by_cases h : a.length = b.length
  · exact uses_eq a b A A' c c' w hr hr' h
  · refine (uses_ne a b A A' c c' w (by rw [bne_iff_ne]; omega)).mono ?_
    rintro e w' ⟨rfl, rfl⟩
    exact ⟨false, rfl, ⟨(fun e => by cases e), fun e => absurd (by rw [e]) h⟩, Below.refl _ _⟩
end Go.Proofs.Ytehdhmhpmkkneaa
/- Whether a file is the document's, and whether two are alike: walked. -/
namespace Go.Proofs.Ytehdhmhpmkkneaa
open Go.RowKit Go.Proofs.YtehdhmhpmkkneaaW.PrintWords Go.Proofs.YtehdhmhpmkkneaaW.PrintLast Go.Proofs.YtehdhmhpmkkneaaW.PrintMore Go.Proofs.Ytehdhmhpmkkneaa.PAll
attribute [local go_sem high] eqA93
set_option maxHeartbeats 2000000 in
set_option maxRecDepth 100000 in
theorem file_is (m m' : ByteArray) (z z' : Int) (A2 A3 A2' A3' : Option Addr) (c2 c3 c2' c3' : Nat) (l2 l2' : List S93) (l3 l3' : List S80) (w : World) (h : FileAt A2 A3 c2 c3 l2 l3 w) (h' : FileAt A2' A3' c2' c3' l2' l3' w) :
    Calls Try.prog 60 #[fileV m z A2 A3 l2.length l3.length c2 c3, fileV m' z' A2' A3' l2'.length l3'.length c2' c3'] w (SaidB w (m = m' ∧ z = z' ∧ l2 = l2' ∧ l3 = l3')) := by
  have F := Lib.hid h
  have F' := Lib.hid h'
  clear h h'
  obtain ⟨P, hP⟩ : ∃ P : Prop, P = (m = m' ∧ z = z' ∧ l2 = l2' ∧ l3 = l3') := ⟨_, rfl⟩
  rw [← hP]
  have HP := Lib.hid hP
  clear hP
  obtain ⟨W, HW⟩ : ∃ W, Hid (W = (w.alloc (.cells #[.string m, .int .u32 z, .slice A2 l2.length c2, .slice A3 l3.length c3] 75)).alloc (.cells #[.string m', .int .u32 z', .slice A2' l2'.length c2', .slice A3' l3'.length c3'] 85)) := ⟨_, Lib.hid rfl⟩
  obtain ⟨N, HN⟩ : ∃ N, Hid (N = w.heap.size) := ⟨_, Lib.hid rfl⟩
  have K0 : W.heap[N]? = some (.cells #[.string m, .int .u32 z, .slice A2 l2.length c2, .slice A3 l3.length c3] 75) := by
    rw [HW.out, HN.out]
    simpa using (Below.heap_alloc (w.alloc (.cells #[.string m, .int .u32 z, .slice A2 l2.length c2, .slice A3 l3.length c3] 75)) (.cells #[.string m', .int .u32 z', .slice A2' l2'.length c2', .slice A3' l3'.length c3'] 85) w.heap.size (by simp)).trans (heap_alloc_new w (.cells #[.string m, .int .u32 z, .slice A2 l2.length c2, .slice A3 l3.length c3] 75))
  have K1 : W.heap[N + 1]? = some (.cells #[.string m', .int .u32 z', .slice A2' l2'.length c2', .slice A3' l3'.length c3'] 85) := by
    rw [HW.out, HN.out]
    simpa using heap_alloc_new (w.alloc (.cells #[.string m, .int .u32 z, .slice A2 l2.length c2, .slice A3 l3.length c3] 75)) (.cells #[.string m', .int .u32 z', .slice A2' l2'.length c2', .slice A3' l3'.length c3'] 85)
  have x0 := blk_cell K0 0
  have x1 := blk_cell K0 1
  have x2 := blk_cell K0 2
  have x3 := blk_cell K0 3
  have y0 := blk_cell K1 0
  have y1 := blk_cell K1 1
  have y2 := blk_cell K1 2
  have y3 := blk_cell K1 3
  simp only [List.getElem?_toArray, List.getElem?_cons_zero, List.getElem?_cons_succ] at x0 x1 x2 x3 y0 y1 y2 y3
  have N0 := Lib.hid (blk_lt K0)
  have N1 := Lib.hid (blk_lt K1)
  have bW : Below w.heap.size w W := by rw [HW.out]; exact ((Below.refl _ _).alloc (Nat.le_refl _) _).alloc (by simp) _
  have BW := Lib.hid bW
  have G := Lib.hid (F.out.below bW)
  have G' := Lib.hid (F'.out.below bW)
  clear K0 K1 bW F F'
  by_cases d0 : m = m'
  rotate_left
  · have t0 : ¬ m.toList = m'.toList := fun e => d0 (str_eq.1 e)
    have D : Hid (¬ P) := Lib.hid (by rw [HP.out]; exact fun p => d0 p.1)
    clear d0
    go_enter Try.func60, Try.ntmps60
    go_wp2
    rw [← HW.out]
    go_ret
    exact ⟨false, rfl, ⟨(fun h => by cases h), fun h => absurd h D.out⟩, BW.out⟩
  subst d0
  by_cases d1 : z = z'
  rotate_left
  · have t1 : (z == z') = false := beq_eq_false_iff_ne.2 d1
    have t1' : ¬ z = z' := d1
    have D : Hid (¬ P) := Lib.hid (by rw [HP.out]; exact fun p => d1 p.2.1)
    clear d1
    go_enter Try.func60, Try.ntmps60
    go_wp2
    rw [← HW.out]
    go_ret
    exact ⟨false, rfl, ⟨(fun h => by cases h), fun h => absurd h D.out⟩, BW.out⟩
  subst d1
  go_enter Try.func60, Try.ntmps60
  go_wp2_with fail
  rw [← HW.out]
  refine (uses' l2 l2' A2 A2' c2 c2' _ G.out.r2 G'.out.r2).mono ?_
  rintro e w1 ⟨r, rfl, hr, b1⟩
  have B1 := Lib.hid (BW.out.trans (b1.mono BW.out.size))
  have R1 := Lib.hid hr
  replace x3 := (b1.cell (p := ⟨N, 3, none⟩) N0.out).trans x3
  replace y3 := (b1.cell (p := ⟨N + 1, 3, none⟩) N1.out).trans y3
  have G1 := Lib.hid (G.out.below b1)
  have G1' := Lib.hid (G'.out.below b1)
  clear hr b1 G G' x0 x1 x2 y0 y1 y2
  rw [← HN.out]
  cases r
  · have D : Hid (¬ P) := Lib.hid (by rw [HP.out]; exact fun p => by have := R1.out.2 p.2.2.1; cases this)
    go_wp2
    go_ret
    exact ⟨false, rfl, ⟨(fun h => by cases h), fun h => absurd h D.out⟩, B1.out⟩
  have E2 := Lib.hid (R1.out.1 rfl)
  clear R1
  go_wp2_with fail
  refine (rsame80' l3 l3' A3 A3' c3 c3' _ G1.out.r3 G1'.out.r3).mono ?_
  rintro e w2 ⟨r, rfl, hr, b2⟩
  have B2 := Lib.hid (B1.out.trans (b2.mono B1.out.size))
  have R2 := Lib.hid hr
  clear hr b2
  go_wp2
  go_ret
  exact ⟨r, rfl, ⟨fun h => by rw [HP.out]; exact ⟨trivial, trivial, E2.out, R2.out.1 h⟩, fun p => by rw [HP.out] at p; exact R2.out.2 p.2.2.2⟩, B2.out⟩
set_option maxHeartbeats 4000000 in
set_option maxRecDepth 100000 in
theorem file_same (m m' : ByteArray) (z z' : Int) (A2 A3 A2' A3' : Option Addr) (c2 c3 c2' c3' : Nat) (l2 l2' : List S93) (l3 l3' : List S80) (w : World) (h : FileAt A2 A3 c2 c3 l2 l3 w) (h' : FileAt A2' A3' c2' c3' l2' l3' w) :
    Calls Try.prog 61 #[fileV m z A2 A3 l2.length l3.length c2 c3, fileV m' z' A2' A3' l2'.length l3'.length c2' c3'] w (SaidB w (m = m' ∧ z = z' ∧ l2 = l2' ∧ l3 = l3')) := by
  have F := Lib.hid h
  have F' := Lib.hid h'
  clear h h'
  obtain ⟨P, hP⟩ : ∃ P : Prop, P = (m = m' ∧ z = z' ∧ l2 = l2' ∧ l3 = l3') := ⟨_, rfl⟩
  rw [← hP]
  have HP := Lib.hid hP
  clear hP
  obtain ⟨W, HW⟩ : ∃ W, Hid (W = (w.alloc (.cells #[.string m, .int .u32 z, .slice A2 l2.length c2, .slice A3 l3.length c3] 75)).alloc (.cells #[.string m', .int .u32 z', .slice A2' l2'.length c2', .slice A3' l3'.length c3'] 75)) := ⟨_, Lib.hid rfl⟩
  obtain ⟨N, HN⟩ : ∃ N, Hid (N = w.heap.size) := ⟨_, Lib.hid rfl⟩
  have K0 : W.heap[N]? = some (.cells #[.string m, .int .u32 z, .slice A2 l2.length c2, .slice A3 l3.length c3] 75) := by
    rw [HW.out, HN.out]
    simpa using (Below.heap_alloc (w.alloc (.cells #[.string m, .int .u32 z, .slice A2 l2.length c2, .slice A3 l3.length c3] 75)) (.cells #[.string m', .int .u32 z', .slice A2' l2'.length c2', .slice A3' l3'.length c3'] 75) w.heap.size (by simp)).trans (heap_alloc_new w (.cells #[.string m, .int .u32 z, .slice A2 l2.length c2, .slice A3 l3.length c3] 75))
  have K1 : W.heap[N + 1]? = some (.cells #[.string m', .int .u32 z', .slice A2' l2'.length c2', .slice A3' l3'.length c3'] 75) := by
    rw [HW.out, HN.out]
    simpa using heap_alloc_new (w.alloc (.cells #[.string m, .int .u32 z, .slice A2 l2.length c2, .slice A3 l3.length c3] 75)) (.cells #[.string m', .int .u32 z', .slice A2' l2'.length c2', .slice A3' l3'.length c3'] 75)
  have x0 := blk_cell K0 0
  have x1 := blk_cell K0 1
  have x2 := blk_cell K0 2
  have x3 := blk_cell K0 3
  have y0 := blk_cell K1 0
  have y1 := blk_cell K1 1
  have y2 := blk_cell K1 2
  have y3 := blk_cell K1 3
  simp only [List.getElem?_toArray, List.getElem?_cons_zero, List.getElem?_cons_succ] at x0 x1 x2 x3 y0 y1 y2 y3
  have N0 := Lib.hid (blk_lt K0)
  have N1 := Lib.hid (blk_lt K1)
  have bW : Below w.heap.size w W := by rw [HW.out]; exact ((Below.refl _ _).alloc (Nat.le_refl _) _).alloc (by simp) _
  have BW := Lib.hid bW
  have G := Lib.hid (F.out.below bW)
  have G' := Lib.hid (F'.out.below bW)
  clear K0 K1 bW F F'
  by_cases d0 : m = m'
  rotate_left
  · have t0 : ¬ m.toList = m'.toList := fun e => d0 (str_eq.1 e)
    have D : Hid (¬ P) := Lib.hid (by rw [HP.out]; exact fun p => d0 p.1)
    clear d0
    go_enter Try.func61, Try.ntmps61
    go_wp2
    rw [← HW.out]
    go_ret
    exact ⟨false, rfl, ⟨(fun h => by cases h), fun h => absurd h D.out⟩, BW.out⟩
  subst d0
  by_cases d1 : z = z'
  rotate_left
  · have t1 : ¬ z = z' := d1
    have D : Hid (¬ P) := Lib.hid (by rw [HP.out]; exact fun p => d1 p.2.1)
    clear d1
    go_enter Try.func61, Try.ntmps61
    go_wp2
    rw [← HW.out]
    go_ret
    exact ⟨false, rfl, ⟨(fun h => by cases h), fun h => absurd h D.out⟩, BW.out⟩
  subst d1
  by_cases d2 : l2.length = l2'.length
  rotate_left
  · have t2 : ((l2.length : Int) != (l2'.length : Int)) = true := by rw [bne_iff_ne]; omega
    have D : Hid (¬ P) := Lib.hid (by rw [HP.out]; exact fun p => d2 (by rw [p.2.2.1]))
    clear d2
    go_enter Try.func61, Try.ntmps61
    go_wp2
    rw [← HW.out]
    go_ret
    exact ⟨false, rfl, ⟨(fun h => by cases h), fun h => absurd h D.out⟩, BW.out⟩
  have hn : ((l2.length : Int) != (l2'.length : Int)) = false := by rw [d2]; simp
  have LL := Lib.hid d2
  have l63 := G.out.r2.2.1
  clear d2
  go_enter Try.func61, Try.ntmps61
  go_wp2
  rw [← HW.out, ← HN.out]
  clear hn
  go_loopw [31] (fun r31 wr => ∃ (k : Nat), k ≤ l2.length ∧ r31 = .int .i64 k ∧ Hid (Below W.heap.size W wr) ∧ Hid (P ↔ (l2.drop k = l2'.drop k ∧ l3 = l3'))) (fun r31 _ => l2.length - (intOf r31).toNat)
  case atStart => exact ⟨0, by omega, rfl, Lib.hid (Below.refl _ _), Lib.hid (by rw [HP.out]; simp)⟩
  case round =>
    obtain ⟨k, hk, rfl, HB, HI⟩ := hrel
    have bw := Lib.hid (BW.out.trans (HB.out.mono BW.out.size))
    have u2 := (HB.out.cell (p := ⟨N + 1, 2, none⟩) N1.out).trans y2
    have u3 := (HB.out.cell (p := ⟨N + 1, 3, none⟩) N1.out).trans y3
    have v3 := (HB.out.cell (p := ⟨N, 3, none⟩) N0.out).trans x3
    have bN : N + 1 < wr.heap.size := Nat.lt_of_lt_of_le N1.out HB.out.size
    have bN0 : N < wr.heap.size := Nat.lt_of_lt_of_le N0.out HB.out.size
    clear x0 x1 x2 x3 y0 y1 y2 y3
    by_cases hlt : k < l2.length
    rotate_left
    · have JE : Hid (P ↔ l3 = l3') := Lib.hid (by
        rw [HI.out, List.drop_of_length_le (by omega), List.drop_of_length_le (by have := LL.out; omega)]
        simp)
      have G1 := Lib.hid (Kd.C_below G.out.r3 HB.out)
      have G1' := Lib.hid (Kd.C_below G'.out.r3 HB.out)
      go_wp2_with fail
      refine (fsame' l3 l3' A3 A3' c3 c3' _ G1.out G1'.out).mono ?_
      rintro e w2 ⟨r, rfl, hr, b2⟩
      have B2 := Lib.hid (bw.out.trans (b2.mono bw.out.size))
      have R2 := Lib.hid hr
      clear hr b2
      go_wp2
      go_ret
      exact ⟨r, rfl, R2.out.trans JE.out.symm, B2.out⟩
    have hlt' : k < l2'.length := by have := LL.out; omega
    obtain ⟨bk, off, rfl, hbl, x0, x1⟩ := row93 G.out.r2 k hlt
    obtain ⟨bk', off', rfl, hbl', x0', x1'⟩ := row93 G'.out.r2 k hlt'
    have q0 := cell_old' HB.out hbl x0
    have q1 := cell_old' HB.out hbl x1
    have q0' := cell_old' HB.out hbl' x0'
    have q1' := cell_old' HB.out hbl' x1'
    have DN : Hid (l2[k] ≠ l2'[k] → ¬ P) := Lib.hid (fun h p => drop_ne hlt hlt' h (HI.out.1 p).1)
    have DS : Hid (l2[k] = l2'[k] → (P ↔ (l2.drop (k + 1) = l2'.drop (k + 1) ∧ l3 = l3'))) := Lib.hid (fun h => by rw [HI.out, drop_succ hlt hlt' h])
    have bb2 := World.block_lt_of_cell? _ _ q0
    have bb3 := World.block_lt_of_cell? _ _ q0'
    simp only at bb2 bb3
    clear x0 x1 x0' x1'
    generalize l2[k] = x at *
    generalize l2'[k] = x' at *
    obtain ⟨f0, f1⟩ := x
    obtain ⟨e0, e1⟩ := x'
    simp only at q0 q1 q0' q1'
    have ba := Lib.hid (bw.out.alloc bw.out.size (.cells #[.string f0, .int .u32 f1] 93))
    by_cases hp : f0 = e0 ∧ f1 = e1
    · obtain ⟨rfl, rfl⟩ := hp
      have JE := Lib.hid (DS.out rfl)
      have BB := Lib.hid (HB.out.alloc HB.out.size (.cells #[.string f0, .int .u32 f1] 93))
      go_wp2
      go_quiet (fail)
      go_wp2
      go_roundw
      case rel => exact ⟨k + 1, hlt, by go_num, Lib.hid (pw_below_drewN' BB.out _), JE⟩
      case measure => simp [intOf]; omega
    · have D := Lib.hid (DN.out (fun e => hp (by injection e with h1 h2; exact ⟨h1, h2⟩)))
      have hq : (f0.toList == e0.toList && (f1 == e1)) = false := by
        cases h : (f0.toList == e0.toList && (f1 == e1))
        · rfl
        · rw [Bool.and_eq_true, beq_iff_eq, beq_iff_eq] at h
          exact absurd ⟨str_eq.1 h.1, h.2⟩ hp
      clear hp
      go_wp2
      go_quiet (fail)
      go_wp2
      go_ret
      exact ⟨false, rfl, ⟨(fun h => by cases h), fun h => absurd h D.out⟩, pw_below_drewN' ba.out _⟩
end Go.Proofs.Ytehdhmhpmkkneaa
