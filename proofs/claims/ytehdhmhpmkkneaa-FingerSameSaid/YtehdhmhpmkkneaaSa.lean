/- Layer 11/13: the document's Same (which lists of exports are the same): the walk. -/
import Derived.Test.YtehdhmhpmkkneaaFw
import Derived.Test.YtehdhmhpmkkneaaPAllx12
import Derived.RegionTactic
import Derived.ChangeAlike
namespace Go.Proofs.Ytehdhmhpmkkneaa
open Go.RowKit Go.Proofs.YtehdhmhpmkkneaaW.PrintWords Go.Proofs.Ytehdhmhpmkkneaa.PAll

theorem cell_old' {w0 w : World} (hb : Below w0.heap.size w0 w) {b off : Nat} {v : Value} (hlt : b < w0.heap.size) (h : w0.cell? ⟨b, off, none⟩ = some v) : w.cell? ⟨b, off, none⟩ = some v :=
  (hb.cell (p := ⟨b, off, none⟩) hlt).trans h
theorem str_eq {a b : ByteArray} : a.toList = b.toList ↔ a = b := by
  refine ⟨fun h => ?_, fun h => by rw [h]⟩
  rw [ByteArray.toList_eq, ByteArray.toList_eq] at h
  obtain ⟨⟨l⟩⟩ := a
  obtain ⟨⟨l'⟩⟩ := b
  simp only at h
  rw [h]
theorem wrap_succ' (i : Nat) (h : i < 9223372036854775807) : wrap64 ((i : Int) + 1) = ((i + 1 : Nat) : Int) := by unfold wrap64; omega
/-- Two lists that agree below i and differ at i. -/
theorem drop_ne {α : Type} {l l' : List α} {i : Nat} (h : i < l.length) (h' : i < l'.length) (hne : l[i] ≠ l'[i]) : l.drop i ≠ l'.drop i := by
  rw [List.drop_eq_getElem_cons h, List.drop_eq_getElem_cons h']
  intro e
  exact hne (by injection e)
theorem drop_succ {α : Type} {l l' : List α} {i : Nat} (h : i < l.length) (h' : i < l'.length) (he : l[i] = l'[i]) : l.drop i = l'.drop i ↔ l.drop (i + 1) = l'.drop (i + 1) := by
  rw [List.drop_eq_getElem_cons h, List.drop_eq_getElem_cons h', he]
  exact ⟨fun e => by injection e, fun e => by rw [e]⟩

theorem params_loop (l l' : List S119) (hL : l.length = l'.length) (hm : l.length ≤ 9223372036854775807) : ∀ (d k i : Nat), i + d = l.length → d < k → ∃ r, pascalineref11_Params.l0 k l l' (i : Int) = some r ∧ (r = true ↔ l.drop i = l'.drop i) := by
  intro d
  induction d with
  | zero =>
    intro k i hi hk
    obtain ⟨k, rfl⟩ : ∃ m, k = m + 1 := ⟨k - 1, by omega⟩
    refine ⟨true, by rw [pascalineref11_Params.l0, if_neg (by omega)], ?_⟩
    rw [List.drop_of_length_le (by omega), List.drop_of_length_le (by omega)]
    simp
  | succ d ih =>
    intro k i hi hk
    obtain ⟨k, rfl⟩ : ∃ m, k = m + 1 := ⟨k - 1, by omega⟩
    have h1 : i < l.length := by omega
    have h2 : i < l'.length := by omega
    have e1 : rd_T119 l (i : Int) = l[i] := by simp [rd_T119, h1]
    have e2 : rd_T119 l' (i : Int) = l'[i] := by simp [rd_T119, h2]
    rw [pascalineref11_Params.l0, if_pos (by omega), if_pos (by omega), if_pos (by omega), e1, e2, wrap_succ' i (by omega)]
    by_cases h : l[i] = l'[i]
    · obtain ⟨r, hr, hp⟩ := ih k (i + 1) (by omega) (by omega)
      refine ⟨r, ?_, by rw [hp, drop_succ h1 h2 h]⟩
      rw [h, if_neg (by simp), hr]
    · refine ⟨false, ?_, ⟨(fun e => by cases e), fun e => absurd e (drop_ne h1 h2 h)⟩⟩
      rw [if_pos]
      cases hx : l[i]
      cases hy : l'[i]
      rw [hx, hy] at h
      simp only [S119.mk.injEq, not_and] at h
      simp only [Bool.or_eq_true, Bool.not_eq_true', beq_eq_false_iff_ne]
      rename_i a b a' b'
      by_cases hab : a = a'
      · exact .inr (h hab)
      · exact .inl hab

theorem rparams (l l' : List S119) (A A' : Option Addr) (c c' : Nat) (w : World) (hr : Kd.C k119 w A l.length l) (hc : l.length ≤ c) (hr' : Kd.C k119 w A' l'.length l') (hc' : l'.length ≤ c') :
    ∃ r, (r = true ↔ l = l') ∧ Calls Try.prog 82 #[.slice A l.length c, .slice A' l'.length c'] w fun e w' => e = .returned (.bool r) ∧ Drawn0 w w' := by
  by_cases h : l.length = l'.length
  · obtain ⟨r, hk, hp⟩ := params_loop l l' h hr.2.1 l.length (l.length + 1) 0 (by omega) (by omega)
    rw [Int.natCast_zero] at hk
    refine ⟨r, by simpa using hp, pascalineref11_Params.calls (l.length + 1) A c l A' c' l' r w hr hc hr' hc' ?_⟩
    unfold pascalineref11_Params.f
    rw [if_pos (by omega), hk]
  · refine ⟨false, ⟨(fun e => by cases e), fun e => absurd (by rw [e]) h⟩, pascalineref11_Params.calls 0 A c l A' c' l' false w hr hc hr' hc' ?_⟩
    unfold pascalineref11_Params.f
    rw [if_neg (by omega)]

/-- A bool is handed back that says whether P; nothing that was there has changed. -/
def SaidB (w : World) (P : Prop) (e : Ending) (w' : World) : Prop := ∃ r, e = .returned (.bool r) ∧ (r = true ↔ P) ∧ Below w.heap.size w w'

theorem rparams' (l l' : List S119) (A A' : Option Addr) (c c' : Nat) (w : World) (r : Bool) (e : r = true ↔ l = l') (hr : Kd.C k119 w A l.length l) (hc : l.length ≤ c) (hr' : Kd.C k119 w A' l'.length l') (hc' : l'.length ≤ c') :
    Calls Try.prog 82 #[.slice A l.length c, .slice A' l'.length c'] w fun e w' => e = .returned (.bool r) ∧ Drawn0 w w' := by
  obtain ⟨r', hr1, hk⟩ := rparams l l' A A' c c' w hr hc hr' hc'
  have : r = r' := by
    cases r <;> cases r' <;> simp_all
  rw [this]
  exact hk
theorem bool_of (P : Prop) : ∃ r : Bool, (r = true ↔ P) := by
  by_cases h : P
  · exact ⟨true, by simp [h]⟩
  · exact ⟨false, by simp [h]⟩

set_option maxHeartbeats 4000000 in
set_option maxRecDepth 100000 in
theorem rsame80 (l l' : List S80) (A A' : Option Addr) (c c' : Nat) (w : World) (hr : Kd.C k80 w A l.length l) (hr' : Kd.C k80 w A' l'.length l') (hL : l.length = l'.length) :
    Calls Try.prog 26 #[.slice A l.length c, .slice A' l'.length c'] w (SaidB w (l = l')) := by
  have HR := Lib.hid hr
  have HR' := Lib.hid hr'
  have l63 := hr.2.1
  have LL := Lib.hid hL
  obtain ⟨P, hP⟩ : ∃ P : Prop, P = (l = l') := ⟨_, rfl⟩
  rw [← hP]
  have HP := Lib.hid hP
  clear hr hr' hP
  go_enter Try.func26, Try.ntmps26
  go_wp2
  clear hL
  go_loopw [4, 5] (fun r4 r5 wr => ∃ (k : Nat), k ≤ l.length ∧ r4 = .bool false ∧ r5 = .int .i64 k ∧ Hid (Below w.heap.size w wr) ∧ Hid (P ↔ l.drop k = l'.drop k)) (fun _ r5 _ => l.length - (intOf r5).toNat)
  case atStart => exact ⟨0, by omega, rfl, rfl, Lib.hid (Below.refl _ _), Lib.hid (by rw [HP.out]; simp)⟩
  case round =>
    obtain ⟨k, hk, rfl, rfl, HB, HI⟩ := hrel
    by_cases hlt : k < l.length
    rotate_left
    · go_wp2
      go_ret
      refine ⟨true, rfl, ?_, HB.out⟩
      rw [HI.out, List.drop_of_length_le (by omega), List.drop_of_length_le (by have := LL.out; omega)]
      simp
    have hlt' : k < l'.length := by have := LL.out; omega
    obtain ⟨b, off, A4, c4, rfl, hbl, x0, x1, x2, x3, x4, l4, g4⟩ := row80 HR.out k hlt
    obtain ⟨b', off', A4', c4', rfl, hbl', x0', x1', x2', x3', x4', l4', g4'⟩ := row80 HR'.out k hlt'
    have q0 := cell_old' HB.out hbl x0
    have q1 := cell_old' HB.out hbl x1
    have q2 := cell_old' HB.out hbl x2
    have q3 := cell_old' HB.out hbl x3
    have q4 := cell_old' HB.out hbl x4
    have q0' := cell_old' HB.out hbl' x0'
    have q1' := cell_old' HB.out hbl' x1'
    have q2' := cell_old' HB.out hbl' x2'
    have q3' := cell_old' HB.out hbl' x3'
    have q4' := cell_old' HB.out hbl' x4'
    have G4 := Lib.hid g4
    have G4' := Lib.hid g4'
    have DN : Hid (l[k] ≠ l'[k] → ¬ P) := Lib.hid (fun h => by rw [HI.out]; exact drop_ne hlt hlt' h)
    have DS : Hid (l[k] = l'[k] → (P ↔ l.drop (k + 1) = l'.drop (k + 1))) := Lib.hid (fun h => by rw [HI.out]; exact drop_succ hlt hlt' h)
    clear x0 x1 x2 x3 x4 x0' x1' x2' x3' x4' g4 g4'
    have bl := World.block_lt_of_cell? _ _ q0
    have bl' := World.block_lt_of_cell? _ _ q0'
    simp only at bl bl'
    generalize l[k] = x at *
    generalize l'[k] = x' at *
    obtain ⟨f0, f1, f2, f3, f4⟩ := x
    obtain ⟨e0, e1, e2, e3, e4⟩ := x'
    simp only at q0 q1 q2 q3 q4 q0' q1' q2' q3' q4' l4 l4'
    by_cases h4 : f4 = e4
    rotate_left
    · have RF : Hid (false = true ↔ f4 = e4) := Lib.hid ⟨(fun h => by cases h), fun h => absurd h h4⟩
      have RN := Lib.hid h4
      clear h4
      go_wp2
      go_region
      all_goals
        go_wp2_with (go_at_call 82; go_must (refine (rparams' f4 e4 A4 A4' c4 c4' _ false RF.out (Kd.C_below G4.out (by repeat (first | with_reducible exact HB.out | with_reducible apply below_drew | with_reducible apply pw_below_drewN | with_reducible apply below_alloc))) l4 (Kd.C_below G4'.out (by repeat (first | with_reducible exact HB.out | with_reducible apply below_drew | with_reducible apply pw_below_drewN | with_reducible apply below_alloc))) l4').mono ?_; rintro e w2 ⟨rfl, d2⟩; have B2 := Lib.hid d2.below; clear d2))
      all_goals
        go_ret
        refine ⟨false, rfl, ⟨(fun h => by cases h), fun h => absurd h (DN.out (fun e => ?_))⟩, ?_⟩
      all_goals first
        | (exfalso; injection e with i0 i1 i2 i3 i4; first | exact (‹¬ f3 = e3› i3) | exact (‹¬ f2 = e2› i2) | exact (‹¬ f1 = e1› i1) | exact (‹¬ f0.toList = e0.toList› (by rw [i0])) | exact RN.out i4)
        | (refine Below.trans ?_ (B2.out.mono (by have := HB.out.size; simp; omega)); (repeat (first | with_reducible exact HB.out | with_reducible apply below_drew | with_reducible apply pw_below_drewN | with_reducible apply below_alloc)); done)
        | ((repeat (first | with_reducible exact HB.out | with_reducible apply below_drew | with_reducible apply pw_below_drewN | with_reducible apply below_alloc)); done)
    · have RE := Lib.hid h4
      clear h4
      go_wp2
      go_region
      all_goals
        go_wp2_with (go_at_call 82; go_must (refine (rparams' f4 e4 A4 A4' c4 c4' _ true (iff_of_true rfl RE.out) (Kd.C_below G4.out (by repeat (first | with_reducible exact HB.out | with_reducible apply below_drew | with_reducible apply pw_below_drewN | with_reducible apply below_alloc))) l4 (Kd.C_below G4'.out (by repeat (first | with_reducible exact HB.out | with_reducible apply below_drew | with_reducible apply pw_below_drewN | with_reducible apply below_alloc))) l4').mono ?_; rintro e w2 ⟨rfl, d2⟩; have B2 := Lib.hid d2.below; clear d2))
      all_goals first
        | (go_ret; refine ⟨false, rfl, ⟨(fun h => by cases h), fun h => absurd h (DN.out (fun e => ?_))⟩, ?_⟩)
        | refine ⟨⟨k + 1, by omega, rfl, by go_num, Lib.hid ?_, Lib.hid (DS.out (by rw [str_eq.1 ‹f0.toList = e0.toList›, ‹f1 = e1›, ‹f2 = e2›, ‹f3 = e3›, RE.out]))⟩, ?_⟩
      all_goals first
        | (exfalso; injection e with i0 i1 i2 i3 i4; first | exact (‹¬ f3 = e3› i3) | exact (‹¬ f2 = e2› i2) | exact (‹¬ f1 = e1› i1) | exact (‹¬ f0.toList = e0.toList› (by rw [i0])))
        | (refine Below.trans ?_ (B2.out.mono (by have := HB.out.size; simp; omega)); (repeat (first | with_reducible exact HB.out | with_reducible apply below_drew | with_reducible apply pw_below_drewN | with_reducible apply below_alloc)); done)
        | ((repeat (first | with_reducible exact HB.out | with_reducible apply below_drew | with_reducible apply pw_below_drewN | with_reducible apply below_alloc)); done)
        | (simp [intOf]; omega)
end Go.Proofs.Ytehdhmhpmkkneaa
