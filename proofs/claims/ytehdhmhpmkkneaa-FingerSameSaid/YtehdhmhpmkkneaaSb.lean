/- Which lists of exports are the same: the document's Same (any lengths) and finger.Same (printed). -/
import Derived.Test.YtehdhmhpmkkneaaSa
import Derived.Test.YtehdhmhpmkkneaaPAllx13
namespace Go.Proofs.Ytehdhmhpmkkneaa
open Go.RowKit Go.Proofs.YtehdhmhpmkkneaaW.PrintWords Go.Proofs.Ytehdhmhpmkkneaa.PAll

set_option maxHeartbeats 400000 in
set_option maxRecDepth 100000 in
theorem rsame80_ne (l l' : List S80) (A A' : Option Addr) (c c' : Nat) (w : World) (hL : ((l.length : Int) != (l'.length : Int)) = true) :
    Calls Try.prog 26 #[.slice A l.length c, .slice A' l'.length c'] w fun e w' => e = .returned (.bool false) ∧ w = w' := by
  go_enter Try.func26, Try.ntmps26
  go_wp2
  go_ret
  exact ⟨rfl, rfl⟩

theorem rsame80' (l l' : List S80) (A A' : Option Addr) (c c' : Nat) (w : World) (hr : Kd.C k80 w A l.length l) (hr' : Kd.C k80 w A' l'.length l') :
    Calls Try.prog 26 #[.slice A l.length c, .slice A' l'.length c'] w (SaidB w (l = l')) := by
  by_cases h : l.length = l'.length
  · exact rsame80 l l' A A' c c' w hr hr' h
  · refine (rsame80_ne l l' A A' c c' w (by rw [bne_iff_ne]; omega)).mono ?_
    rintro e w' ⟨rfl, rfl⟩
    exact ⟨false, rfl, ⟨(fun e => by cases e), fun e => absurd (by rw [e]) h⟩, Below.refl _ _⟩

theorem fsame_in (a b : List S80) (i : Nat) (n : Int) (p q : List S119) (s : ByteArray) (f1 f2 f3 : Int) (hL : p.length = q.length) (hm : p.length ≤ 9223372036854775807) (hi : i < 9223372036854775807) : ∀ (d k j : Nat), j + d = p.length →
    (p.drop j = q.drop j → finger_Same.l1 (k + d + 1) b a n (i : Int) p (p.length : Int) (j : Int) s f1 f2 f3 q = finger_Same.l0 k b a n ((i + 1 : Nat) : Int)) ∧ (p.drop j ≠ q.drop j → finger_Same.l1 (k + d + 1) b a n (i : Int) p (p.length : Int) (j : Int) s f1 f2 f3 q = some false) := by
  intro d
  induction d with
  | zero =>
    intro k j hj
    refine ⟨fun _ => by rw [finger_Same.l1, if_neg (by omega), wrap_succ' i hi], fun h => absurd ?_ h⟩
    rw [List.drop_of_length_le (by omega), List.drop_of_length_le (by omega)]
  | succ d ih =>
    intro k j hj
    have h1 : j < p.length := by omega
    have h2 : j < q.length := by omega
    have e1 : rd_T119 p (j : Int) = p[j] := by simp [rd_T119, h1]
    have e2 : rd_T119 q (j : Int) = q[j] := by simp [rd_T119, h2]
    obtain ⟨i1, i2⟩ := ih k (j + 1) (by omega)
    rw [finger_Same.l1, if_pos (by omega), if_pos (by omega), if_pos (by omega), if_pos (by omega), e1, e2, wrap_succ' j (by omega), show k + (d + 1) = k + d + 1 from rfl]
    by_cases h : p[j] = q[j]
    · have hb : ¬ ((!(p[j].f0 == q[j].f0) || !(p[j].f1 == q[j].f1)) = true) := by rw [h]; simp
      rw [if_neg hb]
      exact ⟨fun e => i1 ((drop_succ h1 h2 h).1 e), fun e => i2 (fun e' => e ((drop_succ h1 h2 h).2 e'))⟩
    · have hb : (!(p[j].f0 == q[j].f0) || !(p[j].f1 == q[j].f1)) = true := by
        cases hx : p[j]
        cases hy : q[j]
        rw [hx, hy] at h
        simp only [S119.mk.injEq, not_and] at h
        simp only [Bool.or_eq_true, Bool.not_eq_true', beq_eq_false_iff_ne]
        rename_i x y x' y'
        by_cases hab : x = x'
        · exact .inr (h hab)
        · exact .inl hab
      rw [if_pos hb]
      exact ⟨fun e => absurd e (drop_ne h1 h2 h), fun _ => rfl⟩

/-- The rounds that a list takes. -/
def roundsS : List S80 → Nat
  | [] => 1
  | x :: r => x.f4.length + 3 + roundsS r

theorem fsame_out (a b : List S80) (hL : a.length = b.length) (hm : a.length ≤ 9223372036854775807) (ok : ∀ x ∈ a, Ok80 x) : ∀ (d i : Nat), i + d = a.length → ∃ r, finger_Same.l0 (roundsS (a.drop i)) b a (a.length : Int) (i : Int) = some r ∧ (r = true ↔ a.drop i = b.drop i) := by
  intro d
  induction d with
  | zero =>
    intro i hi
    have e : a.drop i = [] := List.drop_of_length_le (by omega)
    refine ⟨true, ?_, ?_⟩
    · rw [e]
      show finger_Same.l0 (0 + 1) b a (a.length : Int) (i : Int) = _
      rw [finger_Same.l0, if_neg (by omega)]
    · rw [e, List.drop_of_length_le (by omega)]
      simp
  | succ d ih =>
    intro i hi
    have h1 : i < a.length := by omega
    have h2 : i < b.length := by omega
    have e1 : rd_T80 a (i : Int) = a[i] := by simp [rd_T80, h1]
    have e2 : rd_T80 b (i : Int) = b[i] := by simp [rd_T80, h2]
    obtain ⟨r, hr, hp⟩ := ih (i + 1) (by omega)
    obtain ⟨_, _, _, _, o4, _⟩ := ok _ (List.getElem_mem h1)
    have o4' : a[i].f4.length ≤ 9223372036854775807 := by unfold maxLen at o4; omega
    rw [List.drop_eq_getElem_cons h1]
    rw [← List.drop_eq_getElem_cons h1]
    have hd := List.drop_eq_getElem_cons h1
    have hR : roundsS (a.drop i) = (roundsS (a.drop (i + 1)) + a[i].f4.length + 1) + 1 + 1 := by rw [hd]; simp only [roundsS]; omega
    rw [hR, finger_Same.l0, if_pos (by omega), if_pos (by omega), if_pos (by omega), if_pos (by omega), e1, e2]
    have bad : ∀ (K : Nat) x60 x1 x2 x3 x4 x5 y1 y2 y3 y4 y5, x60 = true → finger_Same.j1 (K + 1) b a (a.length : Int) (i : Int) x60 x1 x2 x3 x4 x5 y1 y2 y3 y4 y5 = some false := by
      intro K x60 x1 x2 x3 x4 x5 y1 y2 y3 y4 y5 h
      rw [finger_Same.j1, if_pos h]
    have ff : a[i] ≠ b[i] → (false = true ↔ a.drop i = b.drop i) := fun h => ⟨(fun e => by cases e), fun e => absurd e (drop_ne h1 h2 h)⟩
    by_cases c0 : a[i].f0 = b[i].f0
    rotate_left
    · rw [if_neg (fun e => c0 (str_eq.1 e)), bad _ _ _ _ _ _ _ _ _ _ _ _ rfl]
      exact ⟨false, rfl, ff (fun e => c0 (by rw [e]))⟩
    rw [if_pos (str_eq.2 c0)]
    by_cases c1 : a[i].f1 = b[i].f1
    rotate_left
    · rw [if_neg c1, bad _ _ _ _ _ _ _ _ _ _ _ _ rfl]
      exact ⟨false, rfl, ff (fun e => c1 (by rw [e]))⟩
    rw [if_pos c1]
    by_cases c2 : a[i].f2 = b[i].f2
    rotate_left
    · rw [if_neg c2, bad _ _ _ _ _ _ _ _ _ _ _ _ rfl]
      exact ⟨false, rfl, ff (fun e => c2 (by rw [e]))⟩
    rw [if_pos c2]
    by_cases c3 : a[i].f3 = b[i].f3
    rotate_left
    · rw [if_neg c3, bad _ _ _ _ _ _ _ _ _ _ _ _ rfl]
      exact ⟨false, rfl, ff (fun e => c3 (by rw [e]))⟩
    rw [if_pos c3]
    by_cases c4 : a[i].f4.length = b[i].f4.length
    rotate_left
    · rw [bad _ _ _ _ _ _ _ _ _ _ _ _ (by rw [bne_iff_ne]; omega)]
      exact ⟨false, rfl, ff (fun e => c4 (by rw [e]))⟩
    rw [finger_Same.j1, if_neg (by rw [bne_iff_ne]; omega)]
    obtain ⟨g1, g2⟩ := fsame_in a b i (a.length : Int) a[i].f4 b[i].f4 b[i].f0 b[i].f1 b[i].f2 b[i].f3 c4 o4' (by omega) a[i].f4.length (roundsS (a.drop (i + 1))) 0 (by omega)
    rw [Int.natCast_zero, List.drop_zero, List.drop_zero] at g1 g2
    by_cases c5 : a[i].f4 = b[i].f4
    · have he : a[i] = b[i] := by
        revert c0 c1 c2 c3 c5
        cases a[i]
        cases b[i]
        simp only
        intro c0 c1 c2 c3 c5
        rw [c0, c1, c2, c3, c5]
      rw [g1 c5]
      exact ⟨r, hr, by rw [hp, drop_succ h1 h2 he]⟩
    · rw [g2 c5]
      exact ⟨false, rfl, ff (fun e => c5 (by rw [e]))⟩

theorem fsame (a b : List S80) (A A' : Option Addr) (c c' : Nat) (w : World) (hr : Kd.C k80 w A a.length a) (hc : a.length ≤ c) (hr' : Kd.C k80 w A' b.length b) (hc' : b.length ≤ c') (ok : ∀ x ∈ a, Ok80 x) :
    Calls Try.prog 27 #[.slice A a.length c, .slice A' b.length c'] w (SaidB w (a = b)) := by
  by_cases h : a.length = b.length
  · obtain ⟨r, h1, h2⟩ := fsame_out a b h hr.2.1 ok a.length 0 (by omega)
    rw [Int.natCast_zero, List.drop_zero] at h1
    rw [List.drop_zero, List.drop_zero] at h2
    refine (finger_Same.calls (roundsS a) A c a A' c' b r w hr hc hr' hc' ?_).mono ?_
    · unfold finger_Same.f
      rw [if_pos (by omega), h1]
    · rintro e w' ⟨rfl, hb⟩
      exact ⟨r, rfl, h2, hb⟩
  · refine (finger_Same.calls 0 A c a A' c' b false w hr hc hr' hc' ?_).mono ?_
    · unfold finger_Same.f
      rw [if_neg (by omega)]
    · rintro e w' ⟨rfl, hb⟩
      exact ⟨false, rfl, ⟨(fun e => by cases e), fun e => absurd (by rw [e]) h⟩, hb⟩
end Go.Proofs.Ytehdhmhpmkkneaa
