/- Layer 13: the walk of the law FingerKeys. -/
import Derived.Test.YtehdhmhpmkkneaaFk
namespace Go.Proofs.Ytehdhmhpmkkneaa
open Go.RowKit Go.Proofs.YtehdhmhpmkkneaaW.PrintWords Go.Proofs.Ytehdhmhpmkkneaa.PAll

/-- A list that the laws try. -/
def Small (l : List S80) : Prop := l.length ≤ 60 ∧ ∀ x ∈ l, x.f0.size ≤ 200 ∧ x.f4.length ≤ 60

theorem small_loop (l : List S80) (hl : l.length ≤ 60) : ∀ (d k i : Nat), i + d = l.length → d < k → ∃ r, pascalinelaw13_small.l0 k l (i : Int) = some r ∧ (r = true → ∀ x ∈ l.drop i, x.f0.size ≤ 200 ∧ x.f4.length ≤ 60) := by
  intro d
  induction d with
  | zero =>
    intro k i hi hk
    obtain ⟨k, rfl⟩ : ∃ m, k = m + 1 := ⟨k - 1, by omega⟩
    refine ⟨true, by rw [pascalinelaw13_small.l0, if_neg (by omega)], fun _ x hx => ?_⟩
    rw [List.drop_of_length_le (by omega)] at hx
    cases hx
  | succ d ih =>
    intro k i hi hk
    obtain ⟨k, rfl⟩ : ∃ m, k = m + 1 := ⟨k - 1, by omega⟩
    have hil : i < l.length := by omega
    have e1 : rd_T80 l (i : Int) = l[i] := by simp [rd_T80, hil]
    rw [pascalinelaw13_small.l0, if_pos (by omega), if_pos (by omega), e1, wrap_succ i (by omega)]
    by_cases h1 : (l[i].f0.size : Int) > 200
    · exact ⟨false, by rw [if_pos h1], fun h => by cases h⟩
    by_cases h2 : (l[i].f4.length : Int) > 60
    · exact ⟨false, by rw [if_neg h1, if_pos h2], fun h => by cases h⟩
    obtain ⟨r, hr, hp⟩ := ih k (i + 1) (by omega) (by omega)
    refine ⟨r, by rw [if_neg h1, if_neg h2, hr], fun h x hx => ?_⟩
    rw [List.drop_eq_getElem_cons hil] at hx
    rcases List.mem_cons.1 hx with rfl | hx
    · omega
    · exact hp h x hx

theorem lsmall (l : List S80) (A : Option Addr) (c : Nat) (w : World) (hr : Kd.C k80 w A l.length l) (hc : l.length ≤ c) :
    ∃ r, (r = true → Small l) ∧ Calls Try.prog 21 #[.slice A l.length c] w fun e w' => e = .returned (.bool r) ∧ Drawn0 w w' := by
  by_cases h : l.length ≤ 60
  · obtain ⟨r, hk, hp⟩ := small_loop l h l.length (l.length + 1) 0 (by omega) (by omega)
    rw [Int.natCast_zero] at hk
    refine ⟨r, fun e => ⟨h, by simpa using hp e⟩, pascalinelaw13_small.calls (l.length + 1) A c l r w hr hc ?_⟩
    unfold pascalinelaw13_small.f
    rw [if_neg (by omega), hk]
  · refine ⟨false, (fun e => by cases e), pascalinelaw13_small.calls 0 A c l false w hr hc ?_⟩
    unfold pascalinelaw13_small.f
    rw [if_pos (by omega)]

theorem parB_len (p : S119) (ok : Ok119 p) : (parB p).length ≤ 18 := by
  have h1 := cnt_len9 (n := p.f0.toNat) (by have := (bd64 ok).2; omega)
  have h2 := cnt_len9 (n := if p.f1 = true then 1 else 0) (by split <;> omega)
  show (cnt p.f0.toNat ++ cnt (if p.f1 = true then 1 else 0)).length ≤ 18
  rw [List.length_append]
  omega
theorem flat_len {α : Type} (f : α → List Int) (m : Nat) : ∀ l : List α, (∀ x ∈ l, (f x).length ≤ m) → (l.flatMap f).length ≤ m * l.length
  | [], _ => by simp
  | x :: r, h => by
    have h1 := h x (List.mem_cons_self ..)
    have h2 := flat_len f m r (fun y hy => h y (List.mem_cons_of_mem _ hy))
    rw [List.flatMap_cons, List.length_append, List.length_cons, Nat.mul_succ]
    omega
theorem expB_len (x : S80) (ok : Ok80 x) (h0 : x.f0.size ≤ 200) (h4 : x.f4.length ≤ 60) : (expB x).length ≤ 2000 := by
  obtain ⟨o0, o1, o2, o3, o4, o5⟩ := ok
  have a := cnt_len9 (n := x.f0.size) (by omega)
  have b := cnt_len9 (n := x.f1.toNat) (by have := (bd64 o1).2; omega)
  have c := cnt_len9 (n := x.f2.toNat) (by have := (bd64 o2).2; omega)
  have d := cnt_len9 (n := sgn x.f3) (by unfold sgn; have := bd32 o3; split <;> omega)
  have e := cnt_len9 (n := x.f4.length) (by omega)
  have f := flat_len parB 18 x.f4 (fun p hp => parB_len p (o5 p hp))
  show (((cnt x.f0.size ++ bytesOf x.f0) ++ cnt x.f1.toNat ++ cnt x.f2.toNat ++ cnt (sgn x.f3) ++ cnt x.f4.length) ++ x.f4.flatMap parB).length ≤ 2000
  simp only [List.length_append, bytesOf_length]
  omega
theorem expsB_len (l : List S80) (ok : ∀ x ∈ l, Ok80 x) (h : Small l) : (expsB l).length ≤ 200000 := by
  have a := cnt_len9 (n := l.length) (by have := h.1; omega)
  have f := flat_len expB 2000 l (fun x hx => expB_len x (ok x hx) (h.2 x hx).1 (h.2 x hx).2)
  have := h.1
  unfold expsB
  rw [List.length_append]
  omega
theorem keyB_len (s : ByteArray) (l : List S80) (ok : ∀ x ∈ l, Ok80 x) (h : Small l) (hs : s.size ≤ 200) : (keyB s l).length ≤ 300000 := by
  have a := cnt_len9 (n := s.size) (by omega)
  have b := expsB_len l ok h
  unfold keyB
  simp only [List.length_append, bytesOf_length]
  omega

set_option maxHeartbeats 1000000 in
set_option maxRecDepth 100000 in
theorem fingerKeys_any (s : ByteArray) (l : List S80) (A : Option Addr) (c : Nat) (w : World) (hr : Kd.C k80 w A l.length l) (hc : l.length ≤ c) (hok : ∀ x ∈ l, Ok80 x) (hs63 : s.size ≤ 9223372036854775807) :
    Calls Try.prog 4 #[.string s, .slice A l.length c] w fun e w' => e = .returned (.bool true) ∧ Below w.heap.size w w' := by
  have HR := Lib.hid hr
  have HC := Lib.hid hc
  have OK := Lib.hid hok
  have L63 := Lib.hid hr.2.1
  clear hr hc hok
  go_enter Try.func4, Try.ntmps4
  go_wp2_with fail
  refine (fawake w).mono ?_
  rintro e w1 ⟨rfl, d1⟩
  have B1 := Lib.hid d1.below
  clear d1
  obtain ⟨r, hsm, hcall⟩ := lsmall l A c w1 (Kd.C_below HR.out B1.out) HC.out
  have SM := Lib.hid hsm
  have CL := Lib.hid hcall
  clear hsm hcall
  cases r
  · go_wp2_with fail
    refine CL.out.mono ?_
    rintro e w2 ⟨rfl, d2⟩
    have B2 := Lib.hid d2.below
    clear d2
    go_wp2
    go_ret
    exact ⟨rfl, B1.out.trans (B2.out.mono B1.out.size)⟩
  have SL := Lib.hid (SM.out rfl)
  by_cases hs : s.size ≤ 200
  rotate_left
  · go_wp2_with fail
    refine CL.out.mono ?_
    rintro e w2 ⟨rfl, d2⟩
    have B2 := Lib.hid d2.below
    clear d2
    go_wp2
    go_ret
    exact ⟨rfl, B1.out.trans (B2.out.mono B1.out.size)⟩
  have KL := Lib.hid (keyB_len s l OK.out SL.out hs)
  have EL := Lib.hid (expsB_len l OK.out SL.out)
  go_wp2_with fail
  refine CL.out.mono ?_
  rintro e w2 ⟨rfl, d2⟩
  have B2 := Lib.hid (B1.out.trans (d2.below.mono B1.out.size))
  clear d2
  go_wp2_with fail
  have W2 := Lib.hid (wr_newB w.heap.size w2 B2.out.size)
  have B3 := Lib.hid (B2.out.alloc B2.out.size (.cells #[.slice none 0 0] 26))
  refine (fwrite w w2.heap.size _ [] l A c _ W2.out B3.out HR.out OK.out (by have := EL.out; simp only [List.length_nil]; omega)).mono ?_
  rintro e w4 ⟨rfl, v4, h4, m4⟩
  have H4 := Lib.hid h4
  have B4 := Lib.hid (m4.below B3.out B3.out.size W2.out.2.1 W2.out.base)
  clear h4 m4
  go_wp2_with fail
  refine (wbytes w.heap.size w2.heap.size v4 _ w4 H4.out (by have := EL.out; simp only [List.nil_append]; omega)).mono ?_
  rintro e w5 ⟨u5, rfl, o5, b5⟩
  have O5 := Lib.hid o5
  have B5 := Lib.hid (B4.out.trans (b5.mono B4.out.size))
  obtain ⟨A5, n5, c5, rfl⟩ := own_form o5
  clear o5 b5
  go_wp2_with fail
  refine (rexps l A c w5 (Kd.C_below HR.out B5.out) HC.out OK.out (by have := EL.out; omega) (fun x hx => by have := (SL.out.2 x hx).1; omega) (by have := SL.out.1; omega)).mono ?_
  rintro e w6 ⟨u6, rfl, o6, b6⟩
  have O6 := Lib.hid o6
  have P5 := Lib.hid (pw_own_below O5.out b6)
  have B6 := Lib.hid (B5.out.trans (b6.mono B5.out.size))
  obtain ⟨A6, n6, c6, rfl⟩ := own_form o6
  clear o6 b6
  go_wp2_with fail
  refine (rsame w4.heap.size w5.heap.size _ _ (expsB l) (expsB l) w6 (by have := EL.out; omega) (by have := P5.out; simpa only [List.nil_append] using this) O6.out).mono ?_
  rintro e w7 ⟨rfl, d7⟩
  have B7 := Lib.hid (B6.out.trans (d7.below.mono B6.out.size))
  clear d7
  simp only [decide_true]
  go_wp2_with fail
  refine (fkey s l A c w7 (Kd.C_below HR.out B7.out) OK.out (by have := KL.out; omega) (by omega)).mono ?_
  rintro e w8 ⟨rfl, b8⟩
  have B8 := Lib.hid (B7.out.trans (b8.mono B7.out.size))
  clear b8
  go_wp2_with fail
  refine (rkey s l A c w8 (Kd.C_below HR.out B8.out) HC.out OK.out (by have := KL.out; omega) (fun x hx => by have := (SL.out.2 x hx).1; omega) (by omega) (by have := SL.out.1; omega)).mono ?_
  rintro e w9 ⟨rfl, b9⟩
  have B9 := Lib.hid (B8.out.trans (b9.mono B8.out.size))
  clear b9
  go_wp2
  go_ret
  exact ⟨rfl, B9.out⟩

end Go.Proofs.Ytehdhmhpmkkneaa
