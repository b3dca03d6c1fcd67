/- ScanCovers: signs stand one behind the other, and what each says of its place is its text. No condition. -/
import Derived.Test.YtmalonlbnjiclaaPAllx20
import Derived.Test.YtmalonlbnjiclaaSf
namespace Go.Proofs.Ytmalonlbnjiclaa.Pure
open Go.RowKit Go.Proofs.Ytmalonlbnjiclaa.PAll Go.Proofs.YtmalonlbnjiclaaW.PrintWords Go.Proofs.YtmalonlbnjiclaaW.PrintLast
set_option linter.unusedVariables false
set_option linter.unusedSimpArgs false

theorem rd32_pre (pre l : List Sg) (x : Sg) : rd_T32 ((pre ++ x :: l).map sgn) (pre.length : Int) = sgn x := by
  unfold rd_T32
  rw [Int.toNat_natCast]
  simp [List.getD]
theorem ext_one (s : ByteArray) (a b : Nat) (h : a + 2 ≤ b) (hb : b ≤ s.size) : (s.extract a b).extract 1 (b - a - 1) = s.extract (a + 1) (b - 1) := by
  rw [ByteArray.extract_extract]
  congr 1
  omega
/-- One sign's check. -/
theorem cov_one (s : ByteArray) (hs : s.size ≤ 20000) (p : Nat) (hp : p ≤ s.size) (x : Sg) (hx : x = nextS s p) (he : x.e = 0) (pre l : List Sg) (hl : x.kind = 0 ↔ l = []) (hlen : (pre ++ x :: l).length ≤ 1000000)
    (ih : Ev (fun k => pascalinelaw08_ScanCovers.l0 k s ((pre ++ x :: l).map sgn) (x.to_ : Int) ((pre.length + 1 : Nat) : Int)) true) :
    Ev (fun k => pascalinelaw08_ScanCovers.l0 k s ((pre ++ x :: l).map sgn) (p : Int) (pre.length : Int)) true := by
  have hb := next_bd s p hp
  rw [← hx] at hb
  clear hx
  have hb2 := hb.2.2.2 he
  obtain ⟨K, hK⟩ := ih
  refine ⟨K + 2, fun k hk => ?_⟩
  obtain ⟨m, rfl⟩ : ∃ m, k = m + 1 + 1 := ⟨k - 2, by omega⟩
  have h2 := hK m (by omega)
  clear hK
  dsimp only at h2
  have hL : (((pre ++ x :: l).map sgn).length : Int) = (pre.length : Int) + (l.length : Int) + 1 := by simp; omega
  have hl2 : pre.length + l.length ≤ 1000000 := by simp at hlen; omega
  have hpre : pre.length ≤ 1000000000000000 := by omega
  have wL : wrap64 ((((pre ++ x :: l).map sgn).length : Int) - 1) = (pre.length : Int) + (l.length : Int) := by rw [hL, w64 _ (by omega) (by omega)]; omega
  dsimp only
  rw [pascalinelaw08_ScanCovers.l0, rd32_pre, wL, hL]
  clear wL hL hlen
  have q0 : (sgn x).f0 = x.kind := rfl
  have q1 : (sgn x).f1 = (x.from_ : Int) := rfl
  have q2 : (sgn x).f2 = (x.to_ : Int) := rfl
  have q3 : (sgn x).f3 = x.text := rfl
  rw [q0, q1, q2, q3]
  clear q0 q1 q2 q3
  rw [if_pos (by omega), if_pos (by omega), if_neg (by omega), if_neg (by omega), if_neg (by omega)]
  have heq : ((x.kind == 0) != ((pre.length : Int) == (pre.length : Int) + (l.length : Int))) = false := by
    by_cases hk0 : x.kind = 0
    · have : l.length = 0 := by rw [hl.mp hk0]; rfl
      rw [beq_iff_eq.mpr hk0, beq_iff_eq.mpr (by omega)]
      rfl
    · have : l.length ≠ 0 := fun q => hk0 (hl.mpr (List.eq_nil_of_length_eq_zero q))
      rw [beq_eq_false_iff_ne.mpr hk0, beq_eq_false_iff_ne.mpr (by omega)]
      rfl
  rw [heq, if_neg (by decide), beq_eq_false_iff_ne.mpr hb2.1, pascalinelaw08_ScanCovers.j1, if_neg (by decide), if_pos (by omega), if_pos (by omega), if_pos (by omega), Int.toNat_natCast, Int.toNat_natCast, wsuc1 pre.length hpre]
  have hsz : (s.extract x.from_ x.to_).size = x.to_ - x.from_ := by rw [ByteArray.size_extract, Nat.min_eq_left (by omega)]
  by_cases hk4 : x.kind = 4
  · have h4 := (hb2.2.1 (by omega)).2.1 hk4
    have w6 : 1 ≤ x.to_ - x.from_ := by omega
    have w7 : x.to_ - x.from_ ≤ 1000000000000000 := by omega
    rw [if_pos hk4, hsz, if_neg (by omega), wpred _ w6 w7, if_pos (by omega), if_pos (by omega), Int.toNat_natCast, ext_one s _ _ h4.1 (by omega), ← h4.2, if_pos rfl]
    exact h2
  · rw [if_neg hk4]
    have ht : x.text.toList = (s.extract x.from_ x.to_).toList := by
      by_cases hk0 : x.kind = 0
      · have h0 := hb2.2.2 hk0
        rw [h0.2.2.1]
        have : s.extract x.from_ x.to_ = ⟨#[]⟩ := by
          apply ByteArray.ext
          apply Array.eq_empty_of_size_eq_zero
          show (s.extract x.from_ x.to_).size = 0
          rw [hsz]
          omega
        rw [this]
      · rw [(hb2.2.1 hk0).2.2 hk4]
    rw [if_pos ht.symm]
    exact h2
theorem cov_end (s : ByteArray) (p : Int) (l : List Sg) (hl : 0 < l.length) (i : Nat) (hi : i = l.length) : Ev (fun k => pascalinelaw08_ScanCovers.l0 k s (l.map sgn) p (i : Int)) true := by
  refine ⟨1, fun k hk => ?_⟩
  obtain ⟨m, rfl⟩ : ∃ m, k = m + 1 := ⟨k - 1, by omega⟩
  dsimp only
  rw [pascalinelaw08_ScanCovers.l0, List.length_map, if_neg (by omega)]
  simp
  omega
theorem cov {s : ByteArray} (hs : s.size ≤ 20000) {p : Nat} {l : List Sg} {at_ e : Int} (h : Reads s p l at_ e) : p ≤ s.size → e = 0 → ∀ pre : List Sg, (pre ++ l).length ≤ 1000000 →
    Ev (fun k => pascalinelaw08_ScanCovers.l0 k s ((pre ++ l).map sgn) (p : Int) (pre.length : Int)) true := by
  induction h with
  | bad p h => intro _ q; exact absurd q h
  | last p h k =>
    intro hp _ pre hlen
    refine cov_one s hs p hp _ rfl h pre [] ⟨fun _ => rfl, fun _ => k⟩ hlen ?_
    exact cov_end s _ _ (by simp) _ (by simp)
  | more p l at_ e h k r ih =>
    intro hp he pre hlen
    subst he
    rw [if_pos rfl] at hlen ⊢
    have hb := next_bd s p hp
    have hne := (reads_err r).2 rfl
    refine cov_one s hs p hp _ rfl h pre l ⟨fun q => absurd q k, fun q => absurd q hne.2⟩ hlen ?_
    have := ih hb.2.2.1 rfl (pre ++ [nextS s p]) (by simpa using hlen)
    simpa using this
theorem reads_len' {s : ByteArray} {p : Nat} {l : List Sg} {at_ e : Int} (h : Reads s p l at_ e) : p ≤ s.size → l.length + p ≤ s.size + 1 := by
  induction h with
  | bad p h => intro hp; simp; omega
  | last p h k => intro hp; simp; omega
  | more p l at_ e h k r ih =>
    intro hp
    have hb := next_bd s p hp
    have h1 := ((hb.2.2.2 h).2.1 k).1
    have := ih hb.2.2.1
    split
    · simp; omega
    · simp; omega
theorem ScanCovers : pascalinelaw08_ScanCovers.Pure := by
  intro a0 _
  obtain ⟨K0, h0⟩ := awake_ev
  by_cases h2 : (a0.size : Int) > 20000
  · refine ⟨K0, ?_⟩
    have e0 := h0 K0 (Nat.le_refl _)
    dsimp only at e0
    unfold pascalinelaw08_ScanCovers.f
    rw [e0, Option.bind_some, if_pos rfl, if_pos h2]
  · obtain ⟨l, at_, e, r⟩ := reads_ex a0 _ 0 rfl (by omega)
    have hlen := reads_len' r (by omega)
    obtain ⟨K1, h1⟩ := all_ev (by omega) r
    by_cases he : e = 0
    · obtain ⟨K2, h3⟩ := cov (by omega) r (by omega) he [] (by simp; omega)
      refine ⟨K0 + K1 + K2, ?_⟩
      have e0 := h0 (K0 + K1 + K2) (by omega)
      have e1 := h1 (K0 + K1 + K2) (by omega)
      have e3 := h3 (K0 + K1 + K2) (by omega)
      dsimp only at e0 e1 e3
      unfold pascalinelaw08_ScanCovers.f
      rw [e0, Option.bind_some, if_pos rfl, if_neg h2, e1, Option.bind_some, if_pos he]
      exact e3
    · refine ⟨K0 + K1, ?_⟩
      have e0 := h0 (K0 + K1) (by omega)
      have e1 := h1 (K0 + K1) (by omega)
      dsimp only at e0 e1
      unfold pascalinelaw08_ScanCovers.f
      rw [e0, Option.bind_some, if_pos rfl, if_neg h2, e1, Option.bind_some, if_neg he, (reads_err r).1 he]
      rfl

end Go.Proofs.Ytmalonlbnjiclaa.Pure
