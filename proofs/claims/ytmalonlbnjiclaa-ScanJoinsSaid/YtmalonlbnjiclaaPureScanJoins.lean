/- ScanJoins: two texts with a blank between them have the signs of both, one behind the other. No condition. -/
import Derived.Test.YtmalonlbnjiclaaPAllx21
import Derived.Test.YtmalonlbnjiclaaSk
namespace Go.Proofs.Ytmalonlbnjiclaa.Pure
open Go.RowKit Go.Proofs.Ytmalonlbnjiclaa.PAll Go.Proofs.YtmalonlbnjiclaaW.PrintWords Go.Proofs.YtmalonlbnjiclaaW.PrintLast
set_option linter.unusedVariables false
set_option linter.unusedSimpArgs false

theorem reads_same {s : ByteArray} {p q : Nat} {l : List Sg} {at_ e : Int} (h : nextS s p = nextS s q) (r : Reads s q l at_ e) : Reads s p l at_ e := by
  cases r with
  | bad _ h1 => rw [← h] at h1 ⊢; exact .bad p h1
  | last _ h1 k => rw [← h] at h1 k ⊢; exact .last p h1 k
  | more _ l' _ _ h1 k r => rw [← h] at h1 k r ⊢; exact .more p l' _ _ h1 k r
theorem reads_hi (a b : ByteArray) {q : Nat} {l : List Sg} {at_ e : Int} (r : Reads b q l at_ e) : q ≤ b.size → e = 0 → Reads (joinB a b) (a.size + 1 + q) (l.map (shiftS (a.size + 1))) 0 0 := by
  induction r with
  | bad p h => intro _ z; exact absurd z h
  | last p h k =>
    intro hp _
    have e := next_hi a b p hp
    have := Reads.last (s := joinB a b) (a.size + 1 + p) (by rw [e]; exact h) (by rw [e]; exact k)
    rw [e] at this
    exact this
  | more p l at_ e h k r ih =>
    intro hp he
    subst he
    have en := next_hi a b p hp
    have hb := (next_bd b p hp).2.2.1
    have r2 := ih hb rfl
    have := Reads.more (s := joinB a b) (a.size + 1 + p) _ 0 0 (by rw [en]; exact h) (by rw [en]; exact k) (by rw [en]; exact r2)
    rw [if_pos rfl, en] at this
    rw [if_pos rfl]
    exact this
theorem reads_first {s : ByteArray} {p : Nat} {l : List Sg} {at_ e : Int} (r : Reads s p l at_ e) (he : e = 0) : (nextS s p).e = 0 := by
  cases r with
  | bad _ h1 => exact he
  | last _ h1 k => exact h1
  | more _ l' _ _ h1 k r => exact h1
theorem reads_lo (a b : ByteArray) {p : Nat} {l : List Sg} {at_ e : Int} (r : Reads a p l at_ e) (y : List Sg) (ry : Reads b 0 y 0 0) : p ≤ a.size → e = 0 → Reads (joinB a b) p (l.dropLast ++ y.map (shiftS (a.size + 1))) 0 0 := by
  induction r with
  | bad p h => intro _ z; exact absurd z h
  | last p h k =>
    intro hp _
    have e := next_end a b p hp h k (reads_first ry rfl)
    have r2 := reads_hi a b ry (by omega) rfl
    refine reads_same ?_ r2
    rw [e, next_hi a b 0 (by omega)]
  | more p l at_ e h k r ih =>
    intro hp he
    subst he
    have en := next_lo a b p hp h k
    have hb := (next_bd a p hp).2.2.1
    have r2 := ih hb rfl
    have hne := ((reads_err r).2 rfl).2
    have := Reads.more (s := joinB a b) p _ 0 0 (by rw [en]; exact h) (by rw [en]; exact k) (by rw [en]; exact r2)
    rw [if_pos rfl, en] at this
    rw [if_pos rfl, List.dropLast_cons_of_ne_nil hne]
    exact this
theorem reads_mem {s : ByteArray} {p : Nat} {l : List Sg} {at_ e : Int} (r : Reads s p l at_ e) : p ≤ s.size → (∀ q ∈ l, q.from_ ≤ s.size ∧ q.to_ ≤ s.size) ∧ l.length + p ≤ s.size + 1 := by
  induction r with
  | bad p h => intro hp; exact ⟨by simp, by simp; omega⟩
  | last p h k =>
    intro hp
    have hb := next_bd s p hp
    refine ⟨?_, by simp; omega⟩
    intro q hq
    rw [List.mem_singleton] at hq
    rw [hq]
    omega
  | more p l at_ e h k r ih =>
    intro hp
    have hb := next_bd s p hp
    have h1 := ((hb.2.2.2 h).2.1 k).1
    have h2 := ih hb.2.2.1
    split
    · refine ⟨?_, by have := h2.2; simp; omega⟩
      intro q hq
      rcases List.mem_cons.mp hq with hq | hq
      · rw [hq]; omega
      · exact h2.1 q hq
    · exact ⟨by simp, by simp; omega⟩

theorem rd32_at' (l : List Sg) (i : Nat) (h : i < l.length) : rd_T32 (l.map sgn) (i : Int) = sgn l[i] := by
  unfold rd_T32
  rw [Int.toNat_natCast]
  simp [List.getD, h]
theorem same_no (q : Sg) : (!((sgn q).f0 == (sgn q).f0) || (!((sgn q).f1 == (sgn q).f1) || (!((sgn q).f2 == (sgn q).f2) || (!((sgn q).f3.toList == (sgn q).f3.toList) || !((sgn q).f4 == (sgn q).f4))))) = false := by simp
theorem wrap_on (o n : Nat) (ho : o ≤ 2000) (hn : n ≤ 2000) : wrap64 (wrap64 ((n : Int) + (o : Int)) + 1) = ((o + 1 + n : Nat) : Int) := by
  rw [w64 ((n : Int) + (o : Int)) (by omega) (by omega), w64 _ (by omega) (by omega)]
  omega
theorem wrap_ix (i n : Nat) (hi : i ≤ 100000) (hn : n ≤ 100000) (h1 : 1 ≤ n) (h : n - 1 ≤ i) : wrap64 (wrap64 ((i : Int) - (n : Int)) + 1) = ((i - (n - 1) : Nat) : Int) := by
  rw [w64 ((i : Int) - (n : Int)) (by omega) (by omega), w64 _ (by omega) (by omega)]
  omega
theorem wrap_len (x y : Nat) (hx : 1 ≤ x) (hx2 : x ≤ 100000) (hy : y ≤ 100000) : wrap64 (wrap64 ((x : Int) - 1) + (y : Int)) = ((x - 1 + y : Nat) : Int) := by
  rw [w64 ((x : Int) - 1) (by omega) (by omega), w64 _ (by omega) (by omega)]
  omega
theorem joins_loop (a : ByteArray) (x y : List Sg) (hx : 1 ≤ x.length) (hxl : x.length ≤ 10000) (hyl : y.length ≤ 10000) (ha : a.size ≤ 2000) (hy : ∀ q ∈ y, q.from_ ≤ 2000 ∧ q.to_ ≤ 2000) : ∀ d i, (x.length - 1 + y.length) - i = d → i ≤ x.length - 1 + y.length →
    Ev (fun k => pascalinelaw08_ScanJoins.l0 k a (x.map sgn) (y.map sgn) ((x.dropLast ++ y.map (shiftS (a.size + 1))).map sgn) (i : Int)) true := by
  intro d
  obtain ⟨Z, hZ⟩ : ∃ Z, x.dropLast ++ y.map (shiftS (a.size + 1)) = Z := ⟨_, rfl⟩
  have hZl : Z.length = x.length - 1 + y.length := by rw [← hZ, List.length_append, List.length_dropLast, List.length_map]
  rw [hZ]
  induction d using Nat.strongRecOn with
  | _ d ih =>
    intro i hd hi
    have hi2 : i ≤ 1000000000000000 := by omega
    by_cases hlt : i < x.length - 1 + y.length
    · obtain ⟨K, hK⟩ := ih ((x.length - 1 + y.length) - (i + 1)) (by omega) (i + 1) rfl (by omega)
      refine ⟨K + 1, fun k hk => ?_⟩
      obtain ⟨m, rfl⟩ : ∃ m, k = m + 1 := ⟨k - 1, by omega⟩
      have h2 := hK m (by omega)
      clear hK ih
      dsimp only at h2
      dsimp only
      have hzi : i < Z.length := by omega
      rw [pascalinelaw08_ScanJoins.l0, List.length_map, List.length_map, List.length_map, rd32_at' Z i hzi, wsuc1 i hi2, wpred x.length hx (by omega), if_pos (by omega)]
      by_cases h3 : i < x.length - 1
      · have hxi : i < x.length := by omega
        have hz : Z[i] = x[i] := by
          have hdl : i < x.dropLast.length := by rw [List.length_dropLast]; omega
          subst hZ
          rw [List.getElem_append_left hdl, List.getElem_dropLast]
        rw [hz, rd32_at' x i hxi, if_pos (by omega), if_pos (by omega), if_pos (by omega), same_no, if_neg (by decide)]
        exact h2
      · have hj : i - (x.length - 1) < y.length := by omega
        have hz : Z[i] = shiftS (a.size + 1) (y[i - (x.length - 1)]) := by
          have hdl : x.dropLast.length ≤ i := by rw [List.length_dropLast]; omega
          subst hZ
          rw [List.getElem_append_right hdl, List.getElem_map]
          congr 2
          rw [List.length_dropLast]
        have hm := hy _ (List.getElem_mem hj)
        rw [hz, wrap_ix i x.length (by omega) (by omega) hx (by omega), rd32_at' y _ hj, if_neg (by omega), if_pos (by omega), if_pos (by omega), if_pos (by omega)]
        obtain ⟨q, hq⟩ : ∃ q, y[i - (x.length - 1)] = q := ⟨_, rfl⟩
        rw [hq] at hm ⊢
        have w1 := wrap_on a.size q.from_ ha hm.1
        have w2 := wrap_on a.size q.to_ ha hm.2
        have f1 : (sgn q).f1 = (q.from_ : Int) := rfl
        have f2 : (sgn q).f2 = (q.to_ : Int) := rfl
        rw [f1, f2, w1, w2]
        have hno := same_no (shiftS (a.size + 1) q)
        have hcond : (!((sgn (shiftS (a.size + 1) q)).f0 == (sgn q).f0) || (!((sgn (shiftS (a.size + 1) q)).f1 == ((a.size + 1 + q.from_ : Nat) : Int)) || (!((sgn (shiftS (a.size + 1) q)).f2 == ((a.size + 1 + q.to_ : Nat) : Int)) || (!((sgn (shiftS (a.size + 1) q)).f3.toList == (sgn q).f3.toList) || !((sgn (shiftS (a.size + 1) q)).f4 == (sgn q).f4))))) = false := hno
        rw [hcond, if_neg (by decide)]
        exact h2
    · refine ⟨1, fun k hk => ?_⟩
      obtain ⟨m, rfl⟩ : ∃ m, k = m + 1 := ⟨k - 1, by omega⟩
      dsimp only
      rw [pascalinelaw08_ScanJoins.l0, List.length_map, List.length_map, List.length_map, if_neg (by omega)]
theorem ScanJoins : pascalinelaw08_ScanJoins.Pure := by
  intro a b _ _
  obtain ⟨K0, h0⟩ := awake_ev
  by_cases hA : (a.size : Int) > 2000
  · refine ⟨K0 + 1, ?_⟩
    have e0 := h0 (K0 + 1) (by omega)
    dsimp only at e0
    unfold pascalinelaw08_ScanJoins.f
    rw [e0, Option.bind_some, if_pos rfl, if_pos hA, pascalinelaw08_ScanJoins.j0, if_pos rfl]
  · by_cases hB : (b.size : Int) > 2000
    · refine ⟨K0 + 1, ?_⟩
      have e0 := h0 (K0 + 1) (by omega)
      dsimp only at e0
      unfold pascalinelaw08_ScanJoins.f
      rw [e0, Option.bind_some, if_pos rfl, if_neg hA, decide_eq_true hB, pascalinelaw08_ScanJoins.j0, if_pos rfl]
    · have hsz := join_size a b
      obtain ⟨x, ax, ex, rx⟩ := reads_ex a _ 0 rfl (by omega)
      obtain ⟨y, ay, ey, ry⟩ := reads_ex b _ 0 rfl (by omega)
      obtain ⟨K1, h1⟩ := all_ev (by omega) rx
      obtain ⟨K2, h2⟩ := all_ev (by omega) ry
      have g1 : a.size + 1 ≤ 9223372036854775807 := by omega
      have g2 : (a ++ (⟨#[32]⟩ : ByteArray)).size + b.size ≤ 9223372036854775807 := by rw [ByteArray.size_append]; show a.size + 1 + b.size ≤ _; omega
      by_cases hx : ex = 0
      · by_cases hy : ey = 0
        · subst hx hy
          obtain rfl := ((reads_err rx).2 rfl).1
          obtain rfl := ((reads_err ry).2 rfl).1
          have nx := ((reads_err rx).2 rfl).2
          have mx := reads_mem rx (by omega)
          have my := reads_mem ry (by omega)
          have lx : 1 ≤ x.length := by cases x with | nil => exact absurd rfl nx | cons _ _ => simp
          obtain ⟨K3, h3⟩ := all_ev (by omega) (reads_lo a b rx y ry (by omega) rfl)
          obtain ⟨K4, h4⟩ := joins_loop a x y lx (by omega) (by omega) (by omega) (fun q hq => by have := my.1 q hq; omega) _ 0 rfl (by omega)
          have e0 := h0 (K0 + K1 + K2 + K3 + K4 + 3) (by omega)
          have e1 := h1 (K0 + K1 + K2 + K3 + K4 + 2) (by omega)
          have e2 := h2 (K0 + K1 + K2 + K3 + K4 + 2) (by omega)
          have e3 := h3 (K0 + K1 + K2 + K3 + K4 + 2) (by omega)
          have e4 := h4 (K0 + K1 + K2 + K3 + K4) (by omega)
          have lz : ((x.dropLast ++ y.map (shiftS (a.size + 1))).map sgn).length = x.length - 1 + y.length := by simp
          have wl := wrap_len x.length y.length lx (by omega) (by omega)
          clear h0 h1 h2 h3 h4
          dsimp only at e0 e1 e2 e3 e4
          refine ⟨K0 + K1 + K2 + K3 + K4 + 3, ?_⟩
          unfold pascalinelaw08_ScanJoins.f
          rw [e0, Option.bind_some, if_pos rfl, if_neg hA, decide_eq_false hB, pascalinelaw08_ScanJoins.j0, if_neg (by decide), e1, Option.bind_some, e2, Option.bind_some, if_pos g1, if_pos g2]
          rw [show (a ++ (⟨#[32]⟩ : ByteArray)) ++ b = joinB a b from rfl, e3, Option.bind_some]
          dsimp only
          rw [if_pos rfl, pascalinelaw08_ScanJoins.j1, if_neg (by decide), if_pos rfl, lz, List.length_map, List.length_map, wl, if_neg (by omega), pascalinelaw08_ScanJoins.j2, if_neg (by simp)]
          exact e4
        · obtain ⟨z, az, ez, rz⟩ := reads_ex (joinB a b) _ 0 rfl (by omega)
          obtain ⟨K3, h3⟩ := all_ev (by omega) rz
          have e0 := h0 (K0 + K1 + K2 + K3 + 3) (by omega)
          have e1 := h1 (K0 + K1 + K2 + K3 + 2) (by omega)
          have e2 := h2 (K0 + K1 + K2 + K3 + 2) (by omega)
          have e3 := h3 (K0 + K1 + K2 + K3 + 2) (by omega)
          clear h0 h1 h2 h3
          dsimp only at e0 e1 e2 e3
          refine ⟨K0 + K1 + K2 + K3 + 3, ?_⟩
          unfold pascalinelaw08_ScanJoins.f
          rw [e0, Option.bind_some, if_pos rfl, if_neg hA, decide_eq_false hB, pascalinelaw08_ScanJoins.j0, if_neg (by decide), e1, Option.bind_some, e2, Option.bind_some, if_pos g1, if_pos g2]
          rw [show (a ++ (⟨#[32]⟩ : ByteArray)) ++ b = joinB a b from rfl, e3, Option.bind_some]
          dsimp only
          rw [if_pos hx, pascalinelaw08_ScanJoins.j1, if_pos (by simpa using hy)]
      · obtain ⟨z, az, ez, rz⟩ := reads_ex (joinB a b) _ 0 rfl (by omega)
        obtain ⟨K3, h3⟩ := all_ev (by omega) rz
        have e0 := h0 (K0 + K1 + K2 + K3 + 3) (by omega)
        have e1 := h1 (K0 + K1 + K2 + K3 + 2) (by omega)
        have e2 := h2 (K0 + K1 + K2 + K3 + 2) (by omega)
        have e3 := h3 (K0 + K1 + K2 + K3 + 2) (by omega)
        clear h0 h1 h2 h3
        dsimp only at e0 e1 e2 e3
        refine ⟨K0 + K1 + K2 + K3 + 3, ?_⟩
        unfold pascalinelaw08_ScanJoins.f
        rw [e0, Option.bind_some, if_pos rfl, if_neg hA, decide_eq_false hB, pascalinelaw08_ScanJoins.j0, if_neg (by decide), e1, Option.bind_some, e2, Option.bind_some, if_pos g1, if_pos g2]
        rw [show (a ++ (⟨#[32]⟩ : ByteArray)) ++ b = joinB a b from rfl, e3, Option.bind_some]
        dsimp only
        rw [if_neg hx, pascalinelaw08_ScanJoins.j1, if_pos rfl]

end Go.Proofs.Ytmalonlbnjiclaa.Pure
