/- Layer 12: bytes that are taken whole are the bytes that the writer would put. -/
import Derived.Test.YtehdhmhpmkkneaaRe
import Derived.Test.YtehdhmhpmkkneaaCy
namespace Go.Proofs.Ytehdhmhpmkkneaa
open Go.RowKit Go.Proofs.YtehdhmhpmkkneaaW.PrintWords Go.Proofs.Ytehdhmhpmkkneaa.PAll

theorem cntGo_put : ∀ (xs : List Int) (j : Nat) (n : Int), AllB xs → (cntGo xs j n).2.err = 0 →
    ∃ m : Nat, xs = cnt m ++ (cntGo xs j n).2.xs ∧ (cntGo xs j n).1 = n + (m : Int) * 2 ^ (7 * j) ∧ (0 < j → 0 < m)
  | [], j, n, _, h => by simp [cntGo] at h
  | b :: r, j, n, ok, h => by
    have hb := ok b (by simp)
    by_cases h1 : j = 9 ∨ (0 < j ∧ b = 0)
    · simp [cntGo, h1] at h
    · by_cases h2 : b < 128
      · simp only [cntGo, if_neg h1, if_pos h2]
        refine ⟨b.toNat, ?_, ?_, fun hj => by omega⟩
        · rw [cnt_low (by omega)]
          have : ((b.toNat : Nat) : Int) = b := by omega
          rw [this]; rfl
        · have : ((b.toNat : Nat) : Int) = b % 128 := by omega
          rw [this]
      · simp only [cntGo, if_neg h1, if_neg h2] at h ⊢
        obtain ⟨m, e1, e2, e3⟩ := cntGo_put r (j + 1) _ (fun x hx => ok x (by simp [hx])) h
        have hm := e3 (by omega)
        refine ⟨(b % 128).toNat + 128 * m, ?_, ?_, fun _ => by omega⟩
        · rw [cnt_high (by omega)]
          have q1 : ((b % 128).toNat + 128 * m) / 128 = m := by omega
          have q2 : ((((b % 128).toNat + 128 * m) % 128 + 128 : Nat) : Int) = b := by omega
          rw [q1, q2, List.cons_append, ← e1]
        · rw [e2, show 7 * (j + 1) = 7 * j + 7 by omega, Int.pow_add]
          have q3 : (((b % 128).toNat + 128 * m : Nat) : Int) = b % 128 + 128 * (m : Int) := by omega
          rw [q3]
          generalize (2 : Int) ^ (7 * j) = p
          rw [Int.add_mul]
          have : 128 * (m : Int) * p = (m : Int) * (p * 2 ^ 7) := by
            rw [Int.mul_comm p, ← Int.mul_assoc, Int.mul_comm 128]; rfl
          omega

theorem countS_put (m : Int) (xs : List Int) (ok : AllB xs) (h : (countS m ⟨xs, 0⟩).2.err = 0) : xs = cnt (countS m ⟨xs, 0⟩).1.toNat ++ (countS m ⟨xs, 0⟩).2.xs := by
  unfold countS at h ⊢
  rw [if_pos rfl] at h ⊢
  unfold fin at h ⊢
  by_cases h1 : (cntGo xs 0 0).2.err = 0
  · rw [if_pos h1] at h ⊢
    by_cases h2 : (cntGo xs 0 0).1 > max m 0
    · rw [if_pos h2] at h
      simp at h
    · rw [if_neg h2] at h ⊢
      obtain ⟨k, e1, e2, _⟩ := cntGo_put xs 0 0 ok h1
      have : (cntGo xs 0 0).1.toNat = k := by rw [e2]; simp
      rw [this]
      exact e1
  · rw [if_neg h1] at h
    exact absurd h h1

theorem endS_ok {s : RS} (h : (endS s).err = 0) : s.err = 0 ∧ s.xs = [] := by
  unfold endS at h
  by_cases h1 : leftS s > 0
  · rw [if_pos h1] at h
    simp at h
  · rw [if_neg h1] at h
    refine ⟨h, ?_⟩
    unfold leftS at h1
    rw [if_pos h] at h1
    exact List.eq_nil_of_length_eq_zero (by omega)

theorem once1 (m : Int) (xs : List Int) (ok : AllB xs) (h : (endS (countS m ⟨xs, 0⟩).2).err = 0) : cnt (countS m ⟨xs, 0⟩).1.toNat = xs := by
  obtain ⟨h1, h2⟩ := endS_ok h
  have := countS_put m xs ok h1
  rw [h2, List.append_nil] at this
  exact this.symm
theorem sgn_num (n : Int) (h : 0 ≤ n) : sgn (if n % 2 = 1 then -((n + 1) / 2) else n / 2) = n.toNat := by
  unfold sgn
  by_cases h1 : n % 2 = 1
  · rw [if_pos h1, if_pos (by omega)]; omega
  · rw [if_neg h1, if_neg (by omega)]; omega
theorem once2 (xs : List Int) (ok : AllB xs) (h : (endS (numS ⟨xs, 0⟩).2).err = 0) : cnt (sgn (numS ⟨xs, 0⟩).1) = xs := by
  have hb := (countS_bd 4294967295 ⟨xs, 0⟩ ok).1
  show cnt (sgn (if (countS 4294967295 ⟨xs, 0⟩).1 % 2 = 1 then -(((countS 4294967295 ⟨xs, 0⟩).1 + 1) / 2) else (countS 4294967295 ⟨xs, 0⟩).1 / 2)) = xs
  rw [sgn_num _ hb]
  exact once1 _ xs ok h
theorem numS_bd (s : RS) (ok : AllB s.xs) : -2147483648 ≤ (numS s).1 ∧ (numS s).1 ≤ 2147483647 := by
  have hb := countS_bd 4294967295 s ok
  have e : (numS s).1 = if (countS 4294967295 s).1 % 2 = 1 then -(((countS 4294967295 s).1 + 1) / 2) else (countS 4294967295 s).1 / 2 := rfl
  rw [e]
  generalize (countS 4294967295 s).1 = n at *
  split <;> omega
theorem bytesOf_strOfNums (l : List Int) (ok : AllB l) : bytesOf (strOfNums l) = l := by
  show ((strOfNums l).data.toList.map fun b => (b.toNat : Int)) = l
  rw [strOfNums_data, List.map_map]
  refine (List.map_congr_left fun x hx => ?_).trans (List.map_id l)
  have := ok x hx
  simp
  omega
theorem textS_put (m : Int) (s : RS) (hx : AllB s.xs) (h0 : s.err = 0) (h : (textS m s).2.err = 0) :
    s.xs = cnt (textS m s).1.size ++ bytesOf (textS m s).1 ++ (textS m s).2.xs := by
  have hp := countS_put m s.xs hx
  have hs : (⟨s.xs, 0⟩ : RS) = s := by cases s; simp only at h0; subst h0; rfl
  rw [hs] at hp
  have hbd := countS_bd m s hx
  unfold textS at h ⊢
  generalize countS m s = q at *
  by_cases h1 : q.2.err = 0
  · simp only [if_pos h1] at h ⊢
    by_cases h2 : q.1 > q.2.xs.length
    · rw [if_pos h2] at h
      simp at h
    · rw [if_neg h2]
      have e1 := hp h1
      have hall : AllB (q.2.xs.take q.1.toNat) := fun x hxm => hx x (by rw [e1]; exact List.mem_append_right _ (List.mem_of_mem_take hxm))
      have e2 : (strOfNums (q.2.xs.take q.1.toNat)).size = q.1.toNat := by
        rw [strOfNums_size, List.length_take]
        have := hbd.1
        omega
      have e3 : bytesOf (strOfNums (q.2.xs.take q.1.toNat)) = q.2.xs.take q.1.toNat := bytesOf_strOfNums _ hall
      rw [e2, e3, List.append_assoc, List.take_append_drop]
      exact e1
  · simp only [if_neg h1] at h
    exact absurd h h1
theorem once3 (m : Int) (xs : List Int) (ok : AllB xs) (h : (endS (textS m ⟨xs, 0⟩).2).err = 0) : cnt (textS m ⟨xs, 0⟩).1.size ++ bytesOf (textS m ⟨xs, 0⟩).1 = xs := by
  obtain ⟨h1, h2⟩ := endS_ok h
  have := textS_put m ⟨xs, 0⟩ ok rfl h1
  rw [h2, List.append_nil] at this
  exact this.symm
theorem textS_bd (m : Int) (s : RS) (ok : AllB s.xs) (h0 : 0 ≤ m) : ((textS m s).1.size : Int) ≤ m := by
  have hb := countS_bd m s ok
  unfold textS
  split
  · split
    · simpa using h0
    · rw [strOfNums_size, List.length_take]
      omega
  · simpa using h0
end Go.Proofs.Ytehdhmhpmkkneaa
