/- The document's Count, Number, Text, Bytes and Same (printed): what they answer, in plain words, and as contracts. -/
import Derived.Test.YtehdhmhpmkkneaaCy
import Derived.Test.YtehdhmhpmkkneaaPAllx5
import Derived.Test.YtehdhmhpmkkneaaPAllx6
import Derived.Test.YtehdhmhpmkkneaaPAllx7
namespace Go.Proofs.Ytehdhmhpmkkneaa
open Go.RowKit Go.Proofs.YtehdhmhpmkkneaaW.PrintWords Go.Proofs.Ytehdhmhpmkkneaa.PAll

theorem refCount_loop : ∀ (j m : Nat) (acc : List Int), m < 128 ^ (j + 1) → m ≤ 9223372036854775807 → acc.length + j < 1000000 → pascalineref12_Count.l0 (j + 1) (m : Int) acc = some (acc ++ cnt m) := by
  intro j
  induction j with
  | zero =>
    intro m acc h hm ha
    have h1 : m < 128 := by simpa using h
    simp only [pascalineref12_Count.l0]
    rw [if_neg (by omega), if_pos (by omega), cnt_low h1]
    congr 3
    omega
  | succ j ih =>
    intro m acc h hm ha
    rw [pascalineref12_Count.l0]
    by_cases h1 : m < 128
    · rw [if_neg (by omega), if_pos (by omega), cnt_low h1]
      congr 3
      omega
    · rw [if_pos (by omega), if_pos (by omega)]
      have e1 : wrap64 (Int.tdiv (m : Int) 128) = ((m / 128 : Nat) : Int) := by
        rw [Int.tdiv_eq_ediv_of_nonneg (by omega)]
        unfold wrap64
        omega
      have e2 : wrap64 (Int.tmod (m : Int) 128 + 128) % 256 = ((m % 128 + 128 : Nat) : Int) := by
        rw [Int.tmod_eq_emod_of_nonneg (by omega)]
        unfold wrap64
        omega
      rw [e1, e2, ih (m / 128) _ (by rw [Nat.pow_succ] at h; omega) (by omega) (by rw [List.length_append]; simp only [List.length_cons, List.length_nil]; omega), cnt_high h1]
      simp

theorem refCount (n : Int) (h : n ≤ 9223372036854775807) : pascalineref12_Count.f 10 n = some (cnt n.toNat) := by
  have key : ∀ m : Nat, m ≤ 9223372036854775807 → pascalineref12_Count.j0 10 (m : Int) = some (cnt m) := by
    intro m hm
    show pascalineref12_Count.l0 9 (m : Int) [] = _
    exact refCount_loop 8 m [] (by omega) hm (by simp)
  unfold pascalineref12_Count.f
  by_cases h0 : n < 0
  · rw [if_pos h0]
    have e : n.toNat = 0 := by omega
    rw [e]
    exact key 0 (by omega)
  · rw [if_neg h0]
    have e : n = (n.toNat : Int) := by omega
    have := key n.toNat (by omega)
    rwa [← e] at this

theorem refNumber (n : Int) (h0 : -2147483648 ≤ n) (h1 : n ≤ 2147483647) : pascalineref12_Number.f 10 n = some (cnt (sgn n)) := by
  unfold pascalineref12_Number.f sgn
  by_cases h : n < 0
  · rw [if_pos h, if_pos h]
    have e : wrap64 (wrap64 (-2 * wrap64 n) - 1) = -2 * n - 1 := by unfold wrap64; omega
    rw [e, refCount _ (by omega)]
    rfl
  · rw [if_neg h, if_neg h]
    have e : wrap64 (2 * wrap64 n) = 2 * n := by unfold wrap64; omega
    rw [e, refCount _ (by omega)]
    rfl

theorem refText (s : ByteArray) (h : s.size ≤ 1000000000) : pascalineref12_Text.f 10 s = some (cnt s.size ++ bytesOf s) := by
  unfold pascalineref12_Text.f
  rw [refCount _ (by omega)]
  simp only [Option.bind_some]
  have h9 := cnt_len9 (n := s.size) (by omega)
  rw [if_pos (by simp; omega)]
  rfl

theorem refBytes (n : Int) (h0 : 0 ≤ n) (h1 : n ≤ 4294967295) : pascalineref01_Bytes.f 5 n = some (wrd n) := by
  unfold pascalineref01_Bytes.f
  have w1 : ∀ i : Int, 0 ≤ i → i < 4 → wrap64 (i + 1) = i + 1 := by intro i _ _; unfold wrap64; omega
  have step : ∀ (k : Nat) (m i : Int) (acc : List Int), 0 ≤ m → m ≤ 4294967295 → 0 ≤ i → i < 4 → acc.length < 10 → pascalineref01_Bytes.l0 (k + 1) m acc i = pascalineref01_Bytes.l0 k (m / 256) (acc ++ [m % 256]) (i + 1) := by
    intro k m i acc a b c d e
    simp only [pascalineref01_Bytes.l0]
    rw [if_pos d, if_pos (by omega), w1 i c d, Int.tdiv_eq_ediv_of_nonneg a, Int.tmod_eq_emod_of_nonneg a, Int.emod_emod_of_dvd _ (by decide), Int.emod_eq_of_lt (by omega) (by omega)]
  rw [step 4 n 0 [] h0 h1 (by decide) (by decide) (by simp), step 3 _ _ _ (by omega) (by omega) (by decide) (by decide) (by simp), step 2 _ _ _ (by omega) (by omega) (by decide) (by decide) (by simp), step 1 _ _ _ (by omega) (by omega) (by decide) (by decide) (by simp)]
  simp only [pascalineref01_Bytes.l0]
  rw [if_neg (by decide)]
  unfold wrd
  simp only [List.nil_append, List.cons_append]
  congr 5 <;> omega

end Go.Proofs.Ytehdhmhpmkkneaa
