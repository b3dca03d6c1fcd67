/- Layer 12: what was put is taken again. -/
import Derived.Test.YtehdhmhpmkkneaaOb
import Derived.Test.YtehdhmhpmkkneaaPv
namespace Go.Proofs.Ytehdhmhpmkkneaa
open Go.RowKit Go.Proofs.YtehdhmhpmkkneaaW.PrintWords Go.Proofs.Ytehdhmhpmkkneaa.PAll

theorem cntGo_cnt : ∀ (d m j : Nat) (n : Int) (rest : List Int), m < 128 ^ d → j + d ≤ 9 → (0 < j → 0 < m) → cntGo (cnt m ++ rest) j n = (n + (m : Int) * 2 ^ (7 * j), ⟨rest, 0⟩)
  | 0, m, j, n, rest, hm, hj, h0 => by
    have : m = 0 := by simpa using hm
    subst this
    by_cases hj0 : 0 < j
    · exact absurd (h0 hj0) (by omega)
    · obtain rfl : j = 0 := by omega
      rw [cnt_low (by omega)]
      simp [cntGo]
  | d + 1, m, j, n, rest, hm, hj, h0 => by
    by_cases hl : m < 128
    · rw [cnt_low hl]
      have h1 : ¬ (j = 9 ∨ (0 < j ∧ (m : Int) = 0)) := by rintro (h | ⟨h, e⟩); omega; have := h0 h; omega
      have h2 : (m : Int) < 128 := by omega
      have h3 : (m : Int) % 128 = m := by omega
      simp only [List.cons_append, List.nil_append, cntGo, if_neg h1, if_pos h2, h3]
    · rw [cnt_high hl]
      have h1 : ¬ (j = 9 ∨ (0 < j ∧ ((m % 128 + 128 : Nat) : Int) = 0)) := by rintro (h | ⟨h, e⟩) <;> omega
      have h2 : ¬ ((m % 128 + 128 : Nat) : Int) < 128 := by omega
      have h3 : ((m % 128 + 128 : Nat) : Int) % 128 = ((m % 128 : Nat) : Int) := by omega
      simp only [List.cons_append, cntGo, if_neg h1, if_neg h2, h3]
      rw [cntGo_cnt d (m / 128) (j + 1) _ rest (by rw [Nat.pow_succ] at hm; omega) (by omega) (fun _ => by omega)]
      congr 1
      rw [show 7 * (j + 1) = 7 * j + 7 by omega, Int.pow_add]
      have e : (m : Int) = ((m % 128 : Nat) : Int) + 128 * ((m / 128 : Nat) : Int) := by omega
      generalize (2 : Int) ^ (7 * j) = p
      rw [show ((m : Int) * p) = (((m % 128 : Nat) : Int) + 128 * ((m / 128 : Nat) : Int)) * p by rw [← e]]
      generalize ((m % 128 : Nat) : Int) = a
      generalize ((m / 128 : Nat) : Int) = b
      rw [Int.add_mul]
      have : 128 * b * p = b * (p * 2 ^ 7) := by
        rw [Int.mul_comm p, ← Int.mul_assoc, Int.mul_comm 128]; rfl
      omega

theorem countS_cnt (m : Int) (k : Nat) (rest : List Int) (hk : k ≤ 9223372036854775807) (hm : (k : Int) ≤ m) : countS m ⟨cnt k ++ rest, 0⟩ = ((k : Int), ⟨rest, 0⟩) := by
  have h := cntGo_cnt 9 k 0 0 rest (by omega) (by omega) (by omega)
  simp only [Nat.mul_zero, Int.pow_zero, Int.mul_one, Int.zero_add] at h
  unfold countS
  rw [if_pos rfl]
  simp only [h]
  unfold fin
  rw [if_pos rfl, if_neg (by simp only; omega)]
theorem numS_cnt (v : Int) (rest : List Int) (h0 : -2147483648 ≤ v) (h1 : v ≤ 2147483647) : numS ⟨cnt (sgn v) ++ rest, 0⟩ = (v, ⟨rest, 0⟩) := by
  have hs : sgn v ≤ 4294967295 := by unfold sgn; split <;> omega
  unfold numS
  rw [countS_cnt 4294967295 (sgn v) rest (by omega) (by omega)]
  congr 1
  simp only
  unfold sgn
  split <;> split <;> omega
theorem byteS_put (b : Int) (rest : List Int) : byteS ⟨b :: rest, 0⟩ = (b, ⟨rest, 0⟩) := rfl
theorem wordS_wrd (v : Int) (rest : List Int) : wordS ⟨wrd v ++ rest, 0⟩ = (v, ⟨rest, 0⟩) := by
  show (v % 256 + 256 * (v / 256 % 256) + 65536 * (v / 65536 % 256) + 16777216 * (v / 16777216), (⟨rest, 0⟩ : RS)) = _
  congr 1
  omega
theorem strOfNums_back (t : ByteArray) : strOfNums (bytesOf t) = t := by
  have : bytesOf t = t.data.toList.map fun x => (x.toNat : Int) := rfl
  rw [this]
  obtain ⟨⟨l⟩⟩ := t
  simp [strOfNums, Function.comp_def]
theorem textS_put' (m : Int) (s : ByteArray) (rest : List Int) (hs : s.size ≤ 9223372036854775807) (hm : (s.size : Int) ≤ m) : textS m ⟨cnt s.size ++ bytesOf s ++ rest, 0⟩ = (s, ⟨rest, 0⟩) := by
  have hl := bytesOf_length s
  unfold textS
  rw [List.append_assoc, countS_cnt m s.size _ hs hm]
  simp only
  rw [if_pos trivial, if_neg (by rw [List.length_append, hl]; omega), Int.toNat_natCast, ← hl, List.take_left, List.drop_left]
  congr 1
  exact strOfNums_back s

/-- What the law takes again. -/
def takes (k n : Int) (s : ByteArray) (r : RS) : Bool × RS :=
  if k = 0 then (decide ((byteS r).1 = n % 256), (byteS r).2)
  else if k = 1 then (decide ((countS 9223372036854775807 r).1 = mx n 0), (countS 9223372036854775807 r).2)
  else if k = 2 then (decide ((numS r).1 = wrap32 n), (numS r).2)
  else if k = 3 then (decide ((wordS r).1 = n % 4294967296), (wordS r).2)
  else if k = 4 then (decide ((textS 1000 r).1 = s), (textS 1000 r).2)
  else (true, r)
theorem takes_piece (k n : Int) (s : ByteArray) (rest : List Int) (n1 : n ≤ 9223372036854775807) (hs : s.size ≤ 1000) : takes k n s ⟨piece k n s ++ rest, 0⟩ = (true, ⟨rest, 0⟩) := by
  unfold takes piece
  by_cases k0 : k = 0
  · simp only [if_pos k0, List.cons_append, List.nil_append, byteS_put, decide_true]
  by_cases k1 : k = 1
  · simp only [if_neg k0, if_pos k1]
    rw [countS_cnt _ _ rest (by omega) (by omega)]
    have : ((n.toNat : Nat) : Int) = mx n 0 := by unfold mx; split <;> omega
    rw [this, decide_eq_true rfl]
  by_cases k2 : k = 2
  · simp only [if_neg k0, if_neg k1, if_pos k2]
    have := w32 n
    rw [numS_cnt _ rest this.1 this.2, decide_eq_true rfl]
  by_cases k3 : k = 3
  · simp only [if_neg k0, if_neg k1, if_neg k2, if_pos k3]
    rw [wordS_wrd _ rest, decide_eq_true rfl]
  by_cases k4 : k = 4
  · simp only [if_neg k0, if_neg k1, if_neg k2, if_neg k3, if_pos k4]
    rw [textS_put' 1000 s rest (by omega) (by omega), decide_eq_true rfl]
  · simp only [if_neg k0, if_neg k1, if_neg k2, if_neg k3, if_neg k4, List.nil_append]
end Go.Proofs.Ytehdhmhpmkkneaa
