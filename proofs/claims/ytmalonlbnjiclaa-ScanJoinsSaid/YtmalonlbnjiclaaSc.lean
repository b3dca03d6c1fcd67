/- What the scanner's functions answer, in plain words: runs of bytes, one sign, the next sign. No condition beside the text's size. -/
import Derived.Test.YtmalonlbnjiclaaPAllx9
namespace Go.Proofs.Ytmalonlbnjiclaa.Pure
open Go.RowKit Go.Proofs.Ytmalonlbnjiclaa.PAll Go.Proofs.YtmalonlbnjiclaaW.PrintWords Go.Proofs.YtmalonlbnjiclaaW.PrintLast
set_option linter.unusedVariables false
set_option linter.unusedSimpArgs false

def isLet (c : Int) : Bool := decide ((65 ≤ c ∧ c ≤ 90) ∨ (97 ≤ c ∧ c ≤ 122))
def isDig (c : Int) : Bool := decide (48 ≤ c ∧ c ≤ 57)
def isAl (c : Int) : Bool := isLet c || isDig c
def isPl (c : Int) : Bool := decide (32 ≤ c ∧ c ≤ 126)
def inTx (c : Int) : Bool := decide (32 ≤ c ∧ c ≤ 126 ∧ c ≠ 34)
def hv (c : Int) : Int := if 48 ≤ c ∧ c ≤ 57 then c - 48 else if 65 ≤ c ∧ c ≤ 70 then c - 55 else -1
def isHx (c : Int) : Bool := decide (0 ≤ hv c)
def numG (a c : Int) : Int := if a ≤ 2147483647 then a * 10 + (c - 48) else a
def hexG (a c : Int) : Int := (a * 16) % 4294967296 + hv c

/-- Where a run of bytes ends. -/
def runE (f : Int → Bool) (s : ByteArray) (p : Nat) : Nat :=
  if h : p < s.size then (if f (bt s (p : Int)) = true then runE f s (p + 1) else p) else p
termination_by s.size - p
/-- What is reckoned along a run. -/
def runA (f : Int → Bool) (g : Int → Int → Int) (s : ByteArray) (p : Nat) (a : Int) : Int :=
  if h : p < s.size then (if f (bt s (p : Int)) = true then runA f g s (p + 1) (g a (bt s (p : Int))) else a) else a
termination_by s.size - p

theorem in_of {s : ByteArray} {p : Nat} {f : Int → Bool} (hf : f 0 = false) (h : f (bt s (p : Int)) = true) : p < s.size := by
  rcases Nat.lt_or_ge p s.size with h1 | h1
  · exact h1
  · rw [show bt s (p : Int) = 0 by unfold bt; rw [dif_neg (by omega)], hf] at h
    cases h
theorem runE_t {s : ByteArray} {p : Nat} {f : Int → Bool} (hf : f 0 = false) (h : f (bt s (p : Int)) = true) : runE f s p = runE f s (p + 1) := by
  rw [runE, dif_pos (in_of hf h), if_pos h]
theorem runE_f {s : ByteArray} {p : Nat} {f : Int → Bool} (h : f (bt s (p : Int)) = false) : runE f s p = p := by
  rw [runE]
  split
  · rw [if_neg (by rw [h]; decide)]
  · rfl
theorem runA_t {s : ByteArray} {p : Nat} {f : Int → Bool} {g : Int → Int → Int} {a : Int} (hf : f 0 = false) (h : f (bt s (p : Int)) = true) : runA f g s p a = runA f g s (p + 1) (g a (bt s (p : Int))) := by
  rw [runA, dif_pos (in_of hf h), if_pos h]
theorem runA_f {s : ByteArray} {p : Nat} {f : Int → Bool} {g : Int → Int → Int} {a : Int} (h : f (bt s (p : Int)) = false) : runA f g s p a = a := by
  rw [runA]
  split
  · rw [if_neg (by rw [h]; decide)]
  · rfl
theorem runE_bd (f : Int → Bool) (s : ByteArray) : ∀ d p, s.size - p = d → p ≤ s.size → p ≤ runE f s p ∧ runE f s p ≤ s.size := by
  intro d
  induction d using Nat.strongRecOn with
  | _ d ih =>
    intro p hd hp
    rw [runE]
    split
    · split
      · have := ih (s.size - (p + 1)) (by omega) (p + 1) rfl (by omega)
        omega
      · omega
    · omega
theorem runE_ge (f : Int → Bool) (s : ByteArray) (p : Nat) (hp : p ≤ s.size) : p ≤ runE f s p := (runE_bd f s _ p rfl hp).1
theorem runE_le (f : Int → Bool) (s : ByteArray) (p : Nat) (hp : p ≤ s.size) : runE f s p ≤ s.size := (runE_bd f s _ p rfl hp).2

theorem letT (c : Int) : scan_letter.f c = some (isLet c) := by
  unfold scan_letter.f isLet
  repeat' split
  all_goals simp only [Option.some.injEq]
  all_goals first | (rw [eq_comm, decide_eq_true_eq]; omega) | (rw [eq_comm, decide_eq_false_iff_not]; omega) | (rw [decide_eq_decide]; omega)
theorem digT (c : Int) : scan_digit.f c = some (isDig c) := by
  unfold scan_digit.f isDig
  repeat' split
  all_goals simp only [Option.some.injEq]
  all_goals first | (rw [eq_comm, decide_eq_true_eq]; omega) | (rw [eq_comm, decide_eq_false_iff_not]; omega) | (rw [decide_eq_decide]; omega)
theorem plT (c : Int) : scan_plain.f c = some (isPl c) := by
  unfold scan_plain.f isPl
  repeat' split
  all_goals simp only [Option.some.injEq]
  all_goals first | (rw [eq_comm, decide_eq_true_eq]; omega) | (rw [eq_comm, decide_eq_false_iff_not]; omega) | (rw [decide_eq_decide]; omega)
theorem halfT (c : Int) (h0 : 0 ≤ c) (h1 : c ≤ 255) : scan_half.f c = some (hv c) := by
  unfold scan_half.f hv
  rw [digT]
  simp only [Option.bind_some, isDig, decide_eq_true_eq]
  repeat' split
  all_goals simp only [Option.some.injEq]
  all_goals omega
theorem w64 (n : Int) (h0 : -9223372036854775808 ≤ n) (h1 : n < 9223372036854775808) : wrap64 n = n := by unfold wrap64; omega
theorem wsuc (p j : Nat) (hp : p ≤ 1000000000000) (hj : j ≤ 100) : wrap64 ((p : Int) + (j : Int)) = ((p + j : Nat) : Int) := by rw [w64 _ (by omega) (by omega)]; omega
theorem wsuc1 (p : Nat) (hp : p ≤ 1000000000000000) : wrap64 ((p : Int) + 1) = ((p + 1 : Nat) : Int) := by rw [w64 _ (by omega) (by omega)]; omega
theorem wsuc3 (p : Nat) (hp : p ≤ 1000000000000000) : wrap64 ((p : Int) + 3) = ((p + 3 : Nat) : Int) := by rw [w64 _ (by omega) (by omega)]; omega

/-! ### numbers -/
theorem num_ev (s : ByteArray) (hs : s.size ≤ 140737488351232) : ∀ d p a, s.size - p = d → p ≤ s.size → 0 ≤ a → a ≤ 21474836479 →
    Ev (fun k => scan_Scanner_number.l0 k a s (p : Int)) (if runA isDig numG s p a > 2147483647 then (0, 0, 80, s, ((runE isDig s p : Nat) : Int)) else (2, wrap32 (runA isDig numG s p a), 0, s, ((runE isDig s p : Nat) : Int))) := by
  intro d
  induction d using Nat.strongRecOn with
  | _ d ih =>
    intro p a hd hp h0 h1
    have hb := bt_range s (p : Int)
    have e0 := peek0 s p (by omega)
    by_cases hc : isDig (bt s (p : Int)) = true
    · have hlt := in_of (f := isDig) rfl hc
      have hc' := hc
      simp only [isDig, decide_eq_true_eq] at hc'
      rw [runE_t rfl hc, runA_t rfl hc]
      obtain ⟨K, hK⟩ := ih (s.size - (p + 1)) (by omega) (p + 1) (numG a (bt s (p : Int))) rfl (by omega) (by unfold numG; split <;> omega) (by unfold numG; split <;> omega)
      refine ⟨K + 1, fun k hk => ?_⟩
      obtain ⟨m, rfl⟩ : ∃ m, k = m + 1 := ⟨k - 1, by omega⟩
      have h2 := hK m (by omega)
      simp only [scan_Scanner_number.l0, e0, Option.bind_some, digT, hc, if_true]
      by_cases ha : a ≤ 2147483647
      · rw [if_pos ha, wsuc1 p (by omega), w64 (a * 10) (by omega) (by omega), Int.emod_eq_of_lt (by omega) (by omega), w64 _ (by omega) (by omega)]
        rw [numG, if_pos ha] at h2 ⊢
        exact h2
      · rw [if_neg ha, wsuc1 p (by omega)]
        rw [numG, if_neg ha] at h2 ⊢
        exact h2
    · have hc := Bool.eq_false_iff.mpr hc
      rw [runE_f hc, runA_f hc]
      refine ⟨1, fun k hk => ?_⟩
      obtain ⟨m, rfl⟩ : ∃ m, k = m + 1 := ⟨k - 1, by omega⟩
      simp only [scan_Scanner_number.l0, e0, Option.bind_some, digT, hc]
      rw [if_neg (by decide)]
      split <;> rfl

/-! ### numbers of sixteen -/
theorem or_hex (x h : Int) (h0 : 0 ≤ h) (h1 : h < 16) (x0 : 0 ≤ x) : Go.bits .or .u32 ((x * 16) % 4294967296) (h % 4294967296) = (x * 16) % 4294967296 + h := by
  obtain ⟨n, rfl⟩ : ∃ n : Nat, x = (n : Int) := ⟨x.toNat, by omega⟩
  obtain ⟨m, rfl⟩ : ∃ m : Nat, h = (m : Int) := ⟨h.toNat, by omega⟩
  have e1 : (n : Int) * 16 % 4294967296 = ((n * 16 % 4294967296 : Nat) : Int) := by omega
  have e2 : (m : Int) % 4294967296 = (m : Int) := by omega
  rw [e1, e2]
  have hk : n * 16 % 4294967296 = 2 ^ 4 * (n % 268435456) := by omega
  have hor : n * 16 % 4294967296 ||| m = n * 16 % 4294967296 + m := by
    rw [hk, Nat.two_pow_add_eq_or_of_lt (by omega)]
  change IntKind.u32.wrap (((BitVec.ofInt 32 ((n * 16 % 4294967296 : Nat) : Int) ||| BitVec.ofInt 32 (m : Int)).toNat : Nat) : Int) = _
  rw [BitVec.ofInt_natCast, BitVec.ofInt_natCast, BitVec.toNat_or, BitVec.toNat_ofNat, BitVec.toNat_ofNat]
  rw [Nat.mod_eq_of_lt (show n * 16 % 4294967296 < 2 ^ 32 by omega), Nat.mod_eq_of_lt (show m < 2 ^ 32 by omega), hor]
  simp [IntKind.wrap, IntKind.signed, IntKind.bits]
  omega

theorem hex_ev (s : ByteArray) (hs : s.size ≤ 140737488351232) (st : Nat) : ∀ d p a, s.size - p = d → p ≤ s.size → st ≤ p → 0 ≤ a →
    Ev (fun k => scan_Scanner_hex.l0 k a ((p : Int) - st) s (p : Int)) (if runE isHx s p = st ∨ runE isHx s p > st + 8 then (0, 0, 80, s, ((runE isHx s p : Nat) : Int)) else (2, wrap32 (runA isHx hexG s p a), 0, s, ((runE isHx s p : Nat) : Int))) := by
  intro d
  induction d using Nat.strongRecOn with
  | _ d ih =>
    intro p a hd hp hst h0
    have hb := bt_range s (p : Int)
    have e0 := peek0 s p (by omega)
    by_cases hc : isHx (bt s (p : Int)) = true
    · have hlt := in_of (f := isHx) rfl hc
      have hc' := hc
      simp only [isHx, decide_eq_true_eq] at hc'
      have hh : hv (bt s (p : Int)) < 16 := by unfold hv; repeat' split <;> omega
      rw [runE_t rfl hc, runA_t rfl hc]
      have hor := or_hex a (hv (bt s (p : Int))) hc' hh h0
      obtain ⟨K, hK⟩ := ih (s.size - (p + 1)) (by omega) (p + 1) (hexG a (bt s (p : Int))) rfl (by omega) (by omega) (by unfold hexG; omega)
      refine ⟨K + 1, fun k hk => ?_⟩
      obtain ⟨m, rfl⟩ : ∃ m, k = m + 1 := ⟨k - 1, by omega⟩
      have h2 := hK m (by omega)
      simp only [scan_Scanner_hex.l0, e0, Option.bind_some, halfT _ hb.1 hb.2]
      rw [if_pos hc', hor, wsuc1 p (by omega), w64 _ (by omega) (by omega), show ((p : Int) - st + 1) = ((p + 1 : Nat) : Int) - st by omega]
      exact h2
    · have hc := Bool.eq_false_iff.mpr hc
      rw [runE_f hc, runA_f hc]
      have hc' := hc
      simp only [isHx, decide_eq_false_iff_not] at hc'
      refine ⟨1, fun k hk => ?_⟩
      obtain ⟨m, rfl⟩ : ∃ m, k = m + 1 := ⟨k - 1, by omega⟩
      simp only [scan_Scanner_hex.l0, e0, Option.bind_some, halfT _ hb.1 hb.2]
      rw [if_neg (by omega)]
      by_cases h3 : p = st
      · rw [if_pos (by omega), if_pos (by omega)]
      · rw [if_neg (by omega)]
        by_cases h4 : p > st + 8
        · rw [if_pos (by omega), if_pos (by omega)]
        · rw [if_neg (by omega), if_neg (by omega)]

/-! ### texts -/
theorem text_ev (s : ByteArray) (hs : s.size ≤ 140737488351232) : ∀ d p, s.size - p = d → p ≤ s.size →
    Ev (fun k => scan_Scanner_text.l0 k s (p : Int)) (if bt s ((runE inTx s p : Nat) : Int) = 34 then (4, 0, 0, s, ((runE inTx s p + 1 : Nat) : Int)) else (0, 0, 82, s, ((runE inTx s p : Nat) : Int))) := by
  intro d
  induction d using Nat.strongRecOn with
  | _ d ih =>
    intro p hd hp
    have e0 := peek0 s p (by omega)
    by_cases hc : inTx (bt s (p : Int)) = true
    · have hlt := in_of (f := inTx) rfl hc
      have hc' := hc
      simp only [inTx, decide_eq_true_eq] at hc'
      rw [runE_t rfl hc]
      obtain ⟨K, hK⟩ := ih (s.size - (p + 1)) (by omega) (p + 1) rfl (by omega)
      refine ⟨K + 1, fun k hk => ?_⟩
      obtain ⟨m, rfl⟩ : ∃ m, k = m + 1 := ⟨k - 1, by omega⟩
      have h2 := hK m (by omega)
      have hpl : isPl (bt s (p : Int)) = true := by simp only [isPl, decide_eq_true_eq]; omega
      simp only [scan_Scanner_text.l0, e0, Option.bind_some, plT, hpl, if_true]
      rw [if_neg (by omega), wsuc1 p (by omega)]
      exact h2
    · have hc := Bool.eq_false_iff.mpr hc
      rw [runE_f hc]
      have hc' := hc
      simp only [inTx, decide_eq_false_iff_not] at hc'
      refine ⟨1, fun k hk => ?_⟩
      obtain ⟨m, rfl⟩ : ∃ m, k = m + 1 := ⟨k - 1, by omega⟩
      by_cases hpl : isPl (bt s (p : Int)) = true
      · have hpl' := hpl
        simp only [isPl, decide_eq_true_eq] at hpl'
        have h34 : bt s (p : Int) = 34 := by omega
        simp only [scan_Scanner_text.l0, e0, Option.bind_some, plT, hpl, if_true]
        rw [if_pos h34, if_pos h34, if_pos h34, wsuc1 p (by omega)]
      · have hpl := Bool.eq_false_iff.mpr hpl
        have hpl' := hpl
        simp only [isPl, decide_eq_false_iff_not] at hpl'
        simp only [scan_Scanner_text.l0, e0, Option.bind_some, plT, hpl]
        rw [if_neg (by decide), if_neg (by omega), if_neg (by omega)]
end Go.Proofs.Ytmalonlbnjiclaa.Pure
