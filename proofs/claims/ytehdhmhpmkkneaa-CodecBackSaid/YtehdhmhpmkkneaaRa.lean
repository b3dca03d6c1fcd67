/- Layer 12: what a reader answers, in plain words. -/
import Derived.Test.YtehdhmhpmkkneaaPAllx0
import Derived.Laws.BitsLemmas
import Derived.Laws.BytesArg
namespace Go.Proofs.Ytehdhmhpmkkneaa
open Go.RowKit Go.Proofs.YtehdhmhpmkkneaaW.PrintWords Go.Proofs.Ytehdhmhpmkkneaa.PAll

/-- A reader: what is left, and what was wrong first. -/
structure RS where
  xs : List Int
  err : Int

def byteS (s : RS) : Int × RS := if s.err = 0 then (match s.xs with | [] => (0, ⟨[], 120⟩) | b :: r => (b, ⟨r, 0⟩)) else (0, s)
/-- A number's bytes, one by one: j groups are taken, they make n. -/
def cntGo : List Int → Nat → Int → Int × RS
  | [], _, _ => (0, ⟨[], 120⟩)
  | b :: r, j, n => if j = 9 ∨ (0 < j ∧ b = 0) then (0, ⟨r, 121⟩) else if b < 128 then (n + b % 128 * 2 ^ (7 * j), ⟨r, 0⟩) else cntGo r (j + 1) (n + b % 128 * 2 ^ (7 * j))
/-- The limit is asked. -/
def fin (m : Int) (q : Int × RS) : Int × RS := if q.2.err = 0 then (if q.1 > max m 0 then (0, ⟨q.2.xs, 121⟩) else q) else q
def countS (m : Int) (s : RS) : Int × RS := if s.err = 0 then fin m (cntGo s.xs 0 0) else (0, s)
def numS (s : RS) : Int × RS := (if (countS 4294967295 s).1 % 2 = 1 then -(((countS 4294967295 s).1 + 1) / 2) else (countS 4294967295 s).1 / 2, (countS 4294967295 s).2)
def wordS (s : RS) : Int × RS :=
  if (byteS (byteS (byteS (byteS s).2).2).2).2.err = 0 then
    ((byteS s).1 + 256 * (byteS (byteS s).2).1 + 65536 * (byteS (byteS (byteS s).2).2).1 + 16777216 * (byteS (byteS (byteS (byteS s).2).2).2).1, (byteS (byteS (byteS (byteS s).2).2).2).2)
  else (0, (byteS (byteS (byteS (byteS s).2).2).2).2)
def leftS (s : RS) : Int := if s.err = 0 then s.xs.length else 0
def textS (m : Int) (s : RS) : ByteArray × RS :=
  if (countS m s).2.err = 0 then
    (if (countS m s).1 > (countS m s).2.xs.length then (ByteArray.empty, ⟨(countS m s).2.xs, 120⟩) else (strOfNums ((countS m s).2.xs.take (countS m s).1.toNat), ⟨(countS m s).2.xs.drop (countS m s).1.toNat, 0⟩))
  else (ByteArray.empty, (countS m s).2)
def endS (s : RS) : RS := if leftS s > 0 then ⟨s.xs, 121⟩ else s

/-- All are bytes. -/
def AllB (l : List Int) : Prop := ∀ x ∈ l, 0 ≤ x ∧ x ≤ 255
/-- The state of the code's reader: its bytes, where it is. -/
def Abs (f0 : List Int) (p : Int) (s : RS) : Prop := 0 ≤ p ∧ p ≤ f0.length ∧ s.xs = f0.drop p.toNat

/-- A byte is there, or none is. -/
theorem abs_cons {f0 : List Int} {p : Int} {s : RS} (h : Abs f0 p s) (hp : p < f0.length) : s.xs = f0.getD p.toNat 0 :: f0.drop (p.toNat + 1) := by
  obtain ⟨h0, h1, hx⟩ := h
  have hlt : p.toNat < f0.length := by omega
  rw [hx, List.drop_eq_getElem_cons hlt]
  simp [hlt]
theorem abs_nil {f0 : List Int} {p : Int} {s : RS} (h : Abs f0 p s) (hp : p = f0.length) : s.xs = [] := by
  obtain ⟨h0, h1, hx⟩ := h
  rw [hx]
  exact List.drop_of_length_le (by omega)

theorem wrapu64 (n : Int) (h0 : 0 ≤ n) (h1 : n < 2 ^ 64) : IntKind.u64.wrap n = n := by
  simp [IntKind.wrap, IntKind.bits, IntKind.signed]; omega

/-- The lower part, then the higher: their sum. -/
theorem or_low (k : IntKind) (j : Nat) (hj : j ≤ k.bits) (hk : ∀ n : Int, 0 ≤ n → n < 2 ^ j → k.wrap n = n) (i : Nat)
    (x y : Int) (hx₀ : 0 ≤ x) (hx : x % 2 ^ i = 0) (hx₁ : x < 2 ^ j) (hy₀ : 0 ≤ y) (hy : y < 2 ^ i) (hy₁ : y < 2 ^ j) : bits .or k y x = y + x := by
  have h := bits_join k j hj hk i x y hx₀ hx hx₁ hy₀ hy hy₁
  obtain ⟨a, rfl⟩ := Int.eq_ofNat_of_zero_le hx₀
  obtain ⟨b, rfl⟩ := Int.eq_ofNat_of_zero_le hy₀
  have ha : a < 2 ^ j := by exact_mod_cast hx₁
  have hb : b < 2 ^ j := by exact_mod_cast hy₁
  rw [(bits_nat k j hj hk a b ha hb).2] at h
  rw [(bits_nat k j hj hk b a hb ha).2, Nat.or_comm, h, Int.add_comm]

theorem u64_or7 (j : Nat) (hj : j ≤ 8) (n b : Int) (n0 : 0 ≤ n) (n1 : n < 2 ^ (7 * j)) (b0 : 0 ≤ b) (b1 : b ≤ 255) :
    bits .or .u64 n (shl .u64 (IntKind.u64.wrap (bits .and .u8 b 127)) ((7 * j : Nat) : Int)) = n + b % 128 * 2 ^ (7 * j) ∧ n + b % 128 * 2 ^ (7 * j) < 2 ^ (7 * (j + 1)) := by
  have e1 : bits .and .u8 b 127 = b % 128 := bits_mask .u8 8 (by decide) wraps_u8 7 (by decide) b b0 (by omega)
  have hp : (2 : Int) ^ (7 * (j + 1)) = 128 * 2 ^ (7 * j) := by rw [show 7 * (j + 1) = 7 * j + 7 by omega, Int.pow_add]; omega
  have hp9 : (2 : Int) ^ (7 * j) ≤ 2 ^ 56 := by exact_mod_cast Nat.pow_le_pow_right (by decide) (by omega : 7 * j ≤ 56)
  have hp0 : (0 : Int) < 2 ^ (7 * j) := by exact_mod_cast Nat.two_pow_pos _
  have hb0 : 0 ≤ b % 128 := by omega
  have hb1 : b % 128 ≤ 127 := by omega
  have hmul : b % 128 * 2 ^ (7 * j) ≤ 127 * 2 ^ (7 * j) := Int.mul_le_mul_of_nonneg_right hb1 (Int.le_of_lt hp0)
  have hmul0 : 0 ≤ b % 128 * 2 ^ (7 * j) := Int.mul_nonneg hb0 (Int.le_of_lt hp0)
  have e2 : shl .u64 (IntKind.u64.wrap (b % 128)) ((7 * j : Nat) : Int) = b % 128 * 2 ^ (7 * j) := by
    rw [wrapu64 _ hb0 (by omega)]
    unfold shl
    rw [Int.toNat_natCast, Nat.min_eq_left (by show 7 * j ≤ 64; omega)]
    exact wrapu64 _ hmul0 (by omega)
  rw [e1, e2]
  refine ⟨?_, by rw [hp]; omega⟩
  exact or_low .u64 64 (by decide) wrapu64 (7 * j) _ n hmul0 (Int.mul_emod_left _ _) (by omega) n0 n1 (by omega)

theorem cntGo_bd : ∀ (xs : List Int) (j : Nat) (n : Int), AllB xs → j ≤ 9 → 0 ≤ n → n < 2 ^ (7 * j) → 0 ≤ (cntGo xs j n).1 ∧ (cntGo xs j n).1 ≤ 9223372036854775807
  | [], _, _, _, _, _, _ => ⟨Int.le_refl _, by show (0 : Int) ≤ _; omega⟩
  | b :: r, j, n, ok, hj, n0, n1 => by
    obtain ⟨b0, b1⟩ := ok b (List.mem_cons_self ..)
    rw [cntGo]
    by_cases h : j = 9 ∨ (0 < j ∧ b = 0)
    · rw [if_pos h]; exact ⟨Int.le_refl _, by show (0 : Int) ≤ _; omega⟩
    · rw [if_neg h]
      have hj8 : j ≤ 8 := by omega
      obtain ⟨_, e2⟩ := u64_or7 j hj8 n b n0 n1 b0 b1
      have hp0 : (0 : Int) < 2 ^ (7 * j) := by exact_mod_cast Nat.two_pow_pos _
      have hmul0 : 0 ≤ b % 128 * 2 ^ (7 * j) := Int.mul_nonneg (by omega) (Int.le_of_lt hp0)
      have h63 : (2 : Int) ^ (7 * (j + 1)) ≤ 2 ^ 63 := by exact_mod_cast Nat.pow_le_pow_right (by decide) (by omega : 7 * (j + 1) ≤ 63)
      split
      · exact ⟨by simp only; omega, by simp only; omega⟩
      · exact cntGo_bd r (j + 1) _ (fun x hx => ok x (List.mem_cons_of_mem _ hx)) (by omega) (by omega) e2

theorem countS_bd (m : Int) (s : RS) (ok : AllB s.xs) : 0 ≤ (countS m s).1 ∧ (countS m s).1 ≤ max m 0 ∧ (countS m s).1 ≤ 9223372036854775807 := by
  unfold countS
  split
  · have h := cntGo_bd s.xs 0 0 ok (by omega) (by omega) (by simp)
    unfold fin
    split
    · split
      · simp only; omega
      · rename_i h1 h2
        omega
    · rename_i h1
      have e : (cntGo s.xs 0 0).1 = 0 := by
        have key : ∀ (xs : List Int) (j : Nat) (n : Int), (cntGo xs j n).2.err ≠ 0 → (cntGo xs j n).1 = 0 := by
          intro xs
          induction xs with
          | nil => intro j n _; rfl
          | cons b r ih =>
            intro j n hh
            rw [cntGo] at hh ⊢
            split
            · rfl
            · rename_i hc
              rw [if_neg hc] at hh
              split
              · rename_i hd; rw [if_pos hd] at hh; exact absurd rfl hh
              · rename_i hd; rw [if_neg hd] at hh; exact ih _ _ hh
        exact key _ _ _ h1
      omega
  · simp only; omega

theorem cntGo_err : ∀ (xs : List Int) (j : Nat) (n : Int), (cntGo xs j n).2.err ≠ 0 → (cntGo xs j n).1 = 0
  | [], _, _, _ => rfl
  | b :: r, j, n, hh => by
    rw [cntGo] at hh ⊢
    split
    · rfl
    · rename_i hc
      rw [if_neg hc] at hh
      split
      · rename_i hd; rw [if_pos hd] at hh; exact absurd rfl hh
      · rename_i hd; rw [if_neg hd] at hh; exact cntGo_err r _ _ hh
theorem countS_err (m : Int) (s : RS) (h : (countS m s).2.err ≠ 0) : (countS m s).1 = 0 := by
  unfold countS at h ⊢
  split
  · rename_i he
    rw [if_pos he] at h
    unfold fin at h ⊢
    split
    · rename_i h1
      rw [if_pos h1] at h
      split
      · rfl
      · rename_i h2
        rw [if_neg h2] at h
        exact absurd h1 h
    · rename_i h1
      exact cntGo_err _ _ _ h1
  · rfl


theorem and1 (n : Int) (h0 : 0 ≤ n) (h1 : n < 2 ^ 63) : bits .and .i64 n 1 = n % 2 :=
  bits_mask .i64 63 (by decide) (fun n a b => by rw [IntKind.wrap_i64]; omega) 1 (by decide) n h0 h1

theorem byteS_bd (s : RS) (ok : AllB s.xs) : 0 ≤ (byteS s).1 ∧ (byteS s).1 ≤ 255 ∧ AllB (byteS s).2.xs := by
  unfold byteS
  split
  · cases hx : s.xs with
    | nil => exact ⟨Int.le_refl _, by show (0 : Int) ≤ _; omega, fun x hm => by cases hm⟩
    | cons b r =>
      rw [hx] at ok
      exact ⟨(ok b (List.mem_cons_self ..)).1, (ok b (List.mem_cons_self ..)).2, fun x hm => ok x (List.mem_cons_of_mem _ hm)⟩
  · exact ⟨Int.le_refl _, by show (0 : Int) ≤ _; omega, ok⟩

theorem u32_or (i : Nat) (hi : i ≤ 24) (x b : Int) (x0 : 0 ≤ x) (x1 : x < 2 ^ i) (b0 : 0 ≤ b) (b1 : b ≤ 255) :
    bits .or .u32 x (shl .u32 (b % 4294967296) (i : Int)) = x + 2 ^ i * b ∧ x + 2 ^ i * b < 2 ^ (i + 8) := by
  have hw : ∀ n : Int, 0 ≤ n → n < 2 ^ 32 → IntKind.u32.wrap n = n := fun n a b => by rw [IntKind.wrap_u32]; omega
  have hp0 : (0 : Int) < 2 ^ i := by exact_mod_cast Nat.two_pow_pos _
  have hp24 : (2 : Int) ^ i ≤ 2 ^ 24 := by exact_mod_cast Nat.pow_le_pow_right (by decide) hi
  have hp8 : (2 : Int) ^ (i + 8) = 256 * 2 ^ i := by rw [Int.pow_add]; omega
  have hmul : b * 2 ^ i ≤ 255 * 2 ^ i := Int.mul_le_mul_of_nonneg_right b1 (Int.le_of_lt hp0)
  have hmul0 : 0 ≤ b * 2 ^ i := Int.mul_nonneg b0 (Int.le_of_lt hp0)
  have e : shl .u32 (b % 4294967296) (i : Int) = b * 2 ^ i := by
    unfold shl
    rw [Int.toNat_natCast, Nat.min_eq_left (by show i ≤ 32; omega), show b % 4294967296 = b by omega]
    exact hw _ hmul0 (by omega)
  rw [e, or_low .u32 32 (by decide) hw i _ x hmul0 (Int.mul_emod_left _ _) (by omega) x0 x1 (by omega), Int.mul_comm (2 ^ i) b]
  exact ⟨rfl, by rw [hp8]; omega⟩

theorem or_0 (b : Int) (b0 : 0 ≤ b) (b1 : b ≤ 255) : bits .or .u32 0 (shl .u32 (b % 4294967296) 0) = b := by
  have h := (u32_or 0 (by omega) 0 b (Int.le_refl _) (by simp) b0 b1).1
  rw [Int.natCast_zero, Int.pow_zero] at h
  omega
theorem or_8 (x b : Int) (x0 : 0 ≤ x) (x1 : x < 256) (b0 : 0 ≤ b) (b1 : b ≤ 255) : bits .or .u32 x (shl .u32 (b % 4294967296) 8) = x + 256 * b :=
  (u32_or 8 (by omega) x b x0 (by omega) b0 b1).1
theorem or_16 (x b : Int) (x0 : 0 ≤ x) (x1 : x < 65536) (b0 : 0 ≤ b) (b1 : b ≤ 255) : bits .or .u32 x (shl .u32 (b % 4294967296) 16) = x + 65536 * b :=
  (u32_or 16 (by omega) x b x0 (by omega) b0 b1).1
theorem or_24 (x b : Int) (x0 : 0 ≤ x) (x1 : x < 16777216) (b0 : 0 ≤ b) (b1 : b ≤ 255) : bits .or .u32 x (shl .u32 (b % 4294967296) 24) = x + 16777216 * b :=
  (u32_or 24 (by omega) x b x0 (by omega) b0 b1).1

theorem leftS_pos {s : RS} (h : leftS s > 0) : s.err = 0 := by
  unfold leftS at h
  split at h
  · assumption
  · omega

theorem mx_eq (m : Int) : mx m 0 = max m 0 := by unfold mx; split <;> omega

end Go.Proofs.Ytehdhmhpmkkneaa
