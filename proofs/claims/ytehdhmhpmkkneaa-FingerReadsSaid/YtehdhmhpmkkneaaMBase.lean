/- The texts Ra, Cw, Rc, Re, Cx, Cs, Cy, Rd, Rf, Rg, Pu, Pv, Cp, Oa, Ob, Op, Op2, Fw, Sa, Sb, Fx, Fr, Fk, On, one behind the other. -/
import Derived.Test.YtehdhmhpmkkneaaPAllx0
import Derived.Laws.BitsLemmas
import Derived.Laws.BytesArg
import Derived.WalkSpells
import Derived.WalkLawsBesides
import Derived.WalkSmall
import Derived.Lib.Hide
import Derived.Deep.QuietTactic
import Derived.BigQuiet
import Derived.Lib.AppendStr
import Derived.Test.YtehdhmhpmkkneaaPAllx5
import Derived.Test.YtehdhmhpmkkneaaPAllx6
import Derived.Test.YtehdhmhpmkkneaaPAllx7
import Derived.Deep.Slices
import Derived.ProofKit
import Derived.Deep.Fields
import Derived.Test.YtehdhmhpmkkneaaPAllx12
import Derived.RegionTactic
import Derived.ChangeAlike
import Derived.Test.YtehdhmhpmkkneaaPAllx13
import Derived.Test.YtehdhmhpmkkneaaPAllx8
import Derived.Test.YtehdhmhpmkkneaaPAllx10
import Derived.Test.YtehdhmhpmkkneaaPAllx11
import Derived.Test.YtehdhmhpmkkneaaPAllx9
/- Layer 12: what a reader answers, in plain words. -/
namespace Go.Proofs.Ytehdhmhpmkkneaa
open Go.RowKit Go.Proofs.YtehdhmhpmkkneaaW.PrintWords Go.Proofs.Ytehdhmhpmkkneaa.PAll

/-- A reader: what is left, and what was wrong first. -/
structure RS where
  xs : List Int
  err : Int

def byteS (s : RS) : Int × RS := if s.err = 0 then (match s.xs with | [] => (0, ⟨[], 120⟩) | b :: r => (b, ⟨r, 0⟩)) else (0, s)
/-- A number's bytes, one by one: j groups are taken, they make n. -/
def cntGo : List Int → Nat → Int → Int × RS
  | [], _, _ => (0, ⟨[], 120⟩)
  | b :: r, j, n => if j = 9 ∨ (0 < j ∧ b = 0) then (0, ⟨r, 121⟩) else if b < 128 then (n + b % 128 * 2 ^ (7 * j), ⟨r, 0⟩) else cntGo r (j + 1) (n + b % 128 * 2 ^ (7 * j))
/-- The limit is asked. -/
def fin (m : Int) (q : Int × RS) : Int × RS := if q.2.err = 0 then (if q.1 > max m 0 then (0, ⟨q.2.xs, 121⟩) else q) else q
def countS (m : Int) (s : RS) : Int × RS := if s.err = 0 then fin m (cntGo s.xs 0 0) else (0, s)
def numS (s : RS) : Int × RS := (if (countS 4294967295 s).1 % 2 = 1 then -(((countS 4294967295 s).1 + 1) / 2) else (countS 4294967295 s).1 / 2, (countS 4294967295 s).2)
def wordS (s : RS) : Int × RS :=
  if (byteS (byteS (byteS (byteS s).2).2).2).2.err = 0 then
    ((byteS s).1 + 256 * (byteS (byteS s).2).1 + 65536 * (byteS (byteS (byteS s).2).2).1 + 16777216 * (byteS (byteS (byteS (byteS s).2).2).2).1, (byteS (byteS (byteS (byteS s).2).2).2).2)
  else (0, (byteS (byteS (byteS (byteS s).2).2).2).2)
def leftS (s : RS) : Int := if s.err = 0 then s.xs.length else 0
def textS (m : Int) (s : RS) : ByteArray × RS :=
  if (countS m s).2.err = 0 then
    (if (countS m s).1 > (countS m s).2.xs.length then (ByteArray.empty, ⟨(countS m s).2.xs, 120⟩) else (strOfNums ((countS m s).2.xs.take (countS m s).1.toNat), ⟨(countS m s).2.xs.drop (countS m s).1.toNat, 0⟩))
  else (ByteArray.empty, (countS m s).2)
def endS (s : RS) : RS := if leftS s > 0 then ⟨s.xs, 121⟩ else s

/-- All are bytes. -/
def AllB (l : List Int) : Prop := ∀ x ∈ l, 0 ≤ x ∧ x ≤ 255
/-- The state of the code's reader: its bytes, where it is. -/
def Abs (f0 : List Int) (p : Int) (s : RS) : Prop := 0 ≤ p ∧ p ≤ f0.length ∧ s.xs = f0.drop p.toNat

/-- A byte is there, or none is. -/
theorem abs_cons {f0 : List Int} {p : Int} {s : RS} (h : Abs f0 p s) (hp : p < f0.length) : s.xs = f0.getD p.toNat 0 :: f0.drop (p.toNat + 1) := by
  obtain ⟨h0, h1, hx⟩ := h
  have hlt : p.toNat < f0.length := by omega
  rw [hx, List.drop_eq_getElem_cons hlt]
  simp [hlt]
theorem abs_nil {f0 : List Int} {p : Int} {s : RS} (h : Abs f0 p s) (hp : p = f0.length) : s.xs = [] := by
  obtain ⟨h0, h1, hx⟩ := h
  rw [hx]
  exact List.drop_of_length_le (by omega)

theorem wrapu64 (n : Int) (h0 : 0 ≤ n) (h1 : n < 2 ^ 64) : IntKind.u64.wrap n = n := by
  simp [IntKind.wrap, IntKind.bits, IntKind.signed]; omega

/-- The lower part, then the higher: their sum. -/
theorem or_low (k : IntKind) (j : Nat) (hj : j ≤ k.bits) (hk : ∀ n : Int, 0 ≤ n → n < 2 ^ j → k.wrap n = n) (i : Nat)
    (x y : Int) (hx₀ : 0 ≤ x) (hx : x % 2 ^ i = 0) (hx₁ : x < 2 ^ j) (hy₀ : 0 ≤ y) (hy : y < 2 ^ i) (hy₁ : y < 2 ^ j) : bits .or k y x = y + x := by
  have h := bits_join k j hj hk i x y hx₀ hx hx₁ hy₀ hy hy₁
  obtain ⟨a, rfl⟩ := Int.eq_ofNat_of_zero_le hx₀
  obtain ⟨b, rfl⟩ := Int.eq_ofNat_of_zero_le hy₀
  have ha : a < 2 ^ j := by exact_mod_cast hx₁
  have hb : b < 2 ^ j := by exact_mod_cast hy₁
  rw [(bits_nat k j hj hk a b ha hb).2] at h
  rw [(bits_nat k j hj hk b a hb ha).2, Nat.or_comm, h, Int.add_comm]

theorem u64_or7 (j : Nat) (hj : j ≤ 8) (n b : Int) (n0 : 0 ≤ n) (n1 : n < 2 ^ (7 * j)) (b0 : 0 ≤ b) (b1 : b ≤ 255) :
    bits .or .u64 n (shl .u64 (IntKind.u64.wrap (bits .and .u8 b 127)) ((7 * j : Nat) : Int)) = n + b % 128 * 2 ^ (7 * j) ∧ n + b % 128 * 2 ^ (7 * j) < 2 ^ (7 * (j + 1)) := by
  have e1 : bits .and .u8 b 127 = b % 128 := bits_mask .u8 8 (by decide) wraps_u8 7 (by decide) b b0 (by omega)
  have hp : (2 : Int) ^ (7 * (j + 1)) = 128 * 2 ^ (7 * j) := by rw [show 7 * (j + 1) = 7 * j + 7 by omega, Int.pow_add]; omega
  have hp9 : (2 : Int) ^ (7 * j) ≤ 2 ^ 56 := by exact_mod_cast Nat.pow_le_pow_right (by decide) (by omega : 7 * j ≤ 56)
  have hp0 : (0 : Int) < 2 ^ (7 * j) := by exact_mod_cast Nat.two_pow_pos _
  have hb0 : 0 ≤ b % 128 := by omega
  have hb1 : b % 128 ≤ 127 := by omega
  have hmul : b % 128 * 2 ^ (7 * j) ≤ 127 * 2 ^ (7 * j) := Int.mul_le_mul_of_nonneg_right hb1 (Int.le_of_lt hp0)
  have hmul0 : 0 ≤ b % 128 * 2 ^ (7 * j) := Int.mul_nonneg hb0 (Int.le_of_lt hp0)
  have e2 : shl .u64 (IntKind.u64.wrap (b % 128)) ((7 * j : Nat) : Int) = b % 128 * 2 ^ (7 * j) := by
    rw [wrapu64 _ hb0 (by omega)]
    unfold shl
    rw [Int.toNat_natCast, Nat.min_eq_left (by show 7 * j ≤ 64; omega)]
    exact wrapu64 _ hmul0 (by omega)
  rw [e1, e2]
  refine ⟨?_, by rw [hp]; omega⟩
  exact or_low .u64 64 (by decide) wrapu64 (7 * j) _ n hmul0 (Int.mul_emod_left _ _) (by omega) n0 n1 (by omega)

theorem cntGo_bd : ∀ (xs : List Int) (j : Nat) (n : Int), AllB xs → j ≤ 9 → 0 ≤ n → n < 2 ^ (7 * j) → 0 ≤ (cntGo xs j n).1 ∧ (cntGo xs j n).1 ≤ 9223372036854775807
  | [], _, _, _, _, _, _ => ⟨Int.le_refl _, by show (0 : Int) ≤ _; omega⟩
  | b :: r, j, n, ok, hj, n0, n1 => by
    obtain ⟨b0, b1⟩ := ok b (List.mem_cons_self ..)
    rw [cntGo]
    by_cases h : j = 9 ∨ (0 < j ∧ b = 0)
    · rw [if_pos h]; exact ⟨Int.le_refl _, by show (0 : Int) ≤ _; omega⟩
    · rw [if_neg h]
      have hj8 : j ≤ 8 := by omega
      obtain ⟨_, e2⟩ := u64_or7 j hj8 n b n0 n1 b0 b1
      have hp0 : (0 : Int) < 2 ^ (7 * j) := by exact_mod_cast Nat.two_pow_pos _
      have hmul0 : 0 ≤ b % 128 * 2 ^ (7 * j) := Int.mul_nonneg (by omega) (Int.le_of_lt hp0)
      have h63 : (2 : Int) ^ (7 * (j + 1)) ≤ 2 ^ 63 := by exact_mod_cast Nat.pow_le_pow_right (by decide) (by omega : 7 * (j + 1) ≤ 63)
      split
      · exact ⟨by simp only; omega, by simp only; omega⟩
      · exact cntGo_bd r (j + 1) _ (fun x hx => ok x (List.mem_cons_of_mem _ hx)) (by omega) (by omega) e2

theorem countS_bd (m : Int) (s : RS) (ok : AllB s.xs) : 0 ≤ (countS m s).1 ∧ (countS m s).1 ≤ max m 0 ∧ (countS m s).1 ≤ 9223372036854775807 := by
  unfold countS
  split
  · have h := cntGo_bd s.xs 0 0 ok (by omega) (by omega) (by simp)
    unfold fin
    split
    · split
      · simp only; omega
      · rename_i h1 h2
        omega
    · rename_i h1
      have e : (cntGo s.xs 0 0).1 = 0 := by
        have key : ∀ (xs : List Int) (j : Nat) (n : Int), (cntGo xs j n).2.err ≠ 0 → (cntGo xs j n).1 = 0 := by
          intro xs
          induction xs with
          | nil => intro j n _; rfl
          | cons b r ih =>
            intro j n hh
            rw [cntGo] at hh ⊢
            split
            · rfl
            · rename_i hc
              rw [if_neg hc] at hh
              split
              · rename_i hd; rw [if_pos hd] at hh; exact absurd rfl hh
              · rename_i hd; rw [if_neg hd] at hh; exact ih _ _ hh
        exact key _ _ _ h1
      omega
  · simp only; omega

theorem cntGo_err : ∀ (xs : List Int) (j : Nat) (n : Int), (cntGo xs j n).2.err ≠ 0 → (cntGo xs j n).1 = 0
  | [], _, _, _ => rfl
  | b :: r, j, n, hh => by
    rw [cntGo] at hh ⊢
    split
    · rfl
    · rename_i hc
      rw [if_neg hc] at hh
      split
      · rename_i hd; rw [if_pos hd] at hh; exact absurd rfl hh
      · rename_i hd; rw [if_neg hd] at hh; exact cntGo_err r _ _ hh
theorem countS_err (m : Int) (s : RS) (h : (countS m s).2.err ≠ 0) : (countS m s).1 = 0 := by
  unfold countS at h ⊢
  split
  · rename_i he
    rw [if_pos he] at h
    unfold fin at h ⊢
    split
    · rename_i h1
      rw [if_pos h1] at h
      split
      · rfl
      · rename_i h2
        rw [if_neg h2] at h
        exact absurd h1 h
    · rename_i h1
      exact cntGo_err _ _ _ h1
  · rfl


theorem and1 (n : Int) (h0 : 0 ≤ n) (h1 : n < 2 ^ 63) : bits .and .i64 n 1 = n % 2 :=
  bits_mask .i64 63 (by decide) (fun n a b => by rw [IntKind.wrap_i64]; omega) 1 (by decide) n h0 h1

theorem byteS_bd (s : RS) (ok : AllB s.xs) : 0 ≤ (byteS s).1 ∧ (byteS s).1 ≤ 255 ∧ AllB (byteS s).2.xs := by
  unfold byteS
  split
  · cases hx : s.xs with
    | nil => exact ⟨Int.le_refl _, by show (0 : Int) ≤ _; omega, fun x hm => by cases hm⟩
    | cons b r =>
      rw [hx] at ok
      exact ⟨(ok b (List.mem_cons_self ..)).1, (ok b (List.mem_cons_self ..)).2, fun x hm => ok x (List.mem_cons_of_mem _ hm)⟩
  · exact ⟨Int.le_refl _, by show (0 : Int) ≤ _; omega, ok⟩

theorem u32_or (i : Nat) (hi : i ≤ 24) (x b : Int) (x0 : 0 ≤ x) (x1 : x < 2 ^ i) (b0 : 0 ≤ b) (b1 : b ≤ 255) :
    bits .or .u32 x (shl .u32 (b % 4294967296) (i : Int)) = x + 2 ^ i * b ∧ x + 2 ^ i * b < 2 ^ (i + 8) := by
  have hw : ∀ n : Int, 0 ≤ n → n < 2 ^ 32 → IntKind.u32.wrap n = n := fun n a b => by rw [IntKind.wrap_u32]; omega
  have hp0 : (0 : Int) < 2 ^ i := by exact_mod_cast Nat.two_pow_pos _
  have hp24 : (2 : Int) ^ i ≤ 2 ^ 24 := by exact_mod_cast Nat.pow_le_pow_right (by decide) hi
  have hp8 : (2 : Int) ^ (i + 8) = 256 * 2 ^ i := by rw [Int.pow_add]; omega
  have hmul : b * 2 ^ i ≤ 255 * 2 ^ i := Int.mul_le_mul_of_nonneg_right b1 (Int.le_of_lt hp0)
  have hmul0 : 0 ≤ b * 2 ^ i := Int.mul_nonneg b0 (Int.le_of_lt hp0)
  have e : shl .u32 (b % 4294967296) (i : Int) = b * 2 ^ i := by
    unfold shl
    rw [Int.toNat_natCast, Nat.min_eq_left (by show i ≤ 32; omega), show b % 4294967296 = b by omega]
    exact hw _ hmul0 (by omega)
  rw [e, or_low .u32 32 (by decide) hw i _ x hmul0 (Int.mul_emod_left _ _) (by omega) x0 x1 (by omega), Int.mul_comm (2 ^ i) b]
  exact ⟨rfl, by rw [hp8]; omega⟩

theorem or_0 (b : Int) (b0 : 0 ≤ b) (b1 : b ≤ 255) : bits .or .u32 0 (shl .u32 (b % 4294967296) 0) = b := by
  have h := (u32_or 0 (by omega) 0 b (Int.le_refl _) (by simp) b0 b1).1
  rw [Int.natCast_zero, Int.pow_zero] at h
  omega
theorem or_8 (x b : Int) (x0 : 0 ≤ x) (x1 : x < 256) (b0 : 0 ≤ b) (b1 : b ≤ 255) : bits .or .u32 x (shl .u32 (b % 4294967296) 8) = x + 256 * b :=
  (u32_or 8 (by omega) x b x0 (by omega) b0 b1).1
theorem or_16 (x b : Int) (x0 : 0 ≤ x) (x1 : x < 65536) (b0 : 0 ≤ b) (b1 : b ≤ 255) : bits .or .u32 x (shl .u32 (b % 4294967296) 16) = x + 65536 * b :=
  (u32_or 16 (by omega) x b x0 (by omega) b0 b1).1
theorem or_24 (x b : Int) (x0 : 0 ≤ x) (x1 : x < 16777216) (b0 : 0 ≤ b) (b1 : b ≤ 255) : bits .or .u32 x (shl .u32 (b % 4294967296) 24) = x + 16777216 * b :=
  (u32_or 24 (by omega) x b x0 (by omega) b0 b1).1

theorem leftS_pos {s : RS} (h : leftS s > 0) : s.err = 0 := by
  unfold leftS at h
  split at h
  · assumption
  · omega

theorem mx_eq (m : Int) : mx m 0 = max m 0 := by unfold mx; split <;> omega

end Go.Proofs.Ytehdhmhpmkkneaa

/- Layer 12: the walks of the writer (codec.Writer): what each call puts behind the bytes that are there. -/
namespace Go.Proofs.Ytehdhmhpmkkneaa
open Go.RowKit Go.Proofs.YtehdhmhpmkkneaaW.PrintWords

theorem info5 : (Try.prog.info? 5).map (fun i => (i.zero, i.size, i.bytes)) = some (some (.int .u8 0), 1, 1) := by kernel_rfl

/-- From w to w': nothing that was there has changed but block g and v's own row; v' is v's row or a new one. -/
structure Mv (w w' : World) (g : Nat) (v v' : Value) : Prop where
  os : w'.os = w.os
  tape : w'.tape = w.tape
  output : w'.output = w.output
  size : w.heap.size ≤ w'.heap.size
  block : ∀ i, i < w.heap.size → i ≠ g → some i ≠ v.ownBlock → w'.heap[i]? = w.heap[i]?
  lies : v'.ownBlock = v.ownBlock ∨ ∃ b, v'.ownBlock = some b ∧ w.heap.size ≤ b

theorem Mv.refl (w : World) (g : Nat) (v : Value) : Mv w w g v v := ⟨rfl, rfl, rfl, Nat.le_refl _, fun _ _ _ _ => rfl, .inl rfl⟩
theorem Mv.trans {w w1 w2 : World} {g : Nat} {v v1 v2 : Value} (h : Mv w w1 g v v1) (k : Mv w1 w2 g v1 v2) : Mv w w2 g v v2 := by
  refine ⟨k.os.trans h.os, k.tape.trans h.tape, k.output.trans h.output, Nat.le_trans h.size k.size, fun i hi hg hv => ?_, ?_⟩
  · have hv1 : some i ≠ v1.ownBlock := by
      rcases h.lies with e | ⟨b, e, hb⟩
      · rw [e]; exact hv
      · rw [e]; intro e'; injection e' with e'; omega
    rw [k.block i (Nat.lt_of_lt_of_le hi h.size) hg hv1, h.block i hi hg hv]
  · rcases k.lies with e | ⟨b, e, hb⟩
    · rw [e]; exact h.lies
    · exact .inr ⟨b, e, Nat.le_trans h.size hb⟩
theorem Mv.of_below {w w1 : World} (h : Below w.heap.size w w1) (g : Nat) (v : Value) : Mv w w1 g v v :=
  ⟨h.os, h.tape, h.output, h.size, fun i hi _ _ => h.block i hi, .inl rfl⟩
theorem Mv.below {w0 w w1 : World} {B g : Nat} {v v1 : Value} (h : Mv w w1 g v v1) (hb : Below B w0 w) (hB : B ≤ w.heap.size) (hg : B ≤ g) (hv : ∀ k, v.ownBlock = some k → B ≤ k) : Below B w0 w1 :=
  hb.trans ⟨h.os, h.tape, h.output, h.size, fun i hi => h.block i (Nat.lt_of_lt_of_le hi hB) (by omega) (fun e => by have := hv i e.symm; omega)⟩

/-- A writer: block g holds the slice v, which owns the bytes xs; both lie from block B on. -/
def Wr (B : Nat) (w : World) (g : Nat) (v : Value) (xs : List Int) : Prop :=
  w.heap[g]? = some (.cells #[v] 26 (0, 0)) ∧ B ≤ g ∧ w.ownsRow B 5 1 v xs.length (nums .u8 xs)

theorem Wr.lt {B : Nat} {w : World} {g : Nat} {v : Value} {xs : List Int} (h : Wr B w g v xs) : g < w.heap.size := blk_lt h.1
theorem Wr.base {B : Nat} {w : World} {g : Nat} {v : Value} {xs : List Int} (h : Wr B w g v xs) : ∀ k, v.ownBlock = some k → B ≤ k := own_base h.2.2
theorem Wr.below {B : Nat} {w w1 : World} {g : Nat} {v : Value} {xs : List Int} (h : Wr B w g v xs) (hb : Below w.heap.size w w1) : Wr B w1 g v xs :=
  ⟨blk_below h.1 hb, h.2.1, pw_own_below h.2.2 hb⟩

theorem own_form {w : World} {base n : Nat} {e : TypeId} {size : Nat} {v : Value} {xs : List Value} (h : w.ownsRow base e size v n xs) : ∃ A m c, v = .slice A m c := by
  obtain ⟨A, c, rfl⟩ := own_slice h
  exact ⟨A, _, c, rfl⟩

/-- The row has grown, and is stored into the writer's block. -/
theorem wr_store {B : Nat} {w w1 : World} {g : Nat} {v v1 : Value} {xs ys : List Int} (h : Wr B w g v xs) (hg : w.grownBy w1 v.ownBlock) (hl : v1.ownBlock = v.ownBlock ∨ ∃ b, v1.ownBlock = some b ∧ w.heap.size ≤ b)
    (ho : w1.ownsRow B 5 1 v1 ys.length (nums .u8 ys)) : Wr B (w1.setCell ⟨g, 0, none⟩ v1) g v1 ys ∧ Mv w (w1.setCell ⟨g, 0, none⟩ v1) g v v1 := by
  obtain ⟨hb, hB, hr⟩ := h
  have hb1 := blk_grown hb hg (own_ne hr hb (by decide))
  refine ⟨⟨blk_set hb1 0 v1, hB, own_setCell ho (own_ne ho hb1 (by decide)) _⟩, ⟨hg.os, hg.tape, hg.output, by simpa [World.setCell] using hg.size, fun i hi hi1 hi2 => ?_, hl⟩⟩
  rw [Below.heap_setCell w1 ⟨g, 0, none⟩ v1 i hi1]
  exact hg.block i hi hi2

set_option maxHeartbeats 400000 in
theorem wbyte (B g : Nat) (v : Value) (xs : List Int) (b : Int) (w : World) (h : Wr B w g v xs) (hl : xs.length + 1 ≤ 140737488355328) :
    Calls Try.prog 74 #[.pointer (some ⟨g, 0, none⟩), .int .u8 b] w fun e w' => e = .returned (.tuple #[]) ∧ ∃ v', Wr B w' g v' (xs ++ [b]) ∧ Mv w w' g v v' := by
  have HW := Lib.hid h
  obtain ⟨hb, hg, ho⟩ := h
  obtain ⟨A, c, rfl⟩ := own_slice ho
  have hc := blk_cell hb 0
  simp only [List.getElem?_toArray, List.getElem?_cons_zero] at hc
  have hz := blk_frozen hb 0
  have hlt := blk_lt hb
  have HO := Lib.hid ho
  have HBK := Lib.hid hb
  have HL := Lib.hid hl
  clear ho hb hl
  go_enter Try.func74, Try.ntmps74
  go_wp2_with (at_builtin; go_must (refine print_append_num (w0 := w) B rfl _ _ 24 5 .u8 1 rfl Try.underlying24 info5 (by decide) (.slice A xs.length c) xs b rfl rfl HO.out (Below.refl _ _) (by omega) (by have := HL.out; omega) ?_; intro v1 w1 hown hbel hgrow hlie; obtain ⟨A1, n1, cap1, rfl⟩ := own_form hown; have hb1 := blk_grown HBK.out hgrow (own_ne HO.out HBK.out (by decide)); have hc1 : w1.cell? ⟨g, 0, none⟩ = some (.slice A xs.length c) := blk_cell hb1 0; have hz1 := blk_frozen hb1 0; clear hb1; have HS := Lib.hid (wr_store HW.out hgrow hlie hown); clear hown hlie hgrow hbel))
  go_end0
  exact ⟨rfl, _, HS.out⟩

end Go.Proofs.Ytehdhmhpmkkneaa

/- Layer 12: the code's reader: walks of Left, fail, Byte, End. -/
namespace Go.Proofs.Ytehdhmhpmkkneaa
open Go.RowKit Go.Proofs.YtehdhmhpmkkneaaW.PrintWords Go.Proofs.Ytehdhmhpmkkneaa.PAll

/-- A reader at block g of W that reads s; its bytes were there in w0. -/
def IsR (w0 W : World) (g : Nat) (s : RS) : Prop :=
  ∃ f0 p A c, W.heap[g]? = some (.cells #[.slice A f0.length c, .int .i64 p, .int .i64 s.err] 123 (0, 0)) ∧ w0.heap.size ≤ g ∧ f0.length ≤ c ∧ ReadsInt w0 .u8 A f0.length f0 ∧ Abs f0 p s ∧ AllB f0 ∧ f0.length ≤ 140737488351232

theorem IsR.bytes {w0 W : World} {g : Nat} {s : RS} (h : IsR w0 W g s) : AllB s.xs := by
  obtain ⟨f0, p, A, c, _, _, _, _, ⟨_, _, hx⟩, ok, _⟩ := h
  intro x hm
  rw [hx] at hm
  exact ok x (List.mem_of_mem_drop hm)
theorem IsR.len {w0 W : World} {g : Nat} {s : RS} (h : IsR w0 W g s) : s.xs.length ≤ 140737488351232 := by
  obtain ⟨f0, p, A, c, _, _, _, _, ⟨_, _, hx⟩, ok, hm⟩ := h
  rw [hx, List.length_drop]
  omega
theorem IsR.errCell {w0 W : World} {g : Nat} {s : RS} (h : IsR w0 W g s) : W.cell? ⟨g, 2, none⟩ = some (.int .i64 s.err) := by
  obtain ⟨f0, p, A, c, hb, _⟩ := h
  exact blk_cell hb 2

theorem drawn_heap {w w1 : World} (h : Drawn0 w w1) : w1.heap = w.heap := by
  obtain ⟨n, rfl⟩ := h.out
  rfl
theorem IsR.drawn {w0 w w1 : World} {g : Nat} {s : RS} (h : IsR w0 w g s) (d : Drawn0 w w1) : IsR w0 w1 g s := by
  unfold IsR at *
  rw [drawn_heap d]
  exact h
theorem keep_drawn {w w1 : World} (d : Drawn0 w w1) (g : Nat) : KeepBut w w1 g none := KeepBut.of_below d.below g none

/-- Behind a call of the reader: its answer, its state; nothing else that was there has changed. -/
def RPost (w0 w : World) (g : Nat) (v : Value) (s : RS) (e : Ending) (w' : World) : Prop := e = .returned v ∧ IsR w0 w' g s ∧ Below w0.heap.size w0 w' ∧ KeepBut w w' g none

theorem keep_trans {w w1 w2 : World} {g : Nat} (h : KeepBut w w1 g none) (k : KeepBut w1 w2 g none) : KeepBut w w2 g none := h.trans k (.inl rfl)
theorem RPost.after {w0 w w1 : World} {g : Nat} {v : Value} {s : RS} {e : Ending} {w' : World} (k : KeepBut w w1 g none) (h : RPost w0 w1 g v s e w') : RPost w0 w g v s e w' :=
  ⟨h.1, h.2.1, h.2.2.1, keep_trans k h.2.2.2⟩

set_option maxHeartbeats 400000 in
set_option maxRecDepth 100000 in
theorem cleft (w0 w : World) (g : Nat) (s : RS) (h : IsR w0 w g s) :
    Calls Try.prog 32 #[.pointer (some ⟨g, 0, none⟩)] w fun e w' => e = .returned (.int .i64 (leftS s)) ∧ Drawn0 w w' := by
  obtain ⟨f0, p, A, c, hblk, hg, hc, hrd, ⟨p0, p1, px⟩, ok, hm⟩ := h
  have c0 : w.cell? ⟨g, 0, none⟩ = some (.slice A f0.length c) := blk_cell hblk 0
  have c1 : w.cell? ⟨g, 1, none⟩ = some (.int .i64 p) := blk_cell hblk 1
  have c2 : w.cell? ⟨g, 2, none⟩ = some (.int .i64 s.err) := blk_cell hblk 2
  by_cases he : s.err = 0
  · have hL : leftS s = f0.length - p := by unfold leftS; rw [if_pos he, px, List.length_drop]; omega
    rw [hL]
    have E1 : (s.err == 0) = true := beq_iff_eq.2 he
    have E2 : (s.err != 0) = false := by rw [he]; rfl
    clear hL he hblk hrd px ok
    go_enter Try.func32, Try.ntmps32
    go_wp2
    go_quiet (fail)
    go_wp2
    go_ret
    exact ⟨rfl, ⟨_, rfl⟩⟩
  · have hL : leftS s = 0 := by unfold leftS; rw [if_neg he]
    rw [hL]
    have E1 : (s.err == 0) = false := beq_eq_false_iff_ne.2 he
    have E2 : (s.err != 0) = true := bne_iff_ne.2 he
    clear hL he hblk hrd px ok
    go_enter Try.func32, Try.ntmps32
    go_wp2
    go_ret
    exact ⟨rfl, Drawn0.refl _⟩

/-- What fail leaves. -/
def failS (s : RS) (x : Int) : RS := if s.err = 0 then ⟨s.xs, x⟩ else s

set_option maxHeartbeats 400000 in
set_option maxRecDepth 100000 in
theorem cfail (w0 w : World) (g : Nat) (s : RS) (x : Int) (h : IsR w0 w g s) (hb : Below w0.heap.size w0 w) :
    Calls Try.prog 91 #[.pointer (some ⟨g, 0, none⟩), .int .i64 x] w (RPost w0 w g (.tuple #[]) (failS s x)) := by
  have HI := Lib.hid h
  have HB := Lib.hid hb
  obtain ⟨f0, p, A, c, hblk, hg, hc, hrd, ⟨p0, p1, px⟩, ok, hm⟩ := h
  have c2 : w.cell? ⟨g, 2, none⟩ = some (.int .i64 s.err) := blk_cell hblk 2
  have z2 := blk_frozen hblk 2
  have BLK := Lib.hid hblk
  have HRD := Lib.hid hrd
  have PX := Lib.hid px
  have OK := Lib.hid ok
  by_cases he : s.err = 0
  · have hF : failS s x = ⟨s.xs, x⟩ := by unfold failS; rw [if_pos he]
    rw [hF]
    have E1 : (s.err == 0) = true := beq_iff_eq.2 he
    have E2 : (s.err != 0) = false := by rw [he]; rfl
    clear hF he hblk hrd px hb ok
    go_enter Try.func91, Try.ntmps91
    go_wp2
    go_end0
    exact ⟨rfl, ⟨f0, p, A, c, blk_set BLK.out 2 _, hg, hc, HRD.out, ⟨p0, p1, PX.out⟩, OK.out, hm⟩, HB.out.setCell hg _, (KeepBut.refl _ _ _).set_ 2 _⟩
  · have hF : failS s x = s := by unfold failS; rw [if_neg he]
    rw [hF]
    have E1 : (s.err == 0) = false := beq_eq_false_iff_ne.2 he
    have E2 : (s.err != 0) = true := bne_iff_ne.2 he
    clear hF he hblk hrd px hb ok
    go_enter Try.func91, Try.ntmps91
    go_wp2
    go_end0
    exact ⟨rfl, HI.out, HB.out, KeepBut.refl _ _ _⟩

set_option maxHeartbeats 400000 in
set_option maxRecDepth 100000 in
theorem cerr (w0 w : World) (g : Nat) (s : RS) (h : IsR w0 w g s) (hb : Below w0.heap.size w0 w) :
    Calls Try.prog 31 #[.pointer (some ⟨g, 0, none⟩)] w (RPost w0 w g (.int .i64 s.err) s) := by
  have HI := Lib.hid h
  have HB := Lib.hid hb
  have c2 := h.errCell
  clear h hb
  go_enter Try.func31, Try.ntmps31
  go_wp2
  go_ret
  exact ⟨rfl, HI.out, HB.out, KeepBut.refl _ _ _⟩

set_option maxHeartbeats 400000 in
set_option maxRecDepth 100000 in
theorem cbyte (w0 w : World) (g : Nat) (s : RS) (h : IsR w0 w g s) (hb : Below w0.heap.size w0 w) :
    Calls Try.prog 46 #[.pointer (some ⟨g, 0, none⟩)] w (RPost w0 w g (.int .u8 (byteS s).1) (byteS s).2) := by
  have HI := Lib.hid h
  have HB := Lib.hid hb
  obtain ⟨f0, p, A, c, hblk, hg, hc, hrd, ⟨p0, p1, px⟩, ok, hm⟩ := h
  by_cases hL : leftS s < 1
  · have hS : byteS s = (0, failS s 120) := by
      unfold byteS failS
      by_cases he : s.err = 0
      · rw [if_pos he, if_pos he]
        unfold leftS at hL
        rw [if_pos he] at hL
        have : s.xs = [] := List.eq_nil_of_length_eq_zero (by omega)
        rw [this]
      · rw [if_neg he, if_neg he]
    rw [hS]
    clear hS hblk hrd px hb ok
    go_enter Try.func46, Try.ntmps46
    go_wp2_with fail
    refine (cleft w0 w g s HI.out).mono ?_
    rintro e w1 ⟨rfl, d1⟩
    have D1 := Lib.hid d1
    clear d1
    go_wp2_with fail
    refine (cfail w0 w1 g s 120 (HI.out.drawn D1.out) (HB.out.trans (D1.out.below.mono HB.out.size))).mono ?_
    rintro e w2 ⟨rfl, i2, b2, k2⟩
    have I2 := Lib.hid i2
    have B2 := Lib.hid b2
    have K2 := Lib.hid (keep_trans (keep_drawn D1.out g) k2)
    clear i2 b2 k2
    go_wp2
    go_ret
    exact ⟨rfl, I2.out, B2.out, K2.out⟩
  · have he : s.err = 0 := leftS_pos (by omega)
    have hpl : p < f0.length := by
      unfold leftS at hL
      rw [if_pos he, px, List.length_drop] at hL
      omega
    have ha : Abs f0 p s := ⟨p0, p1, px⟩
    have hcons := abs_cons ha hpl
    have hS : byteS s = (f0.getD p.toNat 0, ⟨f0.drop (p.toNat + 1), 0⟩) := by
      unfold byteS
      rw [if_pos he, hcons]
    rw [hS]
    obtain ⟨ad, rfl, hcl⟩ := hrd.2.2 (by omega)
    have x0 := hcl 0 (by omega)
    obtain ⟨b, off, spot⟩ := ad
    obtain rfl : spot = none := by simpa [Addr.add] using World.cell?_spot x0
    have x1 := hcl p.toNat (by omega)
    have hbl : b < w0.heap.size := by
      have := World.block_lt_of_cell? _ _ x0
      simpa [Addr.add] using this
    rw [WideShapes.add_plain] at x1
    have HRD := Lib.hid hrd
    have OK := Lib.hid ok
    have HE := Lib.hid he
    obtain ⟨q, rfl⟩ := Int.eq_ofNat_of_zero_le p0
    rw [Int.toNat_natCast] at x1 ⊢
    obtain ⟨y, hy⟩ : ∃ y, y = f0.getD q 0 := ⟨_, rfl⟩
    rw [← hy] at x1 ⊢
    have BLK := Lib.hid hblk
    clear hS hcons hcl x0 hrd ok hb ha hblk he
    go_enter Try.func46, Try.ntmps46
    go_wp2_with fail
    refine (cleft w0 w g s HI.out).mono ?_
    rintro e w1 ⟨rfl, d1⟩
    have D1 := Lib.hid d1
    have BLK1 : Hid (w1.heap[g]? = some (.cells #[.slice (some ⟨b, off, none⟩) f0.length c, .int .i64 q, .int .i64 s.err] 123 (0, 0))) := Lib.hid (by rw [drawn_heap d1]; exact BLK.out)
    have HB1 := Lib.hid (HB.out.trans (d1.below.mono HB.out.size))
    clear d1
    have c0 : w1.cell? ⟨g, 0, none⟩ = some (.slice (some ⟨b, off, none⟩) f0.length c) := blk_cell BLK1.out 0
    have c1 : w1.cell? ⟨g, 1, none⟩ = some (.int .i64 q) := blk_cell BLK1.out 1
    have z1 := blk_frozen BLK1.out 1
    go_wp2
    obtain ⟨W, hW⟩ : ∃ W : World, W = w1.setCell ⟨g, 1, none⟩ (.int .i64 ((q : Int) + 1)) := ⟨_, rfl⟩
    have bW : W.heap[g]? = some (.cells #[.slice (some ⟨b, off, none⟩) f0.length c, .int .i64 ((q : Int) + 1), .int .i64 s.err] 123 (0, 0)) := by rw [hW]; exact blk_set BLK1.out 1 _
    have d0 : W.cell? ⟨g, 0, none⟩ = some (.slice (some ⟨b, off, none⟩) f0.length c) := blk_cell bW 0
    have d1 : W.cell? ⟨g, 1, none⟩ = some (.int .i64 ((q : Int) + 1)) := blk_cell bW 1
    have BB : Hid (Below w0.heap.size w0 W) := Lib.hid (by rw [hW]; exact HB1.out.setCell hg _)
    have KK : Hid (KeepBut w W g none) := Lib.hid (by rw [hW]; exact (keep_drawn D1.out g).set_ 1 _)
    have d2 : W.cell? ⟨b, off + q, none⟩ = some (.int .u8 y) := (BB.out.cell (p := ⟨b, off + q, none⟩) hbl).trans x1
    rw [← hW]
    have BW := Lib.hid bW
    have hs : IntKind.i64.wrap (q : Int) = q := by rw [IntKind.wrap_i64]; omega
    have hq0 : (0 : Int) ≤ q := by omega
    clear hW bW c0 c1 z1 x1
    go_quiet (fail)
    go_wp2
    go_ret
    refine ⟨by rw [hy, List.getD_eq_getElem?_getD]; rfl, ?_, pw_below_drewN BB.out _, KK.out⟩
    have hbw := BW.out
    rw [HE.out] at hbw
    exact ⟨f0, (q : Int) + 1, some ⟨b, off, none⟩, c, hbw, hg, hc, HRD.out, ⟨by omega, by omega, by simp only; congr 1⟩, OK.out, hm⟩
end Go.Proofs.Ytehdhmhpmkkneaa

/- Layer 12: the code's reader: the walk of Count. -/
namespace Go.Proofs.Ytehdhmhpmkkneaa
open Go.RowKit Go.Proofs.YtehdhmhpmkkneaaW.PrintWords Go.Proofs.YtehdhmhpmkkneaaW.PrintMore Go.Proofs.Ytehdhmhpmkkneaa.PAll

theorem countS_bad {m : Int} {s : RS} (h : s.err ≠ 0) : countS m s = (0, s) := by unfold countS; rw [if_neg h]
theorem byteS_bad {s : RS} (h : s.err ≠ 0) : byteS s = (0, s) := by unfold byteS; rw [if_neg h]

set_option maxHeartbeats 400000 in
set_option maxRecDepth 100000 in
theorem ccount_bad (w0 w : World) (g : Nat) (s : RS) (m : Int) (h : IsR w0 w g s) (hb : Below w0.heap.size w0 w) (he : s.err ≠ 0) :
    Calls Try.prog 40 #[.pointer (some ⟨g, 0, none⟩), .int .i64 m] w (RPost w0 w g (.int .i64 (countS m s).1) (countS m s).2) := by
  rw [countS_bad he]
  have HI := Lib.hid h
  have HB := Lib.hid hb
  have hby := cbyte w0 w g s h hb
  rw [byteS_bad he] at hby
  have HY := Lib.hid hby
  have E1 : (s.err == 0) = false := beq_eq_false_iff_ne.2 he
  have E2 : (s.err != 0) = true := bne_iff_ne.2 he
  clear h hb hby he
  go_enter Try.func40, Try.ntmps40
  go_wp2
  refine wp_loop_rounds 1 ?_
  rw [rounds_succ]
  go_wp2_with fail
  refine HY.out.mono ?_
  rintro e w1 ⟨rfl, i1, b1, k1⟩
  have c2 := i1.errCell
  have I1 := Lib.hid i1
  have B1 := Lib.hid b1
  have K1 := Lib.hid k1
  clear i1 b1 k1
  go_wp2
  go_ret
  exact ⟨rfl, I1.out, B1.out, K1.out⟩

theorem max2_mx (x : Int) : Builtin.max2 (.int .i64 x) (.int .i64 0) = pure (.int .i64 (mx x 0)) := by simp only [Builtin.max2, gt_iff_lt, mx]
theorem or7_walk (j : Nat) (hj : j ≤ 8) (n b : Int) (n0 : 0 ≤ n) (n1 : n < 2 ^ (7 * j)) (b0 : 0 ≤ b) (b1 : b ≤ 255) :
    bits .or .u64 n (IntKind.u64.wrap (IntKind.u64.wrap (bits .and .u8 b 127) * 2 ^ (7 * j))) = n + b % 128 * 2 ^ (7 * j) := by
  have h := (u64_or7 j hj n b n0 n1 b0 b1).1
  unfold shl at h
  rwa [Int.toNat_natCast, Nat.min_eq_left (by show 7 * j ≤ 64; omega)] at h

section
attribute [local go_sem] max2_mx max_two
set_option maxHeartbeats 1000000 in
set_option maxRecDepth 100000 in
theorem ccount_good (w0 w : World) (g : Nat) (s : RS) (m : Int) (hm1 : m ≤ 9223372036854775807) (h : IsR w0 w g s) (hb : Below w0.heap.size w0 w) (he : s.err = 0) :
    Calls Try.prog 40 #[.pointer (some ⟨g, 0, none⟩), .int .i64 m] w (RPost w0 w g (.int .i64 (countS m s).1) (countS m s).2) := by
  have HI := Lib.hid h
  have HB := Lib.hid hb
  have hC : countS m s = fin m (cntGo s.xs 0 0) := by unfold countS; rw [if_pos he]
  have HC := Lib.hid hC.symm
  have HE := Lib.hid he
  have e0 : s = ⟨s.xs, 0⟩ := by rw [← he]
  have I0 : Hid (IsR w0 w g ⟨s.xs, 0⟩) := Lib.hid (by rw [← e0]; exact h)
  clear e0
  generalize countS m s = q at *
  obtain ⟨qn, qs⟩ := q
  simp only
  have HM := Lib.hid hm1
  clear h hb hC he hm1
  go_enter Try.func40, Try.ntmps40
  go_wp2
  go_loopw [4, 5, 6, 7] (fun r4 r5 r6 _ wr => ∃ (j : Nat) (n : Int) (xs : List Int), r4 = .int .i64 0 ∧ r5 = .int .u64 n ∧ r6 = .int .i64 (7 * j : Nat) ∧ j ≤ 9 ∧ 0 ≤ n ∧ Hid (n < 2 ^ (7 * j)) ∧ Hid (IsR w0 wr g ⟨xs, 0⟩) ∧ Hid (Below w0.heap.size w0 wr) ∧ Hid (KeepBut w wr g none) ∧ Hid (fin m (cntGo xs j n) = (qn, qs)))
    (fun _ _ r6 _ _ => (70 - intOf r6).toNat)
  case atStart => exact ⟨0, 0, s.xs, rfl, rfl, rfl, by omega, by omega, Lib.hid (by simp), I0, HB, Lib.hid (KeepBut.refl _ _ _), HC⟩
  case round =>
    obtain ⟨j, n, xs, rfl, rfl, rfl, hj, hn0, HN, HR, HBr, HK, HF⟩ := hrel
    cases xs with
    | nil =>
      have hq : (0, (⟨[], 120⟩ : RS)) = (qn, qs) := HF.out
      injection hq with h1 h2
      subst h1 h2
      go_wp2_with fail
      refine (cbyte w0 wr g ⟨[], 0⟩ HR.out HBr.out).mono ?_
      rintro e w1 ⟨rfl, i1, b1, k1⟩
      have c2 : w1.cell? ⟨g, 2, none⟩ = some (.int .i64 120) := i1.errCell
      have I1 := Lib.hid i1
      have B1 := Lib.hid b1
      have K1 := Lib.hid k1
      clear i1 b1 k1
      go_wp2
      go_ret
      exact ⟨rfl, I1.out, B1.out, keep_trans HK.out K1.out⟩
    | cons b r =>
      have hbb := HR.out.bytes b (List.mem_cons_self ..)
      obtain ⟨b0, b1⟩ := hbb
      have C := cbyte w0 wr g ⟨b :: r, 0⟩ HR.out HBr.out
      have C' : Calls Try.prog 46 #[.pointer (some ⟨g, 0, none⟩)] wr (RPost w0 wr g (.int .u8 b) ⟨r, 0⟩) := C
      have HCY := Lib.hid C'
      clear C C'
      go_wp2_with fail
      refine HCY.out.mono ?_
      rintro e w1 ⟨rfl, i1, bw1, k1⟩
      have c2 : w1.cell? ⟨g, 2, none⟩ = some (.int .i64 0) := i1.errCell
      have I1 := Lib.hid i1
      have B1 := Lib.hid bw1
      have K1 := Lib.hid (keep_trans HK.out k1)
      clear i1 bw1 k1 HCY
      by_cases h9 : j = 9 ∨ (0 < j ∧ b = 0)
      · have hq : (0, (⟨r, 121⟩ : RS)) = (qn, qs) := by
          have h := HF.out
          rw [cntGo, if_pos h9] at h
          exact h
        injection hq with h1 h2
        subst h1 h2
        rcases h9 with h9 | ⟨h9, hb0⟩
        · subst h9
          go_wp2_with fail
          refine (cfail w0 w1 g ⟨r, 0⟩ 121 I1.out B1.out).mono ?_
          rintro e w2 ⟨rfl, i2, bw2, k2⟩
          have I2 : Hid (IsR w0 w2 g ⟨r, 121⟩) := Lib.hid i2
          have B2 := Lib.hid bw2
          have K2 := Lib.hid (keep_trans K1.out k2)
          clear i2 bw2 k2
          go_wp2
          go_ret
          exact ⟨rfl, I2.out, B2.out, K2.out⟩
        · by_cases hj9 : j = 9
          · subst hj9
            go_wp2_with fail
            refine (cfail w0 w1 g ⟨r, 0⟩ 121 I1.out B1.out).mono ?_
            rintro e w2 ⟨rfl, i2, bw2, k2⟩
            have I2 : Hid (IsR w0 w2 g ⟨r, 121⟩) := Lib.hid i2
            have B2 := Lib.hid bw2
            have K2 := Lib.hid (keep_trans K1.out k2)
            clear i2 bw2 k2
            go_wp2
            go_ret
            exact ⟨rfl, I2.out, B2.out, K2.out⟩
          · have hj8 : j ≤ 8 := by omega
            have BE : (b == 0) = true := by simp [hb0]
            clear hb0 hj9 hj
            go_wp2_with fail
            refine (cfail w0 w1 g ⟨r, 0⟩ 121 I1.out B1.out).mono ?_
            rintro e w2 ⟨rfl, i2, bw2, k2⟩
            have I2 : Hid (IsR w0 w2 g ⟨r, 121⟩) := Lib.hid i2
            have B2 := Lib.hid bw2
            have K2 := Lib.hid (keep_trans K1.out k2)
            clear i2 bw2 k2
            go_wp2
            go_ret
            exact ⟨rfl, I2.out, B2.out, K2.out⟩
      · have hj8 : j ≤ 8 := by omega
        have KV := or7_walk j hj8 n b hn0 HN.out b0 b1
        have hp0 : (0 : Int) < 2 ^ (7 * j) := by exact_mod_cast Nat.two_pow_pos _
        have hmul0 : 0 ≤ b % 128 * 2 ^ (7 * j) := Int.mul_nonneg (by omega) (Int.le_of_lt hp0)
        have hv := (u64_or7 j hj8 n b hn0 HN.out b0 b1).2
        have h63 : (2 : Int) ^ (7 * (j + 1)) ≤ 2 ^ 63 := by exact_mod_cast Nat.pow_le_pow_right (by decide) (by omega : 7 * (j + 1) ≤ 63)
        have v0 : 0 ≤ n + b % 128 * 2 ^ (7 * j) := by omega
        have v63 : n + b % 128 * 2 ^ (7 * j) ≤ 9223372036854775807 := by omega
        have VL := Lib.hid hv
        have HF2 : Hid (fin m (if b < 128 then (n + b % 128 * 2 ^ (7 * j), ⟨r, 0⟩) else cntGo r (j + 1) (n + b % 128 * 2 ^ (7 * j))) = (qn, qs)) := Lib.hid (by
          have h := HF.out
          rwa [cntGo, if_neg h9] at h)
        have BE : 0 < j → (b == 0) = false := fun h => beq_eq_false_iff_ne.2 (fun e => h9 (.inr ⟨h, e⟩))
        have h9' := Lib.hid h9
        clear hp0 hmul0 hv h63 HF h9
        generalize hvv : n + b % 128 * 2 ^ (7 * j) = v at *
        clear hvv
        by_cases hb128 : b < 128
        · have hq : fin m (v, ⟨r, 0⟩) = (qn, qs) := by have h := HF2.out; rwa [if_pos hb128] at h
          obtain ⟨M, hM⟩ : ∃ M, M = max m 0 := ⟨_, rfl⟩
          have KM : IntKind.u64.wrap (mx m 0) = M := by rw [mx_eq, hM]; exact wrapu64 _ (by omega) (by have := HM.out; omega)
          by_cases hvm : v > M
          · have hq2 : (0, (⟨r, 121⟩ : RS)) = (qn, qs) := by
              unfold fin at hq
              rw [if_pos rfl, ← hM, if_pos hvm] at hq
              exact hq
            injection hq2 with h1 h2
            subst h1 h2
            clear hq hM hj HF2
            by_cases hj0 : 0 < j
            · have BE' := BE hj0
              clear BE
              go_wp2_with fail
              refine (cfail w0 w1 g ⟨r, 0⟩ 121 I1.out B1.out).mono ?_
              rintro e w2 ⟨rfl, i2, bw2, k2⟩
              have I2 : Hid (IsR w0 w2 g ⟨r, 121⟩) := Lib.hid i2
              have B2 := Lib.hid bw2
              have K2 := Lib.hid (keep_trans K1.out k2)
              clear i2 bw2 k2
              go_wp2
              go_ret
              exact ⟨rfl, I2.out, B2.out, K2.out⟩
            · clear BE
              go_wp2_with fail
              refine (cfail w0 w1 g ⟨r, 0⟩ 121 I1.out B1.out).mono ?_
              rintro e w2 ⟨rfl, i2, bw2, k2⟩
              have I2 : Hid (IsR w0 w2 g ⟨r, 121⟩) := Lib.hid i2
              have B2 := Lib.hid bw2
              have K2 := Lib.hid (keep_trans K1.out k2)
              clear i2 bw2 k2
              go_wp2
              go_ret
              exact ⟨rfl, I2.out, B2.out, K2.out⟩
          · have hq2 : (v, (⟨r, 0⟩ : RS)) = (qn, qs) := by
              unfold fin at hq
              rw [if_pos rfl, ← hM, if_neg hvm] at hq
              exact hq
            injection hq2 with h1 h2
            subst h1 h2
            have hvm' : v ≤ M := by omega
            clear hq hM hj HF2 hvm
            by_cases hj0 : 0 < j
            · have BE' := BE hj0
              clear BE
              go_wp2
              go_ret
              exact ⟨rfl, I1.out, B1.out, K1.out⟩
            · clear BE
              go_wp2
              go_ret
              exact ⟨rfl, I1.out, B1.out, K1.out⟩
        · have HF3 : Hid (fin m (cntGo r (j + 1) v) = (qn, qs)) := Lib.hid (by have h := HF2.out; rwa [if_neg hb128] at h)
          clear HF2 hj
          by_cases hj0 : 0 < j
          · have BE' := BE hj0
            clear BE
            go_wp2
            go_roundw
            case rel => exact ⟨j + 1, v, r, rfl, rfl, by go_num, by omega, v0, VL, I1, B1, K1, HF3⟩
            case measure => simp [intOf]; omega
          · clear BE
            go_wp2
            go_roundw
            case rel => exact ⟨j + 1, v, r, rfl, rfl, by go_num, by omega, v0, VL, I1, B1, K1, HF3⟩
            case measure => simp [intOf]; omega
end

theorem ccount (w0 w : World) (g : Nat) (s : RS) (m : Int) (hm1 : m ≤ 9223372036854775807) (h : IsR w0 w g s) (hb : Below w0.heap.size w0 w) :
    Calls Try.prog 40 #[.pointer (some ⟨g, 0, none⟩), .int .i64 m] w (RPost w0 w g (.int .i64 (countS m s).1) (countS m s).2) := by
  by_cases he : s.err = 0
  · exact ccount_good w0 w g s m hm1 h hb he
  · exact ccount_bad w0 w g s m h hb he
end Go.Proofs.Ytehdhmhpmkkneaa

/- Layer 12: the walks of the writer's Count, Number, Word, Text, Bytes, Len. -/
namespace Go.Proofs.Ytehdhmhpmkkneaa
open Go.RowKit Go.Proofs.YtehdhmhpmkkneaaW.PrintWords Go.Proofs.YtehdhmhpmkkneaaW.PrintMore

/-- A number's bytes: groups of seven bits, the lowest first; all but the last with 128 more. -/
def cnt (n : Nat) : List Int := if n < 128 then [(n : Int)] else ((n % 128 + 128 : Nat) : Int) :: cnt (n / 128)
decreasing_by omega

theorem cnt_low {n : Nat} (h : n < 128) : cnt n = [(n : Int)] := by rw [cnt, if_pos h]
theorem cnt_high {n : Nat} (h : ¬ n < 128) : cnt n = ((n % 128 + 128 : Nat) : Int) :: cnt (n / 128) := by rw [cnt, if_neg h]
theorem cnt_len (k : Nat) : ∀ n, n < 128 ^ (k + 1) → (cnt n).length ≤ k + 1 := by
  induction k with
  | zero => intro n h; rw [cnt_low (by simpa using h)]; simp
  | succ k ih =>
    intro n h
    by_cases hn : n < 128
    · rw [cnt_low hn]; simp
    · rw [cnt_high hn]
      have := ih (n / 128) (by rw [Nat.pow_succ] at h; omega)
      simp; omega
theorem cnt_pos (n : Nat) : 1 ≤ (cnt n).length := by
  by_cases hn : n < 128
  · rw [cnt_low hn]; simp
  · rw [cnt_high hn]; simp
theorem cnt_len9 {n : Nat} (h : n ≤ 9223372036854775807) : (cnt n).length ≤ 9 := cnt_len 8 n (by omega)

theorem or128 (m : Nat) : bits .or .u8 ((m : Int) % 256) 128 = ((m % 128 + 128 : Nat) : Int) := by
  have key : ∀ x : Fin 256, bits BinOp.or IntKind.u8 (x.val : Int) 128 = ((x.val % 128 + 128 : Nat) : Int) := by decide +kernel
  have h := key ⟨m % 256, Nat.mod_lt _ (by decide)⟩
  simp only at h
  rw [show ((m : Int) % 256) = ((m % 256 : Nat) : Int) by simp, h]
  congr 1
  omega

section
attribute [local go_sem] max2_int max_two
set_option maxHeartbeats 400000 in
set_option maxRecDepth 100000 in
theorem wcount (B g : Nat) (v : Value) (xs : List Int) (n : Nat) (w : World) (h : Wr B w g v xs) (hl : xs.length ≤ 1000000000) (hn : n ≤ 9223372036854775807) :
    Calls Try.prog 39 #[.pointer (some ⟨g, 0, none⟩), .int .i64 n] w fun e w' => e = .returned (.tuple #[]) ∧ ∃ v', Wr B w' g v' (xs ++ cnt n) ∧ Mv w w' g v v' := by
  have HW := Lib.hid h
  have h9 := Lib.hid (cnt_len9 hn)
  have HL := Lib.hid hl
  have HN := Lib.hid hn
  clear h hl
  go_enter Try.func39, Try.ntmps39
  go_wp2
  clear hn
  go_loopw [4] (fun r4 wr => ∃ (m : Nat) (ys : List Int) (u : Value), r4 = .int .u64 m ∧ m ≤ n ∧ Hid (Wr B wr g u ys) ∧ Hid (Mv w wr g v u) ∧ Hid (ys ++ cnt m = xs ++ cnt n)) (fun r4 _ => (intOf r4).toNat)
  case atStart => exact ⟨n, xs, v, rfl, Nat.le_refl _, HW, Lib.hid (Mv.refl _ _ _), Lib.hid rfl⟩
  case round =>
    obtain ⟨m, ys, u, rfl, hm, H1, H2, H3⟩ := hrel
    have hyl : Hid (ys.length ≤ 1000000009) := Lib.hid (by
      have := congrArg List.length H3.out
      have := HL.out
      have := h9.out
      simp at *
      omega)
    by_cases h1 : m < 128
    · go_wp2_with (go_at_call 74; refine (wbyte B g u ys _ _ H1.out (by have := hyl.out; omega)).mono ?_; rintro e w2 ⟨rfl, u2, hW2, hM2⟩; have H4 := Lib.hid hW2; have H5 := Lib.hid hM2; clear hW2 hM2)
      go_end0
      refine ⟨rfl, u2, ?_, H2.out.trans H5.out⟩
      have e := H3.out
      rw [cnt_low h1] at e
      rw [← e]
      exact H4.out
    · go_wp2_with (go_at_call 74; refine (wbyte B g u ys _ _ H1.out (by have := hyl.out; omega)).mono ?_; rintro e w2 ⟨rfl, u2, hW2, hM2⟩; have H4 := Lib.hid hW2; have H5 := Lib.hid hM2; clear hW2 hM2)
      go_roundw
      case rel =>
        refine ⟨m / 128, _, u2, by simp, Nat.le_trans (Nat.div_le_self _ _) hm, H4, Lib.hid (H2.out.trans H5.out), Lib.hid ?_⟩
        have e := H3.out
        rw [cnt_high h1, ← or128] at e
        rw [← e]
        simp
      case measure => simp [intOf]; omega
end

section
attribute [local go_sem] max2_int max_two
set_option maxHeartbeats 400000 in
set_option maxRecDepth 100000 in
theorem wcount_neg (B g : Nat) (v : Value) (xs : List Int) (n : Int) (w : World) (h : Wr B w g v xs) (hl : xs.length ≤ 1000000000) (hn : n < 0) :
    Calls Try.prog 39 #[.pointer (some ⟨g, 0, none⟩), .int .i64 n] w fun e w' => e = .returned (.tuple #[]) ∧ ∃ v', Wr B w' g v' (xs ++ cnt 0) ∧ Mv w w' g v v' := by
  have HW := Lib.hid h
  have HL := Lib.hid hl
  have HC : Hid (cnt 0 = [0]) := Lib.hid (cnt_low (by omega))
  clear h hl
  go_enter Try.func39, Try.ntmps39
  go_wp2
  refine wp_loop_rounds 1 ?_
  rw [rounds_succ]
  go_wp2_with (go_at_call 74; refine (wbyte B g v xs _ _ HW.out (by have := HL.out; omega)).mono ?_; rintro e w2 ⟨rfl, u2, hW2, hM2⟩; have H4 := Lib.hid hW2; have H5 := Lib.hid hM2; clear hW2 hM2)
  go_end0
  rw [HC.out]
  exact ⟨rfl, u2, H4.out, H5.out⟩
end
theorem wcountI (B g : Nat) (v : Value) (xs : List Int) (n : Int) (w : World) (h : Wr B w g v xs) (hl : xs.length ≤ 1000000000) (hn : n ≤ 9223372036854775807) :
    Calls Try.prog 39 #[.pointer (some ⟨g, 0, none⟩), .int .i64 n] w fun e w' => e = .returned (.tuple #[]) ∧ ∃ v', Wr B w' g v' (xs ++ cnt n.toNat) ∧ Mv w w' g v v' := by
  by_cases h0 : n < 0
  · have e : n.toNat = 0 := by omega
    rw [e]
    exact wcount_neg B g v xs n w h hl h0
  · obtain ⟨m, rfl⟩ := Int.eq_ofNat_of_zero_le (a := n) (by omega)
    rw [Int.toNat_natCast]
    exact wcount B g v xs m w h hl (by omega)

/-- A number with a sign, as a count. -/
def sgn (n : Int) : Nat := if n < 0 then (-2 * n - 1).toNat else (2 * n).toNat

set_option maxHeartbeats 400000 in
set_option maxRecDepth 100000 in
theorem wnumber (B g : Nat) (v : Value) (xs : List Int) (n : Int) (w : World) (h : Wr B w g v xs) (hl : xs.length ≤ 1000000000) (h0 : -2147483648 ≤ n) (h1 : n ≤ 2147483647) :
    Calls Try.prog 41 #[.pointer (some ⟨g, 0, none⟩), .int .i32 n] w fun e w' => e = .returned (.tuple #[]) ∧ ∃ v', Wr B w' g v' (xs ++ cnt (sgn n)) ∧ Mv w w' g v v' := by
  have HW := Lib.hid h
  have HL := Lib.hid hl
  clear h hl
  by_cases hn : n < 0
  · obtain ⟨m, hm⟩ : ∃ m : Nat, -2 * n - 1 = (m : Int) := ⟨(-2 * n - 1).toNat, by omega⟩
    have e : sgn n = m := by unfold sgn; rw [if_pos hn, hm]; rfl
    have hmb : m ≤ 9223372036854775807 := by omega
    rw [e]
    have HM := Lib.hid hm
    have HMB := Lib.hid hmb
    clear e hm hmb
    go_enter Try.func41, Try.ntmps41
    go_wp2_with (go_at_call 39; rw [HM.out]; refine (wcount B g v xs m _ HW.out HL.out HMB.out).mono ?_; rintro e w2 ⟨rfl, u2, hW2, hM2⟩; have H4 := Lib.hid hW2; have H5 := Lib.hid hM2; clear hW2 hM2)
    exact bodyPost_ret (results_none rfl _ _ _) rfl ⟨rfl, u2, H4.out, H5.out⟩
  · obtain ⟨m, hm⟩ : ∃ m : Nat, 2 * n = (m : Int) := ⟨(2 * n).toNat, by omega⟩
    have e : sgn n = m := by unfold sgn; rw [if_neg hn, hm]; rfl
    have hmb : m ≤ 9223372036854775807 := by omega
    rw [e]
    have HM := Lib.hid hm
    have HMB := Lib.hid hmb
    clear e hm hmb
    go_enter Try.func41, Try.ntmps41
    go_wp2_with (go_at_call 39; rw [HM.out]; refine (wcount B g v xs m _ HW.out HL.out HMB.out).mono ?_; rintro e w2 ⟨rfl, u2, hW2, hM2⟩; have H4 := Lib.hid hW2; have H5 := Lib.hid hM2; clear hW2 hM2)
    go_end0
    exact ⟨rfl, u2, H4.out, H5.out⟩

theorem wlen (B g : Nat) (v : Value) (xs : List Int) (w : World) (h : Wr B w g v xs) :
    Calls Try.prog 19 #[.pointer (some ⟨g, 0, none⟩)] w fun e w' => e = .returned (.int .i64 xs.length) ∧ w = w' := by
  obtain ⟨hb, hg, ho⟩ := h
  obtain ⟨A, c, rfl⟩ := own_slice ho
  have hc : w.cell? ⟨g, 0, none⟩ = some (.slice A xs.length c) := blk_cell hb 0
  clear hb ho
  go_enter Try.func19, Try.ntmps19
  go_wp2
  go_ret
  exact ⟨rfl, rfl⟩

/-- A word's bytes. -/
def wrd (n : Int) : List Int := [n % 256, n / 256 % 256, n / 65536 % 256, n / 16777216]

set_option maxHeartbeats 400000 in
set_option maxRecDepth 100000 in
theorem wword (B g : Nat) (v : Value) (xs : List Int) (n : Int) (w : World) (h : Wr B w g v xs) (hl : xs.length ≤ 1000000000) (h0 : 0 ≤ n) (h1 : n ≤ 4294967295) :
    Calls Try.prog 77 #[.pointer (some ⟨g, 0, none⟩), .int .u32 n] w fun e w' => e = .returned (.tuple #[]) ∧ ∃ v', Wr B w' g v' (xs ++ wrd n) ∧ Mv w w' g v v' := by
  have HW := Lib.hid h
  obtain ⟨hb, hg, ho⟩ := h
  obtain ⟨A, c, rfl⟩ := own_slice ho
  have hc := blk_cell hb 0
  simp only [List.getElem?_toArray, List.getElem?_cons_zero] at hc
  have hz := blk_frozen hb 0
  have hlt := blk_lt hb
  have HO := Lib.hid ho
  have HBK := Lib.hid hb
  have HL := Lib.hid hl
  clear ho hb hl
  have hlit := own_reads (own_lit w B 5 .u8 (wrd n) (by omega) (by simp [wrd]))
  obtain ⟨A2, c2, e2, hreads⟩ := hlit
  injection e2 with eA eN eC
  subst eA eC
  have HR := Lib.hid hreads
  clear hreads eN
  go_enter Try.func77, Try.ntmps77
  go_wp2_with (at_builtin; go_must (refine print_append_row (w0 := w) B rfl _ _ 24 5 .u8 1 rfl Try.underlying24 info5 (by decide) (.slice A xs.length c) xs (wrd n) (some ⟨w.heap.size, 0, none⟩) 4 4 rfl rfl (HO.out.alloc _) HR.out ((Below.refl B w).alloc (by omega) _) (by simp; omega) (by have := HL.out; omega) ?_; intro v1 w1 hown hbel hgrow hlie; obtain ⟨A1, n1, cap1, rfl⟩ := own_form hown; have hgr := World.grownBy.trans (World.grownBy_alloc w _ _) hgrow; have hb1 := blk_grown HBK.out hgr (own_ne HO.out HBK.out (by decide)); have hc1 : w1.cell? ⟨g, 0, none⟩ = some (.slice A xs.length c) := blk_cell hb1 0; have hz1 := blk_frozen hb1 0; clear hb1; have HS := Lib.hid (wr_store HW.out hgr (hlie.imp id (fun ⟨b, e, hb⟩ => ⟨b, e, Nat.le_of_succ_le (by simpa using hb)⟩)) hown); clear hown hlie hgrow hbel hgr))
  go_end0
  exact ⟨rfl, _, HS.out⟩

end Go.Proofs.Ytehdhmhpmkkneaa

/- append(b, s...), s a string, b a row of the call's own: where the new row lies (b's own, or new). -/
namespace Go.Proofs.Ytehdhmhpmkkneaa
open Go.RowKit Go.Proofs.YtehdhmhpmkkneaaW.PrintWords

section
variable {P : Program} {w : World}
theorem str_lies (base : Nat) (t u ty e : TypeId) (i : TypeInfo) (ht : P.underlying t = some (.slice e)) (hu : P.underlying u = some .string) (hi : P.info? e = some i) (hz : i.zero = some (.int .u8 0)) (hsize : i.size = 1) (hby : i.bytes = 1)
    (v : Value) (n : Nat) (xs : List Value) (hown : w.ownsRow base e 1 v n xs) (s : ByteArray) (h63 : n + s.size ≤ maxLen) (hbytes : n + s.size ≤ 140737488355328)
    (v' : Value) (w' : World) (hr : (Builtin.append_ #[t, u] ty #[v, .string s]).run P w = .ok v' w') : v'.ownBlock = v.ownBlock ∨ ∃ b, v'.ownBlock = some b ∧ w.heap.size ≤ b := by
  have hxl : xs.length = n := by simpa using hown.1
  have hsmall : n + s.size ≤ 9223372036854775807 := by simp only [maxLen] at h63; omega
  rcases hown.2 with ⟨rfl, rfl⟩ | ⟨g, cap, cur, rfl, hbg, hg, hnc, hcm, hcs, htake⟩
  · obtain ⟨v2, w2, hr2, ho2, _, _⟩ := Lib.run_append_own_string (P := P) w w.heap.size t u ty e i ht hu hi hz hsize hby (.slice none 0 0) 0 [] (World.ownsRow_nil _ _ _ _) s h63 hbytes (Nat.le_refl _)
    rw [hr] at hr2
    injection hr2 with e1 _
    subst e1
    rcases hk : v'.ownBlock with _ | k
    · exact .inl rfl
    · exact .inr ⟨k, rfl, own_base ho2 k hk⟩
  · by_cases hroom : n + s.size ≤ cap
    · have hcs' : cur.size = cap := by simpa using hcs
      have hr2 := Lib.run_append_room_string (P := P) w t u ty e i ht hu hi hsize g n cap cur hg s hroom (by omega)
      rw [hr] at hr2
      injection hr2 with e1 _
      subst e1
      exact .inl rfl
    · have holds : ∀ j u, xs[j]? = some u → w.cell? ((⟨g, 0, none⟩ : Addr).add j) = some u := hown.cells (g := g) rfl
      have hr2 := Lib.run_append_grow_string (P := P) w t u ty e i (.int .u8 0) ht hu hi hz ⟨g, 0, none⟩ n cap xs (by rw [hsize]; simpa using hxl) holds s (by omega) (by omega) (by rw [hby]; exact growslice_fits (by omega) (by omega))
      rw [hr] at hr2
      injection hr2 with e1 _
      subst e1
      exact .inr ⟨_, rfl, Nat.le_refl _⟩

variable {ops : Array Oper} {rest : List Oper} {o : Oper} {a : Act} {Q : Exit → Act → World → Prop}
/-- The same at the operation, for the walk. -/
theorem append_str (base : Nat) (hgd : o.guard = none) (s x : Operand) (t u e : TypeId)
    (ho : o.op = .call { callee := .builtin .append, args := #[s, x], argTypes := #[t, u] })
    (ht : P.underlying t = some (.slice e)) (hu : P.underlying u = some .string) (hinfo : (P.info? e).map (fun i => (i.zero, i.size, i.bytes)) = some (some (.int .u8 0), 1, 1))
    (v : Value) (xs : List Int) (y : ByteArray) (hs : a.eval s = v) (hx : a.eval x = .string y)
    (HO : w.ownsRow base e 1 v xs.length (nums .u8 xs)) (hbase : base ≤ w.heap.size) (hl : xs.length + y.size ≤ 140737488355328)
    (h : ∀ v1 w1, w1.ownsRow base e 1 v1 (xs ++ bytesOf y).length (nums .u8 (xs ++ bytesOf y)) → w.grownBy w1 v.ownBlock → (v1.ownBlock = v.ownBlock ∨ ∃ b, v1.ownBlock = some b ∧ w.heap.size ≤ b) → wpList P ops Q rest (a.put o.dst v1) w1) :
    wpList P ops Q (o :: rest) a w := by
  obtain ⟨i0, hi, hzz⟩ := Option.map_eq_some_iff.1 hinfo
  simp only [Prod.mk.injEq] at hzz
  obtain ⟨hz0, hz1, hz2⟩ := hzz
  refine wpList_plain hgd fun K hK => ?_
  obtain ⟨v', w', hr, h2, h3, _⟩ := Lib.run_append_own_string (P := P) w base t u o.type e i0 ht hu hi hz0 hz1 hz2 v xs.length (nums .u8 xs) HO y (by simp only [maxLen]; omega) hl hbase
  have h5 := str_lies base t u o.type e i0 ht hu hi hz0 hz1 hz2 v xs.length (nums .u8 xs) HO y (by simp only [maxLen]; omega) hl v' w' hr
  have hl2 : (xs ++ bytesOf y).length = xs.length + y.size := by rw [List.length_append, bytesOf_length]
  have hc : nums .u8 (xs ++ bytesOf y) = nums .u8 xs ++ Lib.strCells y := by
    rw [nums_append]
    congr 1
    simp [nums, bytesOf, Lib.strCells]
  unfold Oper.wp execOp
  simp only [ho, resolve, invoke, builtin, Sem.run_bind, Sem.run_pure, Result.andThen_ok, List.map_toArray, List.map_cons, List.map_nil, hs, hx, hr]
  exact hK _ _ (h v' w' (by rw [hl2, hc]; exact h2) h3 h5)
end

end Go.Proofs.Ytehdhmhpmkkneaa

/- Layer 12: the walks of the writer's Text and Bytes. -/
namespace Go.Proofs.Ytehdhmhpmkkneaa
open Go.RowKit Go.Proofs.YtehdhmhpmkkneaaW.PrintWords Go.Proofs.YtehdhmhpmkkneaaW.PrintMore

set_option maxHeartbeats 400000 in
set_option maxRecDepth 100000 in
theorem wtext (B g : Nat) (v : Value) (xs : List Int) (s : ByteArray) (w : World) (h : Wr B w g v xs) (hl : xs.length ≤ 1000000000) (hs : s.size ≤ 1000000000) :
    Calls Try.prog 43 #[.pointer (some ⟨g, 0, none⟩), .string s] w fun e w' => e = .returned (.tuple #[]) ∧ ∃ v', Wr B w' g v' (xs ++ (cnt s.size ++ bytesOf s)) ∧ Mv w w' g v v' := by
  have HW := Lib.hid h
  have HL := Lib.hid hl
  have HS := Lib.hid hs
  have h9 := Lib.hid (cnt_len9 (n := s.size) (by omega))
  clear h hl
  go_enter Try.func43, Try.ntmps43
  go_wp2_with fail
  refine (wcount B g v xs s.size _ HW.out HL.out (by have := HS.out; omega)).mono ?_
  rintro e w2 ⟨rfl, u2, hW2, hM2⟩
  have H4 := Lib.hid hW2
  have H5 := Lib.hid hM2
  have hglt := hW2.2.1
  have hlt := hW2.lt
  clear hW2 hM2 hs
  obtain ⟨A, n, c, rfl⟩ := own_form H4.out.2.2
  have hc := blk_cell H4.out.1 0
  simp only [List.getElem?_toArray, List.getElem?_cons_zero] at hc
  have hz := blk_frozen H4.out.1 0
  go_wp2_with (at_builtin; go_must (refine append_str B rfl _ _ 24 9 5 rfl Try.underlying24 Try.underlying9 info5 (.slice A n c) (xs ++ cnt s.size) s rfl rfl H4.out.2.2 (by omega) (by have := HL.out; have := HS.out; have := h9.out; simp; omega) ?_; intro v1 w1 hown hgrow hlie; obtain ⟨A1, n1, cap1, rfl⟩ := own_form hown; have hb1 := blk_grown H4.out.1 hgrow (own_ne H4.out.2.2 H4.out.1 (by decide)); have hc1 : w1.cell? ⟨g, 0, none⟩ = some (.slice A n c) := blk_cell hb1 0; have hz1 := blk_frozen hb1 0; clear hb1; have H6 := Lib.hid (wr_store H4.out hgrow hlie hown); clear hown hlie hgrow))
  go_end0
  refine ⟨rfl, _, ?_, H5.out.trans H6.out.2⟩
  rw [← List.append_assoc]
  exact H6.out.1

/-- A row of bytes of the call's own is handed back; nothing that was there has changed. -/
def Got (w : World) (xs : List Int) (e : Ending) (w' : World) : Prop := ∃ v', e = .returned v' ∧ w'.ownsRow w.heap.size 5 1 v' xs.length (nums .u8 xs) ∧ Below w.heap.size w w'

set_option maxHeartbeats 400000 in
set_option maxRecDepth 100000 in
theorem wbytes (B g : Nat) (v : Value) (xs : List Int) (w : World) (h : Wr B w g v xs) (hl : xs.length ≤ 1000000000) :
    Calls Try.prog 18 #[.pointer (some ⟨g, 0, none⟩)] w (Got w xs) := by
  obtain ⟨hb, hg, ho⟩ := h
  obtain ⟨A, c, rfl⟩ := own_slice ho
  have hc : w.cell? ⟨g, 0, none⟩ = some (.slice A xs.length c) := blk_cell hb 0
  have hlt := blk_lt hb
  obtain ⟨A2, c2, e2, hreads⟩ := own_reads ho
  injection e2 with eA eN eC
  subst eA eC
  have HR := Lib.hid hreads
  have HL := Lib.hid hl
  have HO := Lib.hid (own_lit w w.heap.size 5 .u8 [] (Nat.le_refl _) (by simp))
  clear hb ho hl hreads eN
  go_enter Try.func18, Try.ntmps18
  go_wp2_with (at_builtin; go_must (refine print_append_row (w0 := w) w.heap.size rfl _ _ 24 5 .u8 1 rfl Try.underlying24 info5 (by decide) (.slice (some ⟨w.heap.size, 0, none⟩) 0 0) [] xs A xs.length c rfl rfl HO.out (HR.out.below ((Below.refl _ _).alloc (Nat.le_refl _) _)) ((Below.refl _ w).alloc (Nat.le_refl _) _) (by simp) (by have := HL.out; simp; omega) ?_; intro v1 w1 hown hbel hgrow hlie; obtain ⟨A1, n1, cap1, rfl⟩ := own_form hown; have H6 := Lib.hid hown; have H7 := Lib.hid hbel; clear hown hlie hgrow hbel))
  go_ret
  exact ⟨_, rfl, H6.out, H7.out⟩

end Go.Proofs.Ytehdhmhpmkkneaa

/- Layer 12: the walks of codec.Read and of the reader's Text, Number, Word, End. -/
namespace Go.Proofs.Ytehdhmhpmkkneaa
open Go.RowKit Go.Proofs.YtehdhmhpmkkneaaW.PrintWords Go.Proofs.Ytehdhmhpmkkneaa.PAll

/-- Behind Read: a new reader of these bytes. -/
def NewR (w : World) (xs : List Int) (e : Ending) (w' : World) : Prop :=
  ∃ w0 g, e = .returned (.pointer (some ⟨g, 0, none⟩)) ∧ IsR w0 w' g ⟨xs, 0⟩ ∧ Below w0.heap.size w0 w' ∧ Below w.heap.size w w0

set_option maxHeartbeats 400000 in
set_option maxRecDepth 100000 in
theorem cread (A : Option Addr) (n c : Nat) (xs : List Int) (w : World) (hr : ReadsInt w .u8 A n xs) (hok : AllB xs) (hl : xs.length ≤ 1000000000) :
    Calls Try.prog 28 #[.slice A n c] w (NewR w xs) := by
  obtain rfl := hr.1
  have HR := Lib.hid hr
  have OK := Lib.hid hok
  have HL := Lib.hid hl
  have HO := Lib.hid (own_lit w w.heap.size 5 .u8 [] (Nat.le_refl _) (by simp))
  clear hr hok hl
  go_enter Try.func28, Try.ntmps28
  go_wp2_with (at_builtin; go_must (refine print_append_row (w0 := w) w.heap.size rfl _ _ 24 5 .u8 1 rfl Try.underlying24 info5 (by decide) (.slice (some ⟨w.heap.size, 0, none⟩) 0 0) [] xs A xs.length c rfl rfl HO.out (HR.out.below ((Below.refl _ _).alloc (Nat.le_refl _) _)) ((Below.refl _ w).alloc (Nat.le_refl _) _) (by simp) (by have := HL.out; simp; omega) ?_; intro v1 w1 hown hbel hgrow hlie; obtain ⟨A1, n1, cap1, rfl⟩ := own_form hown; have H6 := Lib.hid hown; have H7 := Lib.hid hbel; clear hown hlie hgrow hbel))
  go_ret
  obtain ⟨A2, c2, e2, hrd⟩ := own_reads H6.out
  injection e2 with eA eN eC
  subst eA eC
  have hn : n1 = xs.length := by simpa using eN
  subst hn
  refine ⟨w1, w1.heap.size, rfl, ⟨xs, 0, A1, cap1, heap_alloc_new w1 _, Nat.le_refl _, by simpa using own_le H6.out, ?_, ⟨Int.le_refl _, by omega, by simp⟩, OK.out, by have := HL.out; omega⟩, (Below.refl _ _).alloc (Nat.le_refl _) _, H7.out⟩
  have h2 : ReadsInt w1 .u8 A1 ([] ++ xs).length ([] ++ xs) := hrd
  simpa only [List.nil_append] using h2

theorem info5' : ∃ i, Try.prog.info? 5 = some i ∧ i.size = 1 := by
  obtain ⟨i, hi, hzz⟩ := Option.map_eq_some_iff.1 info5
  simp only [Prod.mk.injEq] at hzz
  exact ⟨i, hi, hzz.2.1⟩

set_option maxHeartbeats 1000000 in
set_option maxRecDepth 100000 in
theorem ctext (w0 w : World) (g : Nat) (s : RS) (m : Int) (hm1 : m ≤ 9223372036854775807) (h : IsR w0 w g s) (hb : Below w0.heap.size w0 w) :
    Calls Try.prog 44 #[.pointer (some ⟨g, 0, none⟩), .int .i64 m] w (RPost w0 w g (.string (textS m s).1) (textS m s).2) := by
  have HI := Lib.hid h
  have HB := Lib.hid hb
  have hbd := countS_bd m s h.bytes
  have hce := countS_err m s
  have hcc := ccount w0 w g s m hm1 h hb
  have hT : textS m s = if (countS m s).2.err = 0 then (if (countS m s).1 > (countS m s).2.xs.length then (ByteArray.empty, ⟨(countS m s).2.xs, 120⟩) else (strOfNums ((countS m s).2.xs.take (countS m s).1.toNat), ⟨(countS m s).2.xs.drop (countS m s).1.toNat, 0⟩)) else (ByteArray.empty, (countS m s).2) := rfl
  generalize countS m s = q at *
  obtain ⟨n, t⟩ := q
  simp only at hbd hce hT hcc
  have HT := Lib.hid hT
  have HC := Lib.hid hcc
  obtain ⟨n0, _, n1⟩ := hbd
  clear h hb hT hcc
  by_cases he : t.err = 0
  · have hL : leftS t = t.xs.length := by unfold leftS; rw [if_pos he]
    have HL := Lib.hid hL
    have HE := Lib.hid he
    clear hce hL he
    by_cases hn : n > t.xs.length
    · have hT : textS m s = (ByteArray.empty, ⟨t.xs, 120⟩) := by rw [HT.out, if_pos HE.out, if_pos hn]
      rw [hT]
      clear hT
      go_enter Try.func44, Try.ntmps44
      go_wp2_with fail
      refine HC.out.mono ?_
      rintro e w1 ⟨rfl, i1, b1, k1⟩
      have I1 := Lib.hid i1
      have B1 := Lib.hid b1
      have K1 := Lib.hid k1
      clear i1 b1 k1
      go_wp2_with fail
      refine (cleft w0 w1 g t I1.out).mono ?_
      rintro e w2 ⟨rfl, d2⟩
      rw [HL.out]
      have i2 := I1.out.drawn d2
      have b2 := B1.out.trans (d2.below.mono B1.out.size)
      have k2 := keep_drawn d2 g
      clear d2
      have I2 := Lib.hid i2
      have B2 := Lib.hid b2
      have K2 := Lib.hid (keep_trans K1.out k2)
      clear i2 b2 k2
      go_wp2_with fail
      refine (cfail w0 w2 g t 120 I2.out B2.out).mono ?_
      rintro e w3 ⟨rfl, i3', b3, k3⟩
      have i3 : IsR w0 w3 g ⟨t.xs, 120⟩ := by
        have h := i3'
        unfold failS at h
        rwa [if_pos HE.out] at h
      have c2 : w3.cell? ⟨g, 2, none⟩ = some (.int .i64 120) := i3.errCell
      have I3 := Lib.hid i3
      have B3 := Lib.hid b3
      have K3 := Lib.hid (keep_trans K2.out k3)
      clear i3 i3' b3 k3
      go_wp2
      go_ret
      exact ⟨rfl, I3.out, B3.out, K3.out⟩
    · have hT : textS m s = (strOfNums (t.xs.take n.toNat), ⟨t.xs.drop n.toNat, 0⟩) := by rw [HT.out, if_pos HE.out, if_neg hn]
      rw [hT]
      clear hT
      have hn' : n ≤ t.xs.length := by omega
      clear hn
      go_enter Try.func44, Try.ntmps44
      go_wp2_with fail
      refine HC.out.mono ?_
      rintro e w1 ⟨rfl, i1, b1, k1⟩
      have I1 := Lib.hid i1
      have B1 := Lib.hid b1
      have K1 := Lib.hid k1
      clear i1 b1 k1
      go_wp2_with fail
      refine (cleft w0 w1 g t I1.out).mono ?_
      rintro e w2 ⟨rfl, d2⟩
      rw [HL.out]
      have i2 := I1.out.drawn d2
      have b2 := B1.out.trans (d2.below.mono B1.out.size)
      have k2 := keep_drawn d2 g
      clear d2
      have I2 := Lib.hid i2
      have B2 := Lib.hid b2
      have K2 := Lib.hid (keep_trans K1.out k2)
      obtain ⟨f0, p, A, c, hblk, hg, hle, hrd, ⟨p0, p1, px⟩, okf, hmf⟩ := i2
      rw [HE.out] at hblk
      have BLK := Lib.hid hblk
      have c0 : w2.cell? ⟨g, 0, none⟩ = some (.slice A f0.length c) := blk_cell hblk 0
      have c1 : w2.cell? ⟨g, 1, none⟩ = some (.int .i64 p) := blk_cell hblk 1
      have c2 : w2.cell? ⟨g, 2, none⟩ = some (.int .i64 0) := blk_cell hblk 2
      have z1 := blk_frozen hblk 1
      have hpn : p + n ≤ f0.length := by rw [px, List.length_drop] at hn'; omega
      have HMF := Lib.hid hmf
      have HCL := Lib.hid hle
      have OKF := Lib.hid okf
      have HPX := Lib.hid px
      have HRD := Lib.hid hrd
      have l63 : (f0.length : Int) ≤ 140737488351232 := by omega
      clear b2 k2 hblk hmf px hrd okf hle
      obtain ⟨A', hsl, hrd', _⟩ := print_mid_int (P := Try.prog) (k := .u8) 24 5 Try.underlying24 (i := info5'.choose) info5'.choose_spec.1 info5'.choose_spec.2 A c f0 p (p + n) p0 (by omega) (by omega) HCL.out
      obtain ⟨ys, Y⟩ : ∃ ys, Hid (ys = (f0.take (p + n).toNat).drop p.toNat) := ⟨_, Lib.hid rfl⟩
      rw [← Y.out] at hsl hrd'
      have R0 := Lib.hid (hrd' w0 HRD.out)
      clear hrd'
      generalize ys.length = L at hsl R0
      generalize c - p.toNat = CC at hsl
      go_wp2
      obtain ⟨W, hW⟩ : ∃ W : World, W = w2.setCell ⟨g, 1, none⟩ (.int .i64 (p + n)) := ⟨_, rfl⟩
      have bW : W.heap[g]? = some (.cells #[.slice A f0.length c, .int .i64 (p + n), .int .i64 0] 123 (0, 0)) := by rw [hW]; exact blk_set BLK.out 1 _
      have d0 : W.cell? ⟨g, 0, none⟩ = some (.slice A f0.length c) := blk_cell bW 0
      have d1 : W.cell? ⟨g, 1, none⟩ = some (.int .i64 (p + n)) := blk_cell bW 1
      have BB : Hid (Below w0.heap.size w0 W) := Lib.hid (by rw [hW]; exact B2.out.setCell hg _)
      have KK : Hid (KeepBut w W g none) := Lib.hid (by rw [hW]; exact K2.out.set_ 1 _)
      rw [← hW]
      have BW := Lib.hid bW
      have hconv : ∀ k, (convert 24 9 (.slice A' L CC)).run Try.prog (W.drewN k) = .ok (.string (strOfNums ys)) (W.drewN k) := fun k => string_of_reads Try.underlying24 Try.underlying5 Try.underlying9 (R0.out.below (pw_below_drewN BB.out k))
      have hs : IntKind.i64.wrap p = p := by rw [IntKind.wrap_i64]; omega
      clear hW bW c0 c1 c2 z1
      go_quiet (fail)
      go_wp2
      go_ret
      have ey : ys = t.xs.take n.toNat := by rw [Y.out, HPX.out, List.drop_take]; congr 1; omega
      refine ⟨by rw [← ey]; rfl, ?_, pw_below_drewN BB.out _, ?_⟩
      · refine ⟨f0, p + n, A, c, BW.out, hg, HCL.out, HRD.out, ⟨by omega, hpn, ?_⟩, OKF.out, HMF.out⟩
        simp only
        rw [HPX.out, List.drop_drop]
        congr 1
        omega
      · exact KK.out
  · have hL : leftS t = 0 := by unfold leftS; rw [if_neg he]
    have HL := Lib.hid hL
    have hn0 : n = 0 := hce he
    subst hn0
    have hT : textS m s = (ByteArray.empty, t) := by rw [HT.out, if_neg he]
    rw [hT]
    have HE : (t.err == 0) = false := beq_eq_false_iff_ne.2 he
    have HE2 : (t.err != 0) = true := bne_iff_ne.2 he
    clear hT hL hce he
    go_enter Try.func44, Try.ntmps44
    go_wp2_with fail
    refine HC.out.mono ?_
    rintro e w1 ⟨rfl, i1, b1, k1⟩
    have I1 := Lib.hid i1
    have B1 := Lib.hid b1
    have K1 := Lib.hid k1
    clear i1 b1 k1
    go_wp2_with fail
    refine (cleft w0 w1 g t I1.out).mono ?_
    rintro e w2 ⟨rfl, d2⟩
    rw [HL.out]
    have i2 := I1.out.drawn d2
    have b2 := B1.out.trans (d2.below.mono B1.out.size)
    have k2 := keep_drawn d2 g
    clear d2
    have c2 : w2.cell? ⟨g, 2, none⟩ = some (.int .i64 t.err) := i2.errCell
    have I2 := Lib.hid i2
    have B2 := Lib.hid b2
    have K2 := Lib.hid (keep_trans K1.out k2)
    clear i2 b2 k2
    go_wp2
    go_ret
    exact ⟨rfl, I2.out, B2.out, K2.out⟩

set_option maxHeartbeats 400000 in
set_option maxRecDepth 100000 in
theorem cend (w0 w : World) (g : Nat) (s : RS) (h : IsR w0 w g s) (hb : Below w0.heap.size w0 w) :
    Calls Try.prog 45 #[.pointer (some ⟨g, 0, none⟩)] w (RPost w0 w g (.int .i64 (endS s).err) (endS s)) := by
  have HI := Lib.hid h
  have HB := Lib.hid hb
  clear h hb
  by_cases hL : leftS s > 0
  · have hE : endS s = ⟨s.xs, 121⟩ := by unfold endS; rw [if_pos hL]
    have HE := Lib.hid (leftS_pos hL)
    rw [hE]
    clear hE
    go_enter Try.func45, Try.ntmps45
    go_wp2_with fail
    refine (cleft w0 w g s HI.out).mono ?_
    rintro e w1 ⟨rfl, d1⟩
    have D1 := Lib.hid d1
    clear d1
    go_wp2_with fail
    refine (cfail w0 w1 g s 121 (HI.out.drawn D1.out) (HB.out.trans (D1.out.below.mono HB.out.size))).mono ?_
    rintro e w2 ⟨rfl, i2', b2, k2⟩
    have i2 : IsR w0 w2 g ⟨s.xs, 121⟩ := by
      have h := i2'
      unfold failS at h
      rwa [if_pos HE.out] at h
    have c2 : w2.cell? ⟨g, 2, none⟩ = some (.int .i64 121) := i2.errCell
    have I2 := Lib.hid i2
    have B2 := Lib.hid b2
    have K2 := Lib.hid (keep_trans (keep_drawn D1.out g) k2)
    clear i2 i2' b2 k2
    go_wp2
    go_ret
    exact ⟨rfl, I2.out, B2.out, K2.out⟩
  · have hE : endS s = s := by unfold endS; rw [if_neg hL]
    rw [hE]
    clear hE
    go_enter Try.func45, Try.ntmps45
    go_wp2_with fail
    refine (cleft w0 w g s HI.out).mono ?_
    rintro e w1 ⟨rfl, d1⟩
    have D1 := Lib.hid d1
    have c2 : w1.cell? ⟨g, 2, none⟩ = some (.int .i64 s.err) := (HI.out.drawn d1).errCell
    clear d1
    go_wp2
    go_ret
    exact ⟨rfl, HI.out.drawn D1.out, HB.out.trans (D1.out.below.mono HB.out.size), keep_drawn D1.out g⟩

set_option maxHeartbeats 400000 in
set_option maxRecDepth 100000 in
theorem cnumber (w0 w : World) (g : Nat) (s : RS) (h : IsR w0 w g s) (hb : Below w0.heap.size w0 w) :
    Calls Try.prog 42 #[.pointer (some ⟨g, 0, none⟩)] w (RPost w0 w g (.int .i32 (numS s).1) (numS s).2) := by
  have hbd := countS_bd 4294967295 s h.bytes
  have HC := Lib.hid (ccount w0 w g s 4294967295 (by omega) h hb)
  have hN : numS s = (if (countS 4294967295 s).1 % 2 = 1 then -(((countS 4294967295 s).1 + 1) / 2) else (countS 4294967295 s).1 / 2, (countS 4294967295 s).2) := rfl
  rw [hN]
  clear hN h hb
  generalize countS 4294967295 s = q at *
  obtain ⟨n, t⟩ := q
  simp only at hbd
  simp only
  obtain ⟨n0, n1, n2⟩ := hbd
  have n3 : n ≤ 4294967295 := by omega
  have KA := and1 n n0 (by omega)
  clear n1 n2
  by_cases h1 : n % 2 = 1
  · rw [if_pos h1]
    rw [h1] at KA
    have KT : wrap32 (wrap64 (-(Int.tdiv (n + 1) 2))) = -((n + 1) / 2) := by
      rw [Int.tdiv_eq_ediv_of_nonneg (by omega)]
      unfold wrap64 wrap32
      omega
    have H1 := Lib.hid h1
    clear h1
    go_enter Try.func42, Try.ntmps42
    go_wp2_with fail
    refine HC.out.mono ?_
    rintro e w1 ⟨rfl, i1, b1, k1⟩
    have I1 := Lib.hid i1
    have B1 := Lib.hid b1
    have K1 := Lib.hid k1
    clear i1 b1 k1
    go_wp2
    go_ret
    refine ⟨?_, I1.out, B1.out, K1.out⟩
    first | rfl | (rw [← KT]; rfl)
  · rw [if_neg h1]
    have h0 : n % 2 = 0 := by omega
    rw [h0] at KA
    have KT : wrap32 (n / 2) = n / 2 := by unfold wrap32; omega
    have H1 := Lib.hid h1
    clear h1 h0
    go_enter Try.func42, Try.ntmps42
    go_wp2_with fail
    refine HC.out.mono ?_
    rintro e w1 ⟨rfl, i1, b1, k1⟩
    have I1 := Lib.hid i1
    have B1 := Lib.hid b1
    have K1 := Lib.hid k1
    clear i1 b1 k1
    go_wp2
    go_ret
    refine ⟨?_, I1.out, B1.out, K1.out⟩
    first | rfl | (rw [← KT]; rfl)
end Go.Proofs.Ytehdhmhpmkkneaa

/- The document's Count, Number, Text, Bytes and Same (printed): what they answer, in plain words, and as contracts. -/
namespace Go.Proofs.Ytehdhmhpmkkneaa
open Go.RowKit Go.Proofs.YtehdhmhpmkkneaaW.PrintWords Go.Proofs.Ytehdhmhpmkkneaa.PAll

theorem refCount_loop : ∀ (j m : Nat) (acc : List Int), m < 128 ^ (j + 1) → m ≤ 9223372036854775807 → acc.length + j < 1000000 → pascalineref12_Count.l0 (j + 1) (m : Int) acc = some (acc ++ cnt m) := by
  intro j
  induction j with
  | zero =>
    intro m acc h hm ha
    have h1 : m < 128 := by simpa using h
    simp only [pascalineref12_Count.l0]
    rw [if_neg (by omega), if_pos (by omega), cnt_low h1]
    congr 3
    omega
  | succ j ih =>
    intro m acc h hm ha
    rw [pascalineref12_Count.l0]
    by_cases h1 : m < 128
    · rw [if_neg (by omega), if_pos (by omega), cnt_low h1]
      congr 3
      omega
    · rw [if_pos (by omega), if_pos (by omega)]
      have e1 : wrap64 (Int.tdiv (m : Int) 128) = ((m / 128 : Nat) : Int) := by
        rw [Int.tdiv_eq_ediv_of_nonneg (by omega)]
        unfold wrap64
        omega
      have e2 : wrap64 (Int.tmod (m : Int) 128 + 128) % 256 = ((m % 128 + 128 : Nat) : Int) := by
        rw [Int.tmod_eq_emod_of_nonneg (by omega)]
        unfold wrap64
        omega
      rw [e1, e2, ih (m / 128) _ (by rw [Nat.pow_succ] at h; omega) (by omega) (by rw [List.length_append]; simp only [List.length_cons, List.length_nil]; omega), cnt_high h1]
      simp

theorem refCount (n : Int) (h : n ≤ 9223372036854775807) : pascalineref12_Count.f 10 n = some (cnt n.toNat) := by
  have key : ∀ m : Nat, m ≤ 9223372036854775807 → pascalineref12_Count.j0 10 (m : Int) = some (cnt m) := by
    intro m hm
    show pascalineref12_Count.l0 9 (m : Int) [] = _
    exact refCount_loop 8 m [] (by omega) hm (by simp)
  unfold pascalineref12_Count.f
  by_cases h0 : n < 0
  · rw [if_pos h0]
    have e : n.toNat = 0 := by omega
    rw [e]
    exact key 0 (by omega)
  · rw [if_neg h0]
    have e : n = (n.toNat : Int) := by omega
    have := key n.toNat (by omega)
    rwa [← e] at this

theorem refNumber (n : Int) (h0 : -2147483648 ≤ n) (h1 : n ≤ 2147483647) : pascalineref12_Number.f 10 n = some (cnt (sgn n)) := by
  unfold pascalineref12_Number.f sgn
  by_cases h : n < 0
  · rw [if_pos h, if_pos h]
    have e : wrap64 (wrap64 (-2 * wrap64 n) - 1) = -2 * n - 1 := by unfold wrap64; omega
    rw [e, refCount _ (by omega)]
    rfl
  · rw [if_neg h, if_neg h]
    have e : wrap64 (2 * wrap64 n) = 2 * n := by unfold wrap64; omega
    rw [e, refCount _ (by omega)]
    rfl

theorem refText (s : ByteArray) (h : s.size ≤ 1000000000) : pascalineref12_Text.f 10 s = some (cnt s.size ++ bytesOf s) := by
  unfold pascalineref12_Text.f
  rw [refCount _ (by omega)]
  simp only [Option.bind_some]
  have h9 := cnt_len9 (n := s.size) (by omega)
  rw [if_pos (by simp; omega)]
  rfl

theorem refBytes (n : Int) (h0 : 0 ≤ n) (h1 : n ≤ 4294967295) : pascalineref01_Bytes.f 5 n = some (wrd n) := by
  unfold pascalineref01_Bytes.f
  have w1 : ∀ i : Int, 0 ≤ i → i < 4 → wrap64 (i + 1) = i + 1 := by intro i _ _; unfold wrap64; omega
  have step : ∀ (k : Nat) (m i : Int) (acc : List Int), 0 ≤ m → m ≤ 4294967295 → 0 ≤ i → i < 4 → acc.length < 10 → pascalineref01_Bytes.l0 (k + 1) m acc i = pascalineref01_Bytes.l0 k (m / 256) (acc ++ [m % 256]) (i + 1) := by
    intro k m i acc a b c d e
    simp only [pascalineref01_Bytes.l0]
    rw [if_pos d, if_pos (by omega), w1 i c d, Int.tdiv_eq_ediv_of_nonneg a, Int.tmod_eq_emod_of_nonneg a, Int.emod_emod_of_dvd _ (by decide), Int.emod_eq_of_lt (by omega) (by omega)]
  rw [step 4 n 0 [] h0 h1 (by decide) (by decide) (by simp), step 3 _ _ _ (by omega) (by omega) (by decide) (by decide) (by simp), step 2 _ _ _ (by omega) (by omega) (by decide) (by decide) (by simp), step 1 _ _ _ (by omega) (by omega) (by decide) (by decide) (by simp)]
  simp only [pascalineref01_Bytes.l0]
  rw [if_neg (by decide)]
  unfold wrd
  simp only [List.nil_append, List.cons_append]
  congr 5 <;> omega

end Go.Proofs.Ytehdhmhpmkkneaa

/- The document's Count, Number, Text, Bytes and Same as contracts over rows of the call's own. -/
namespace Go.Proofs.Ytehdhmhpmkkneaa
open Go.RowKit Go.Proofs.YtehdhmhpmkkneaaW.PrintWords Go.Proofs.Ytehdhmhpmkkneaa.PAll

theorem rcount (n : Int) (w : World) (h : n ≤ 9223372036854775807) : Calls Try.prog 75 #[.int .i64 n] w (Got w (cnt n.toNat)) :=
  (pascalineref12_Count.calls 10 n _ w (refCount n h)).mono fun _ _ ⟨v, he, hr, hb⟩ => ⟨v, he, Kd.own_of_R hr, hb⟩
theorem rnumber (n : Int) (w : World) (h0 : -2147483648 ≤ n) (h1 : n ≤ 2147483647) : Calls Try.prog 76 #[.int .i32 n] w (Got w (cnt (sgn n))) :=
  (pascalineref12_Number.calls 10 n _ w (refNumber n h0 h1)).mono fun _ _ ⟨v, he, hr, hb⟩ => ⟨v, he, Kd.own_of_R hr, hb⟩
theorem rtext (s : ByteArray) (w : World) (h : s.size ≤ 1000000000) : Calls Try.prog 79 #[.string s] w (Got w (cnt s.size ++ bytesOf s)) :=
  (pascalineref12_Text.calls 10 s _ w (refText s h)).mono fun _ _ ⟨v, he, hr, hb⟩ => ⟨v, he, Kd.own_of_R hr, hb⟩
theorem rword (n : Int) (w : World) (h0 : 0 ≤ n) (h1 : n ≤ 4294967295) : Calls Try.prog 78 #[.int .u32 n] w (Got w (wrd n)) :=
  (pascalineref01_Bytes.calls 5 n _ w (refBytes n h0 h1)).mono fun _ _ ⟨v, he, hr, hb⟩ => ⟨v, he, Kd.own_of_R hr, hb⟩

theorem refSame_loop (xs ys : List Int) (hl : xs.length = ys.length) (hm : xs.length ≤ 1000000000000) : ∀ (d k : Nat) (i : Nat), i + d = xs.length → d < k → pascalineref01_Same.l0 k xs ys (i : Int) = some (decide (xs.drop i = ys.drop i)) := by
  intro d
  induction d with
  | zero =>
    intro k i hi hk
    obtain ⟨k, rfl⟩ : ∃ m, k = m + 1 := ⟨k - 1, by omega⟩
    rw [pascalineref01_Same.l0, if_neg (by omega), List.drop_of_length_le (by omega), List.drop_of_length_le (by omega)]
    rfl
  | succ d ih =>
    intro k i hi hk
    obtain ⟨k, rfl⟩ : ∃ m, k = m + 1 := ⟨k - 1, by omega⟩
    have w1 : wrap64 ((i : Int) + 1) = ((i + 1 : Nat) : Int) := by unfold wrap64; omega
    have hx : i < xs.length := by omega
    have hy : i < ys.length := by omega
    rw [pascalineref01_Same.l0, if_pos (by omega), if_pos (by omega), if_pos (by omega), w1, ih k (i + 1) (by omega) (by omega)]
    have e1 : rd xs (i : Int) = xs[i] := by simp [rd, hx]
    have e2 : rd ys (i : Int) = ys[i] := by simp [rd, hy]
    rw [e1, e2, List.drop_eq_getElem_cons hx, List.drop_eq_getElem_cons hy]
    by_cases h : xs[i] = ys[i]
    · rw [if_pos h]; simp only [List.cons.injEq, h, true_and]
    · rw [if_neg h]; simp only [List.cons.injEq, h, false_and, decide_false]

theorem refSame (xs ys : List Int) (hm : xs.length ≤ 1000000000000) : pascalineref01_Same.f (xs.length + 1) xs ys = some (decide (xs = ys)) := by
  unfold pascalineref01_Same.f
  by_cases h : xs.length = ys.length
  · rw [if_pos (by omega)]
    have := refSame_loop xs ys h hm xs.length (xs.length + 1) 0 (by omega) (by omega)
    simpa using this
  · rw [if_neg (by omega)]
    have : ¬ xs = ys := fun e => h (by rw [e])
    simp [this]

/-- What is owned is read. -/
theorem reads_own {w : World} {B : Nat} {v : Value} {xs : List Int} (h : w.ownsRow B 5 1 v xs.length (nums .u8 xs)) : ∃ A c, v = .slice A xs.length c ∧ xs.length ≤ c ∧ Kd.C (Kd.int .u8) w A xs.length xs := by
  obtain ⟨A, c, rfl, hr⟩ := own_reads h
  exact ⟨A, c, rfl, own_le h, Kd.C_of_reads (d := (0 : Int)) (h1 := fun _ => rfl) hr⟩

theorem rsame (B B' : Nat) (v u : Value) (xs ys : List Int) (w : World) (hm : xs.length ≤ 1000000000) (hx : w.ownsRow B 5 1 v xs.length (nums .u8 xs)) (hy : w.ownsRow B' 5 1 u ys.length (nums .u8 ys)) :
    Calls Try.prog 17 #[v, u] w fun e w' => e = .returned (.bool (decide (xs = ys))) ∧ Drawn0 w w' := by
  obtain ⟨A, c, rfl, hc, hr⟩ := reads_own hx
  obtain ⟨A', c', rfl, hc', hr'⟩ := reads_own hy
  exact pascalineref01_Same.calls (xs.length + 1) A c xs A' c' ys _ w hr hc hr' hc' (refSame xs ys (by omega))

end Go.Proofs.Ytehdhmhpmkkneaa

/- The walk of the law's put: a piece is put at both. -/
namespace Go.Proofs.Ytehdhmhpmkkneaa
open Go.RowKit Go.Proofs.YtehdhmhpmkkneaaW.PrintWords

/-- A piece's bytes. -/
def piece (k n : Int) (s : ByteArray) : List Int :=
  if k = 0 then [n % 256] else if k = 1 then cnt n.toNat else if k = 2 then cnt (sgn (wrap32 n)) else if k = 3 then wrd (n % 4294967296) else if k = 4 then cnt s.size ++ bytesOf s else []

/-- Two rows of bytes of the call's own that are not one. -/
def Apart (v u : Value) : Prop := v.ownBlock = none ∨ v.ownBlock ≠ u.ownBlock

/-- Behind put: both have the piece's bytes. -/
def PutPost (B : Nat) (w : World) (g : Nat) (xs ys : List Int) (e : Ending) (w' : World) : Prop :=
  ∃ v' u', e = .returned u' ∧ Wr B w' g v' xs ∧ w'.ownsRow B 5 1 u' ys.length (nums .u8 ys) ∧ Apart u' v' ∧ Below B w w'

theorem put_mid {B g : Nat} {w w2 : World} {v v2 u : Value} {xs ys : List Int} (hv : Wr B w g v xs) (hu : w.ownsRow B 5 1 u ys.length (nums .u8 ys)) (ha : Apart u v) (m2 : Mv w w2 g v v2) :
    w2.ownsRow B 5 1 u ys.length (nums .u8 ys) := by
  refine own_move hu fun k hk => m2.block k (own_lt hu k hk) (fun e => own_ne hu hv.1 (by decide) (by rw [← e]; exact hk.symm)) (fun e => ?_)
  rcases ha with h | h
  · rw [h] at hk; cases hk
  · exact h (by rw [hk, e])

/-- The second half: what the document's call made is appended to the row u. -/
theorem put_tail {B g : Nat} {w w2 w3 w4 : World} {v v2 u u' : Value} {xs xs2 ys zs : List Int} (hB : B ≤ w.heap.size)
    (hv : Wr B w g v xs) (hu : w.ownsRow B 5 1 u ys.length (nums .u8 ys)) (ha : Apart u v)
    (h2 : Wr B w2 g v2 xs2) (m2 : Mv w w2 g v v2) (b3 : Below w2.heap.size w2 w3)
    (h4 : w4.ownsRow B 5 1 u' (ys ++ zs).length (nums .u8 (ys ++ zs))) (g4 : w3.grownBy w4 u.ownBlock) (l4 : u'.ownBlock = u.ownBlock ∨ ∃ b, u'.ownBlock = some b ∧ w3.heap.size ≤ b) :
    PutPost B w g xs2 (ys ++ zs) (.returned u') w4 := by
  have hBw := own_base hu
  have u2 : u.ownBlock = none ∨ u.ownBlock ≠ v2.ownBlock := by
    rcases ha with e | ne
    · exact .inl e
    · rcases m2.lies with e | ⟨b, e, hb⟩
      · rw [e]; exact .inr ne
      · refine .inr fun e2 => ?_
        rw [e] at e2
        have := own_lt hu b e2
        omega
  have v2lt : ∀ k, v2.ownBlock = some k → k < w2.heap.size := own_lt h2.2.2
  have gne : some g ≠ u.ownBlock := fun e => own_ne hu hv.1 (by decide) e
  have hw3 : Wr B w3 g v2 xs2 := h2.below b3
  have hw4 : Wr B w4 g v2 xs2 := ⟨blk_grown hw3.1 g4 gne, hw3.2.1, own_other hw3.2.2 g4 (by
    rcases u2 with e | ne
    · rcases hk : v2.ownBlock with _ | k
      · exact .inl rfl
      · rw [e]; exact .inr (by simp)
    · exact .inr (fun e => ne e.symm))⟩
  refine ⟨v2, u', rfl, hw4, h4, ?_, ?_⟩
  · rcases l4 with e | ⟨b, e, hb⟩
    · unfold Apart; rw [e]; exact u2
    · refine .inr fun e2 => ?_
      rw [e] at e2
      have := v2lt b e2.symm
      have := b3.size
      omega
  · have b2 := m2.below (Below.refl B w) hB hv.2.1 hv.base
    have s2 := m2.size
    exact (b2.trans (b3.mono (by omega))).grown g4 (by have := b3.size; omega) hBw

theorem PutPost.pre {B g : Nat} {w w1 : World} {xs ys : List Int} (hb : Below B w w1) {e : Ending} {w' : World} (h : PutPost B w1 g xs ys e w') : PutPost B w g xs ys e w' := by
  obtain ⟨v', u', a, b, c, d, f⟩ := h
  exact ⟨v', u', a, b, c, d, hb.trans f⟩
/-- A cell of a block that the writer's call leaves alone. -/
theorem cell_mv {w w2 : World} {g : Nat} {v v2 : Value} (m2 : Mv w w2 g v v2) {N j : Nat} {x : Value} (h : w.cell? ⟨N, j, none⟩ = some x) (hg : N ≠ g) (hv : some N ≠ v.ownBlock) : w2.cell? ⟨N, j, none⟩ = some x := by
  have hlt := World.block_lt_of_cell? _ _ h
  rw [← h]
  exact World.cell?_of_block (w := w) (m2.block N hlt hg hv)
end Go.Proofs.Ytehdhmhpmkkneaa

/- The walk of the law's put, case by case. -/
namespace Go.Proofs.Ytehdhmhpmkkneaa
open Go.RowKit Go.Proofs.YtehdhmhpmkkneaaW.PrintWords

/-- What put is given. -/
structure PutPre (B : Nat) (w : World) (g : Nat) (v u : Value) (xs ys : List Int) (n : Int) (s : ByteArray) : Prop where
  wr : Wr B w g v xs
  own : w.ownsRow B 5 1 u ys.length (nums .u8 ys)
  apart : Apart u v
  base : B ≤ w.heap.size
  xl : xs.length ≤ 100000000
  yl : ys.length ≤ 100000000
  n0 : -9223372036854775808 ≤ n
  n1 : n ≤ 9223372036854775807
  sl : s.size ≤ 1000

theorem PutPre.box {B : Nat} {w : World} {g : Nat} {v u : Value} {xs ys : List Int} {n : Int} {s : ByteArray} (h : PutPre B w g v u xs ys n s) (o : Obj) : PutPre B (w.alloc o) g v u xs ys n s :=
  ⟨h.wr.below ((Below.refl _ _).alloc (Nat.le_refl _) _), pw_own_below h.own ((Below.refl _ _).alloc (Nat.le_refl _) _), h.apart, by have := h.base; simp; omega, h.xl, h.yl, h.n0, h.n1, h.sl⟩
theorem PutPre.ne {B : Nat} {w : World} {g : Nat} {v u : Value} {xs ys : List Int} {n : Int} {s : ByteArray} (h : PutPre B w g v u xs ys n s) : w.heap.size ≠ g ∧ some w.heap.size ≠ v.ownBlock := by
  refine ⟨fun e => ?_, fun e => ?_⟩
  · have := h.wr.lt; omega
  · have := own_lt h.wr.2.2 _ e.symm; omega

set_option maxHeartbeats 400000 in
set_option maxRecDepth 100000 in
theorem put_0 (B g : Nat) (v u : Value) (xs ys : List Int) (n : Int) (s : ByteArray) (w : World) (h : PutPre B w g v u xs ys n s) :
    Calls Try.prog 16 #[.pointer (some ⟨g, 0, none⟩), u, .agg #[.int .i64 0, .int .i64 n, .string s]] w (PutPost B w g (xs ++ [n % 256]) (ys ++ [n % 256])) := by
  have H := Lib.hid h
  obtain ⟨A, m, c, rfl⟩ := own_form h.own
  clear h
  go_enter Try.func16, Try.ntmps16
  go_wp2_with fail
  have H1 := Lib.hid (H.out.box (.cells #[.int .i64 0, .int .i64 n, .string s] 28))
  refine (wbyte B g v xs _ _ H1.out.wr (by have := H.out.xl; omega)).mono ?_
  rintro e w2 ⟨rfl, v2, h2, m2⟩
  have hc := cell_mv m2 (N := w.heap.size) (j := 1) (x := .int .i64 n) (by simp [go_sem]) H.out.ne.1 H.out.ne.2
  have HU := Lib.hid (put_mid H1.out.wr H1.out.own H1.out.apart m2)
  have H2 := Lib.hid h2
  have M2 := Lib.hid m2
  have hB : B ≤ w2.heap.size := by have := m2.size; have := H1.out.base; omega
  clear h2 m2
  go_wp2_with (at_builtin; go_must (refine print_append_num (w0 := w2) B rfl _ _ 24 5 .u8 1 rfl Try.underlying24 info5 (by decide) (.slice A m c) ys (n % 256) rfl rfl HU.out (Below.refl _ _) hB (by have := H.out.yl; omega) ?_; intro v1 w4 hown hbel hgrow hlie; obtain ⟨A1, n1, cap1, rfl⟩ := own_form hown; have H6 := Lib.hid (put_tail H1.out.base H1.out.wr H1.out.own H1.out.apart H2.out M2.out (Below.refl _ _) hown hgrow hlie); clear hown hlie hgrow hbel))
  go_ret
  exact H6.out.pre ((Below.refl _ _).alloc H.out.base _)


theorem w32 (n : Int) : -2147483648 ≤ wrap32 n ∧ wrap32 n ≤ 2147483647 := by unfold wrap32; omega
theorem sgn_le {n : Int} (h0 : -2147483648 ≤ n) (h1 : n ≤ 2147483647) : sgn n ≤ 9223372036854775807 := by unfold sgn; split <;> omega

set_option maxHeartbeats 400000 in
set_option maxRecDepth 100000 in
theorem put_1 (B g : Nat) (v u : Value) (xs ys : List Int) (n : Int) (s : ByteArray) (w : World) (h : PutPre B w g v u xs ys n s) :
    Calls Try.prog 16 #[.pointer (some ⟨g, 0, none⟩), u, .agg #[.int .i64 1, .int .i64 n, .string s]] w (PutPost B w g (xs ++ cnt n.toNat) (ys ++ cnt n.toNat)) := by
  have H := Lib.hid h
  obtain ⟨A, m, c, rfl⟩ := own_form h.own
  clear h
  go_enter Try.func16, Try.ntmps16
  go_wp2_with fail
  have H1 := Lib.hid (H.out.box (.cells #[.int .i64 1, .int .i64 n, .string s] 28))
  refine (wcountI B g v xs n _ H1.out.wr (by have := H.out.xl; omega) H.out.n1).mono ?_
  rintro e w2 ⟨rfl, v2, h2, m2⟩
  have hc := cell_mv m2 (N := w.heap.size) (j := 1) (x := .int .i64 n) (by simp [go_sem]) H.out.ne.1 H.out.ne.2
  have HU := Lib.hid (put_mid H1.out.wr H1.out.own H1.out.apart m2)
  have H2 := Lib.hid h2
  have M2 := Lib.hid m2
  have hB : B ≤ w2.heap.size := by have := m2.size; have := H1.out.base; omega
  clear h2 m2
  go_wp2_with fail
  refine (rcount n _ H.out.n1).mono ?_
  rintro e w3 ⟨u3, rfl, ho3, hb3⟩
  obtain ⟨A3, c3, rfl, hr3⟩ := own_reads ho3
  have R3 := Lib.hid hr3
  have B3 := Lib.hid hb3
  have hB3 : B ≤ w3.heap.size := by have := hb3.size; omega
  clear ho3 hr3 hb3
  obtain ⟨zs, Z⟩ : ∃ zs, Hid (zs = cnt n.toNat) := ⟨_, Lib.hid rfl⟩
  have Z9 : Hid (zs.length ≤ 10000) := Lib.hid (by rw [Z.out]; have := cnt_len9 (n := n.toNat) (by have := H.out.n1; omega); omega)
  rw [← Z.out] at R3 ⊢
  go_wp2_with (at_builtin; go_must (refine print_append_row (w0 := w3) B rfl _ _ 24 5 .u8 1 rfl Try.underlying24 info5 (by decide) (.slice A m c) ys zs A3 zs.length c3 rfl rfl (pw_own_below HU.out B3.out) R3.out (Below.refl _ _) hB3 (by have := H.out.yl; have := Z9.out; omega) ?_; intro v1 w4 hown hbel hgrow hlie; obtain ⟨A1, n1, cap1, rfl⟩ := own_form hown; have H6 := Lib.hid (put_tail H1.out.base H1.out.wr H1.out.own H1.out.apart (Z.out ▸ H2.out) M2.out B3.out hown hgrow hlie); clear hown hlie hgrow hbel))
  go_ret
  rw [← Z.out]
  exact H6.out.pre ((Below.refl _ _).alloc H.out.base _)

set_option maxHeartbeats 400000 in
set_option maxRecDepth 100000 in
theorem put_2 (B g : Nat) (v u : Value) (xs ys : List Int) (n : Int) (s : ByteArray) (w : World) (h : PutPre B w g v u xs ys n s) :
    Calls Try.prog 16 #[.pointer (some ⟨g, 0, none⟩), u, .agg #[.int .i64 2, .int .i64 n, .string s]] w (PutPost B w g (xs ++ cnt (sgn (wrap32 n))) (ys ++ cnt (sgn (wrap32 n)))) := by
  have H := Lib.hid h
  obtain ⟨A, m, c, rfl⟩ := own_form h.own
  clear h
  go_enter Try.func16, Try.ntmps16
  go_wp2_with fail
  have H1 := Lib.hid (H.out.box (.cells #[.int .i64 2, .int .i64 n, .string s] 28))
  refine (wnumber B g v xs (wrap32 n) _ H1.out.wr (by have := H.out.xl; omega) (w32 n).1 (w32 n).2).mono ?_
  rintro e w2 ⟨rfl, v2, h2, m2⟩
  have hc := cell_mv m2 (N := w.heap.size) (j := 1) (x := .int .i64 n) (by simp [go_sem]) H.out.ne.1 H.out.ne.2
  have HU := Lib.hid (put_mid H1.out.wr H1.out.own H1.out.apart m2)
  have H2 := Lib.hid h2
  have M2 := Lib.hid m2
  have hB : B ≤ w2.heap.size := by have := m2.size; have := H1.out.base; omega
  clear h2 m2
  go_wp2_with fail
  refine (rnumber (wrap32 n) _ (w32 n).1 (w32 n).2).mono ?_
  rintro e w3 ⟨u3, rfl, ho3, hb3⟩
  obtain ⟨A3, c3, rfl, hr3⟩ := own_reads ho3
  have R3 := Lib.hid hr3
  have B3 := Lib.hid hb3
  have hB3 : B ≤ w3.heap.size := by have := hb3.size; omega
  clear ho3 hr3 hb3
  obtain ⟨zs, Z⟩ : ∃ zs, Hid (zs = cnt (sgn (wrap32 n))) := ⟨_, Lib.hid rfl⟩
  have Z9 : Hid (zs.length ≤ 10000) := Lib.hid (by rw [Z.out]; have := cnt_len9 (n := sgn (wrap32 n)) (sgn_le (w32 n).1 (w32 n).2); omega)
  rw [← Z.out] at R3 ⊢
  go_wp2_with (at_builtin; go_must (refine print_append_row (w0 := w3) B rfl _ _ 24 5 .u8 1 rfl Try.underlying24 info5 (by decide) (.slice A m c) ys zs A3 zs.length c3 rfl rfl (pw_own_below HU.out B3.out) R3.out (Below.refl _ _) hB3 (by have := H.out.yl; have := Z9.out; omega) ?_; intro v1 w4 hown hbel hgrow hlie; obtain ⟨A1, n1, cap1, rfl⟩ := own_form hown; have H6 := Lib.hid (put_tail H1.out.base H1.out.wr H1.out.own H1.out.apart (Z.out ▸ H2.out) M2.out B3.out hown hgrow hlie); clear hown hlie hgrow hbel))
  go_ret
  rw [← Z.out]
  exact H6.out.pre ((Below.refl _ _).alloc H.out.base _)

set_option maxHeartbeats 400000 in
set_option maxRecDepth 100000 in
theorem put_3 (B g : Nat) (v u : Value) (xs ys : List Int) (n : Int) (s : ByteArray) (w : World) (h : PutPre B w g v u xs ys n s) :
    Calls Try.prog 16 #[.pointer (some ⟨g, 0, none⟩), u, .agg #[.int .i64 3, .int .i64 n, .string s]] w (PutPost B w g (xs ++ wrd (n % 4294967296)) (ys ++ wrd (n % 4294967296))) := by
  have H := Lib.hid h
  obtain ⟨A, m, c, rfl⟩ := own_form h.own
  clear h
  go_enter Try.func16, Try.ntmps16
  go_wp2_with fail
  have H1 := Lib.hid (H.out.box (.cells #[.int .i64 3, .int .i64 n, .string s] 28))
  refine (wword B g v xs (n % 4294967296) _ H1.out.wr (by have := H.out.xl; omega) (by omega) (by omega)).mono ?_
  rintro e w2 ⟨rfl, v2, h2, m2⟩
  have hc := cell_mv m2 (N := w.heap.size) (j := 1) (x := .int .i64 n) (by simp [go_sem]) H.out.ne.1 H.out.ne.2
  have HU := Lib.hid (put_mid H1.out.wr H1.out.own H1.out.apart m2)
  have H2 := Lib.hid h2
  have M2 := Lib.hid m2
  have hB : B ≤ w2.heap.size := by have := m2.size; have := H1.out.base; omega
  clear h2 m2
  go_wp2_with fail
  refine (rword (n % 4294967296) _ (by omega) (by omega)).mono ?_
  rintro e w3 ⟨u3, rfl, ho3, hb3⟩
  obtain ⟨A3, c3, rfl, hr3⟩ := own_reads ho3
  have R3 := Lib.hid hr3
  have B3 := Lib.hid hb3
  have hB3 : B ≤ w3.heap.size := by have := hb3.size; omega
  clear ho3 hr3 hb3
  obtain ⟨zs, Z⟩ : ∃ zs, Hid (zs = wrd (n % 4294967296)) := ⟨_, Lib.hid rfl⟩
  have Z9 : Hid (zs.length ≤ 10000) := Lib.hid (by rw [Z.out]; simp [wrd])
  rw [← Z.out] at R3 ⊢
  go_wp2_with (at_builtin; go_must (refine print_append_row (w0 := w3) B rfl _ _ 24 5 .u8 1 rfl Try.underlying24 info5 (by decide) (.slice A m c) ys zs A3 zs.length c3 rfl rfl (pw_own_below HU.out B3.out) R3.out (Below.refl _ _) hB3 (by have := H.out.yl; have := Z9.out; omega) ?_; intro v1 w4 hown hbel hgrow hlie; obtain ⟨A1, n1, cap1, rfl⟩ := own_form hown; have H6 := Lib.hid (put_tail H1.out.base H1.out.wr H1.out.own H1.out.apart (Z.out ▸ H2.out) M2.out B3.out hown hgrow hlie); clear hown hlie hgrow hbel))
  go_ret
  rw [← Z.out]
  exact H6.out.pre ((Below.refl _ _).alloc H.out.base _)

set_option maxHeartbeats 400000 in
set_option maxRecDepth 100000 in
theorem put_4 (B g : Nat) (v u : Value) (xs ys : List Int) (n : Int) (s : ByteArray) (w : World) (h : PutPre B w g v u xs ys n s) :
    Calls Try.prog 16 #[.pointer (some ⟨g, 0, none⟩), u, .agg #[.int .i64 4, .int .i64 n, .string s]] w (PutPost B w g (xs ++ (cnt s.size ++ bytesOf s)) (ys ++ (cnt s.size ++ bytesOf s))) := by
  have H := Lib.hid h
  obtain ⟨A, m, c, rfl⟩ := own_form h.own
  clear h
  go_enter Try.func16, Try.ntmps16
  go_wp2_with fail
  have H1 := Lib.hid (H.out.box (.cells #[.int .i64 4, .int .i64 n, .string s] 28))
  refine (wtext B g v xs s _ H1.out.wr (by have := H.out.xl; omega) (by have := H.out.sl; omega)).mono ?_
  rintro e w2 ⟨rfl, v2, h2, m2⟩
  have hc := cell_mv m2 (N := w.heap.size) (j := 2) (x := .string s) (by simp [go_sem]) H.out.ne.1 H.out.ne.2
  have HU := Lib.hid (put_mid H1.out.wr H1.out.own H1.out.apart m2)
  have H2 := Lib.hid h2
  have M2 := Lib.hid m2
  have hB : B ≤ w2.heap.size := by have := m2.size; have := H1.out.base; omega
  clear h2 m2
  go_wp2_with fail
  refine (rtext s _ (by have := H.out.sl; omega)).mono ?_
  rintro e w3 ⟨u3, rfl, ho3, hb3⟩
  obtain ⟨A3, c3, rfl, hr3⟩ := own_reads ho3
  have R3 := Lib.hid hr3
  have B3 := Lib.hid hb3
  have hB3 : B ≤ w3.heap.size := by have := hb3.size; omega
  clear ho3 hr3 hb3
  obtain ⟨zs, Z⟩ : ∃ zs, Hid (zs = (cnt s.size ++ bytesOf s)) := ⟨_, Lib.hid rfl⟩
  have Z9 : Hid (zs.length ≤ 10000) := Lib.hid (by rw [Z.out]; have := cnt_len9 (n := s.size) (by have := H.out.sl; omega); have := H.out.sl; rw [List.length_append, bytesOf_length]; omega)
  rw [← Z.out] at R3 ⊢
  go_wp2_with (at_builtin; go_must (refine print_append_row (w0 := w3) B rfl _ _ 24 5 .u8 1 rfl Try.underlying24 info5 (by decide) (.slice A m c) ys zs A3 zs.length c3 rfl rfl (pw_own_below HU.out B3.out) R3.out (Below.refl _ _) hB3 (by have := H.out.yl; have := Z9.out; omega) ?_; intro v1 w4 hown hbel hgrow hlie; obtain ⟨A1, n1, cap1, rfl⟩ := own_form hown; have H6 := Lib.hid (put_tail H1.out.base H1.out.wr H1.out.own H1.out.apart (Z.out ▸ H2.out) M2.out B3.out hown hgrow hlie); clear hown hlie hgrow hbel))
  go_ret
  rw [← Z.out]
  exact H6.out.pre ((Below.refl _ _).alloc H.out.base _)

set_option maxHeartbeats 400000 in
set_option maxRecDepth 100000 in
theorem put_5 (B g : Nat) (v u : Value) (xs ys : List Int) (k n : Int) (s : ByteArray) (w : World) (h : PutPre B w g v u xs ys n s) (k0 : (k == 0) = false) (k1 : (k == 1) = false) (k2 : (k == 2) = false) (k3 : (k == 3) = false) (k4 : (k == 4) = false) :
    Calls Try.prog 16 #[.pointer (some ⟨g, 0, none⟩), u, .agg #[.int .i64 k, .int .i64 n, .string s]] w (PutPost B w g xs ys) := by
  have H := Lib.hid h
  obtain ⟨A, m, c, rfl⟩ := own_form h.own
  clear h
  go_enter Try.func16, Try.ntmps16
  go_wp2
  go_ret
  have H1 := H.out.box (.cells #[.int .i64 k, .int .i64 n, .string s] 28)
  exact ⟨v, _, rfl, H1.wr, H1.own, H1.apart, (Below.refl _ _).alloc H.out.base _⟩

theorem put_any (B g : Nat) (v u : Value) (xs ys : List Int) (k n : Int) (s : ByteArray) (w : World) (h : PutPre B w g v u xs ys n s) :
    Calls Try.prog 16 #[.pointer (some ⟨g, 0, none⟩), u, .agg #[.int .i64 k, .int .i64 n, .string s]] w (PutPost B w g (xs ++ piece k n s) (ys ++ piece k n s)) := by
  by_cases k0 : k = 0
  · subst k0; exact put_0 B g v u xs ys n s w h
  by_cases k1 : k = 1
  · subst k1; exact put_1 B g v u xs ys n s w h
  by_cases k2 : k = 2
  · subst k2; exact put_2 B g v u xs ys n s w h
  by_cases k3 : k = 3
  · subst k3; exact put_3 B g v u xs ys n s w h
  by_cases k4 : k = 4
  · subst k4; exact put_4 B g v u xs ys n s w h
  · have e : piece k n s = [] := by unfold piece; rw [if_neg k0, if_neg k1, if_neg k2, if_neg k3, if_neg k4]
    rw [e, List.append_nil, List.append_nil]
    exact put_5 B g v u xs ys k n s w h (beq_eq_false_iff_ne.2 k0) (beq_eq_false_iff_ne.2 k1) (beq_eq_false_iff_ne.2 k2) (beq_eq_false_iff_ne.2 k3) (beq_eq_false_iff_ne.2 k4)

theorem piece_len (k n : Int) (s : ByteArray) (h1 : n ≤ 9223372036854775807) (hs : s.size ≤ 1000) : (piece k n s).length ≤ 1010 := by
  unfold piece
  have a := cnt_len9 (n := n.toNat) (by omega)
  have b := cnt_len9 (n := sgn (wrap32 n)) (sgn_le (w32 n).1 (w32 n).2)
  have c := cnt_len9 (n := s.size) (by omega)
  split
  · simp
  split
  · omega
  split
  · omega
  split
  · simp [wrd]
  split
  · rw [List.length_append, bytesOf_length]; omega
  · simp

end Go.Proofs.Ytehdhmhpmkkneaa

/- The walk of the law CodecPuts. -/
namespace Go.Proofs.Ytehdhmhpmkkneaa
open Go.RowKit Go.Proofs.YtehdhmhpmkkneaaW.PrintWords

theorem wr_new (B : Nat) (w : World) (h : B ≤ w.heap.size) : Wr B (w.alloc (.cells #[.slice none 0 0] 26)) w.heap.size (.slice none 0 0) [] :=
  ⟨heap_alloc_new w _, h, own_nil _ _ _ _⟩

/-- Drawn orders leave all that is read as it was. -/
theorem Drawn0.wr {w w1 : World} (h : Drawn0 w w1) {B g : Nat} {v : Value} {xs : List Int} (hw : Wr B w g v xs) : Wr B w1 g v xs := hw.below h.below

set_option maxHeartbeats 400000 in
set_option maxRecDepth 100000 in
theorem awake12 (w : World) : Calls Try.prog 15 #[] w fun e w' => e = .returned (.bool true) ∧ Below w.heap.size w w' := by
  have e1 : Hid (([] ++ cnt 300) ++ cnt (sgn (-1)) = [172, 2, 1]) := Lib.hid (by rw [cnt_high (by omega), cnt_low (n := 300 / 128) (by omega), show sgn (-1) = 1 from rfl, cnt_low (n := 1) (by omega)]; rfl)
  have HW := Lib.hid (wr_new w.heap.size w (Nat.le_refl _))
  go_enter Try.func15, Try.ntmps15
  go_wp2_with fail
  refine (wcount w.heap.size w.heap.size _ [] 300 _ HW.out (by simp) (by omega)).mono ?_
  rintro e w1 ⟨rfl, v1, h1, m1⟩
  have H1 := Lib.hid h1
  have M1 := Lib.hid m1
  clear h1 m1
  go_wp2_with fail
  refine (wnumber w.heap.size w.heap.size v1 _ (-1) w1 H1.out (by rw [cnt_high (by omega), cnt_low (n := 300 / 128) (by omega)]; simp) (by omega) (by omega)).mono ?_
  rintro e w2 ⟨rfl, v2, h2, m2⟩
  rw [e1.out] at h2
  have H2 := Lib.hid h2
  have M2 := Lib.hid m2
  clear h2 m2
  have B2 : Below w.heap.size w w2 := by
    refine (M1.out.trans M2.out).below ((Below.refl _ _).alloc (Nat.le_refl _) _) (by simp) (Nat.le_refl _) (fun k hk => ?_)
    simp [Value.ownBlock] at hk
  go_wp2_with fail
  refine (wbytes w.heap.size w.heap.size v2 _ w2 H2.out (by simp)).mono ?_
  rintro e w3 ⟨u3, rfl, ho3, b3⟩
  obtain ⟨A3, c3, rfl⟩ := own_slice ho3
  have O3 := Lib.hid ho3
  have B3 := Lib.hid b3
  have L3 := Lib.hid (own_lit w3 w3.heap.size 5 .u8 [172, 2, 1] (Nat.le_refl _) (by simp))
  clear ho3 b3
  go_wp2_with fail
  refine (rsame w2.heap.size w3.heap.size _ _ [172, 2, 1] [172, 2, 1] _ (by simp) (pw_own_below O3.out ((Below.refl _ _).alloc (Nat.le_refl _) _)) L3.out).mono ?_
  rintro e w4 ⟨rfl, d4⟩
  have B4 := Lib.hid d4.below
  have D4 := Lib.hid d4
  clear d4
  simp only [decide_true]
  go_wp2_with fail
  refine (wlen w.heap.size w.heap.size v2 [172, 2, 1] _ ((H2.out.below B3.out).below (((Below.refl _ _).alloc (Nat.le_refl _) _).trans (B4.out.mono (by simp)))) ).mono ?_
  rintro e w5 ⟨rfl, rfl⟩
  go_wp2
  go_ret
  have s2 := B2.size
  have s3 := B3.out.size
  exact ⟨rfl, B2.trans ((B3.out.mono s2).trans (((Below.refl _ _).alloc (by omega) _).trans (B4.out.mono (by simp; omega))))⟩

/-- A row of pieces that is read. -/
def Pcs (w : World) (A : Option Addr) (n : Nat) (ps : List (Int × Int × ByteArray)) : Prop :=
  ∀ k, k < n → ∃ b off, A = some ⟨b, off, none⟩ ∧ b < w.heap.size ∧ w.cell? ⟨b, off + k * 3, none⟩ = some (.int .i64 (ps.getD k (0, 0, ByteArray.empty)).1) ∧ w.cell? ⟨b, off + k * 3 + 1, none⟩ = some (.int .i64 (ps.getD k (0, 0, ByteArray.empty)).2.1) ∧
    w.cell? ⟨b, off + k * 3 + 2, none⟩ = some (.string (ps.getD k (0, 0, ByteArray.empty)).2.2) ∧ -9223372036854775808 ≤ (ps.getD k (0, 0, ByteArray.empty)).2.1 ∧ (ps.getD k (0, 0, ByteArray.empty)).2.1 ≤ 9223372036854775807 ∧ (ps.getD k (0, 0, ByteArray.empty)).2.2.size ≤ 9223372036854775807

set_option maxHeartbeats 1000000 in
set_option maxRecDepth 100000 in
theorem codecPuts_any (A : Option Addr) (n c : Nat) (ps : List (Int × Int × ByteArray)) (w : World) (hn : n ≤ 9223372036854775807) (hr : Pcs w A n ps) :
    Calls Try.prog 3 #[.slice A n c] w fun e w' => e = .returned (.bool true) ∧ Below w.heap.size w w' := by
  have HR := Lib.hid hr
  have HN := Lib.hid hn
  clear hr
  go_enter Try.func3, Try.ntmps3
  go_wp2_with (go_at_call 15; refine (awake12 _).mono ?_; rintro e w1 ⟨rfl, hb1⟩; have hs1 := hb1.size)
  clear hn
  go_loopw [2, 4, 5] (fun r2 r4 r5 wr => ∃ (k : Nat) (v : Value) (xs : List Int), k ≤ n ∧ k ≤ 60 ∧ r2 = .bool false ∧ r5 = .int .i64 k ∧ Hid (Wr w.heap.size wr w1.heap.size v xs) ∧ Hid (wr.ownsRow w.heap.size 5 1 r4 xs.length (nums .u8 xs)) ∧ Hid (Apart r4 v) ∧ Hid (Below w.heap.size w wr) ∧ Hid (xs.length ≤ 1010 * k))
    (fun _ _ r5 _ => n - (intOf r5).toNat)
  case atStart => exact ⟨0, _, [], by omega, by omega, rfl, rfl, Lib.hid (wr_new _ _ hs1), Lib.hid (own_nil _ _ _ _), Lib.hid (.inl rfl), Lib.hid (hb1.alloc hs1 _), Lib.hid (by simp)⟩
  case round =>
    obtain ⟨k, v, xs, hk, hk6, rfl, rfl, H1, H2, H3, HB, HL⟩ := hrel
    obtain ⟨A4, n4, c4, rfl⟩ := own_form H2.out
    have hsz : Hid (w.heap.size ≤ wr.heap.size) := Lib.hid HB.out.size
    by_cases hlt : k < n ∧ k < 60
    · obtain ⟨h1, h2⟩ := hlt
      obtain ⟨b, off, rfl, hbl, hc0, hc1, hc2, n0, n1, hs⟩ := HR.out k h1
      have x0 := (HB.out.cell (p := ⟨b, off + k * 3, none⟩) hbl).trans hc0
      have x1 := (HB.out.cell (p := ⟨b, off + k * 3 + 1, none⟩) hbl).trans hc1
      have x2 := (HB.out.cell (p := ⟨b, off + k * 3 + 2, none⟩) hbl).trans hc2
      generalize (ps.getD k (0, 0, ByteArray.empty)).1 = q at *
      generalize (ps.getD k (0, 0, ByteArray.empty)).2.1 = m at *
      generalize (ps.getD k (0, 0, ByteArray.empty)).2.2 = s at *
      clear hc0 hc1 hc2
      have M0 := Lib.hid n0
      have M1 := Lib.hid n1
      clear n0 n1
      by_cases h3 : s.size ≤ 1000
      · go_wp2_with fail
        refine (put_any w.heap.size w1.heap.size v _ xs xs q m s _ ⟨H1.out, H2.out, H3.out, hsz.out, by have := HL.out; omega, by have := HL.out; omega, M0.out, M1.out, h3⟩).mono ?_
        rintro e w2 ⟨v', u', rfl, p1, p2, p3, p4⟩
        have P1 := Lib.hid p1
        have P2 := Lib.hid p2
        have P3 := Lib.hid p3
        have P4 := Lib.hid (HB.out.trans p4)
        clear p1 p2 p3 p4
        go_wp2
        go_roundw
        case rel =>
          refine ⟨k + 1, v', xs ++ piece q m s, by omega, by omega, rfl, by go_num, P1, P2, P3, P4, Lib.hid ?_⟩
          have := piece_len q m s M1.out h3
          have := HL.out
          rw [List.length_append]
          omega
        case measure => simp [intOf]; omega
      · go_wp2
        go_ret
        exact ⟨rfl, HB.out⟩
    · by_cases h1 : k < n
      all_goals
        first | (have h2 : 60 ≤ k := by omega) | skip
        clear hlt
        have hX : Hid (xs.length ≤ 1000000000) := Lib.hid (by have := HL.out; omega)
        go_wp2_with fail
        refine (wbytes w.heap.size w1.heap.size v xs wr H1.out hX.out).mono ?_
        rintro e w3 ⟨u3, rfl, ho3, b3⟩
        obtain ⟨A3, c3, rfl⟩ := own_slice ho3
        have O3 := Lib.hid ho3
        have B3 := Lib.hid b3
        clear ho3 b3
        go_wp2_with fail
        refine (rsame wr.heap.size w.heap.size _ _ xs xs _ hX.out O3.out (pw_own_below H2.out B3.out)).mono ?_
        rintro e w4 ⟨rfl, d4⟩
        have B4 := Lib.hid d4.below
        clear d4
        simp only [decide_true]
        obtain ⟨A4', c4', e4⟩ := own_slice H2.out
        injection e4 with _ e5 _
        subst e5
        go_wp2_with fail
        refine (wlen w.heap.size w1.heap.size v xs _ ((H1.out.below B3.out).below B4.out)).mono ?_
        rintro e w5 ⟨rfl, rfl⟩
        go_wp2
        go_ret
        exact ⟨rfl, HB.out.trans ((B3.out.mono hsz.out).trans (B4.out.mono (by have := B3.out.size; have := hsz.out; omega)))⟩
end Go.Proofs.Ytehdhmhpmkkneaa

/- Layer 12: several readers and writers at once: what one call leaves of the others. -/
namespace Go.Proofs.Ytehdhmhpmkkneaa
open Go.RowKit Go.Proofs.YtehdhmhpmkkneaaW.PrintWords Go.Proofs.Ytehdhmhpmkkneaa.PAll

/-- One step: no block that was there has changed but x. -/
abbrev Stp (w w' : World) (x : Nat) : Prop := Mv w w' x (.slice none 0 0) (.slice none 0 0)

theorem Stp.of {w w' : World} {x : Nat} {v' : Value} (h : Mv w w' x (.slice none 0 0) v') : Stp w w' x :=
  ⟨h.os, h.tape, h.output, h.size, h.block, .inl rfl⟩
theorem Stp.low {w w' : World} {x B : Nat} (h : Stp w w' x) (hx : B ≤ x) (hB : B ≤ w.heap.size) : Below B w w' :=
  ⟨h.os, h.tape, h.output, h.size, fun i hi => h.block i (by omega) (by omega) (by simp [Value.ownBlock])⟩
theorem Stp.same {w w' : World} {x : Nat} (h : Stp w w' x) {i : Nat} (hi : i < w.heap.size) (hx : i ≠ x) : w'.heap[i]? = w.heap[i]? := h.block i hi hx (by simp [Value.ownBlock])
theorem Stp.below {w w' : World} {x : Nat} (h : Below w.heap.size w w') : Stp w w' x := Mv.of_below h x _

/-- A block of a reader or of a writer. -/
def Hd (W : World) (x : Nat) : Prop := (∃ v, W.heap[x]? = some (.cells #[v] 26 (0, 0)) ∧ ∀ n, v ≠ .int .u8 n) ∨ ∃ v m n, W.heap[x]? = some (.cells #[v, .int .i64 m, .int .i64 n] 123 (0, 0)) ∧ ∀ n, v ≠ .int .u8 n
theorem Hd.not {W : World} {x : Nat} (h : Hd W x) {j : Nat} {n : Int} (hc : W.cell? ⟨x, j, none⟩ = some (.int .u8 n)) : False := by
  rcases h with ⟨v, hb, hv⟩ | ⟨v, m, q, hb, hv⟩
  · have := blk_cell hb j
    rw [hc] at this
    match j, this with
    | 0, this => injection this with this; exact hv n this.symm
    | j + 1, this => simp at this
  · have := blk_cell hb j
    rw [hc] at this
    match j, this with
    | 0, this => injection this with this; exact hv n this.symm
    | 1, this => simp at this
    | 2, this => simp at this
    | j + 3, this => simp at this

/-- A reader, among others. -/
def RD (W : World) (g : Nat) (s : RS) : Prop := ∃ w0, IsR w0 W g s ∧ Below w0.heap.size w0 W
theorem RD.hd {W : World} {g : Nat} {s : RS} (h : RD W g s) : Hd W g := by
  obtain ⟨_, ⟨_, _, _, _, hb, _⟩, _⟩ := h
  exact .inr ⟨_, _, _, hb, by simp⟩
theorem RD.lt {W : World} {g : Nat} {s : RS} (h : RD W g s) : g < W.heap.size := by
  obtain ⟨_, ⟨_, _, _, _, hb, _⟩, _⟩ := h
  exact blk_lt hb
theorem RD.bytes {W : World} {g : Nat} {s : RS} (h : RD W g s) : AllB s.xs := by obtain ⟨_, h, _⟩ := h; exact h.bytes
theorem RD.len {W : World} {g : Nat} {s : RS} (h : RD W g s) : s.xs.length ≤ 140737488351232 := by obtain ⟨_, h, _⟩ := h; exact h.len
theorem RD.step {W W' : World} {g x : Nat} {s : RS} (h : RD W g s) (hs : Stp W W' x) (hx : x ≠ g) (hd : Hd W x) : RD W' g s := by
  obtain ⟨w0, ⟨f0, p, A, c, hb, hg, hc, hr, ha, ok, hl⟩, hB⟩ := h
  have hlt := blk_lt hb
  have hsz : (({ W' with heap := W'.heap.extract 0 g } : World)).heap.size = g := by
    show (W'.heap.extract 0 g).size = g
    have := hs.size
    simp; omega
  have hbel : Below g ({ W' with heap := W'.heap.extract 0 g } : World) W' := by
    refine ⟨rfl, rfl, rfl, ?_, fun i hi => ?_⟩
    · rw [hsz]; have := hs.size; omega
    · show W'.heap[i]? = (W'.heap.extract 0 g)[i]?
      have := hs.size
      rw [Array.getElem?_extract]
      simp; omega
  refine ⟨{ W' with heap := W'.heap.extract 0 g }, ⟨f0, p, A, c, (hs.same hlt (Ne.symm hx)).trans hb, by rw [hsz]; exact Nat.le_refl _, hc, ⟨hr.1, hr.2.1, fun h0 => ?_⟩, ha, ok, hl⟩, by rw [hsz]; exact hbel⟩
  obtain ⟨ad, e, hcl⟩ := hr.2.2 h0
  refine ⟨ad, e, fun j hj => ?_⟩
  have x0 := hcl j hj
  have hbl : (ad.add j).block < w0.heap.size := World.block_lt_of_cell? _ _ x0
  have x1 := (hB.cell hbl).trans x0
  have e1 := hbel.cell (p := ad.add j) (by omega)
  rw [← e1, ← x1]
  have hsp : (ad.add j).spot = none := World.cell?_spot x0
  have hne : (ad.add j).block ≠ x := by
    intro e2
    refine hd.not (j := (ad.add j).off) (n := f0.getD j 0) ?_
    rw [← x1, ← e2, ← hsp]
  have hlt2 : (ad.add j).block < W.heap.size := World.block_lt_of_cell? _ _ x1
  exact World.cell?_of_block (w := W) (hs.same hlt2 hne)

theorem RD.call {W : World} {g : Nat} {s : RS} {i : Nat} {args : Array Value} {v : Value} {s' : RS} (h : RD W g s)
    (hc : ∀ w0, IsR w0 W g s → Below w0.heap.size w0 W → Calls Try.prog i args W (RPost w0 W g v s')) :
    Calls Try.prog i args W fun e W' => e = .returned v ∧ RD W' g s' ∧ Stp W W' g := by
  obtain ⟨w0, hi, hB⟩ := h
  refine (hc w0 hi hB).mono ?_
  rintro e W' ⟨rfl, i1, b1, k1⟩
  exact ⟨rfl, ⟨w0, i1, b1⟩, b1.os.trans hB.os.symm, b1.tape.trans hB.tape.symm, b1.output.trans hB.output.symm, k1.1, fun i hi hx _ => k1.2 i hi hx (by simp), .inl rfl⟩

/-- A writer, among others: its bytes lie in blocks that were not there in a world of size S. -/
def Wn (S : Nat) (W : World) (h : Nat) (xs : List Int) : Prop := ∃ v, Wr 0 W h v xs ∧ (v.ownBlock = none ∨ ∃ b, v.ownBlock = some b ∧ S ≤ b)
theorem Wn.hd {S : Nat} {W : World} {h : Nat} {xs : List Int} (k : Wn S W h xs) : Hd W h := by
  obtain ⟨v, ⟨hb, _, ho⟩, _⟩ := k
  obtain ⟨A, c, rfl⟩ := own_slice ho
  exact .inl ⟨_, hb, by simp⟩
theorem Wn.step {S : Nat} {W W' : World} {h x : Nat} {xs : List Int} (k : Wn S W h xs) (hs : Stp W W' x) (hx : x ≠ h) (hS : x < S) : Wn S W' h xs := by
  obtain ⟨v, ⟨hb, h0, ho⟩, hv⟩ := k
  have hk : KeepBut W W' x none := ⟨hs.size, fun i hi hx _ => hs.same hi hx⟩
  refine ⟨v, ⟨(hs.same (blk_lt hb) (Ne.symm hx)).trans hb, h0, hk.own ho ?_ ?_⟩, hv⟩
  · rcases hv with e | ⟨b, e, hb⟩
    · rw [e]; simp
    · rw [e]; intro e2; injection e2; omega
  · rcases hv with e | ⟨b, e, hb⟩
    · exact .inl e
    · right; rw [e]; simp

theorem Wn.call {W : World} {h : Nat} {i : Nat} {args : Array Value} {ys : List Int}
    (hc : Calls Try.prog i args W fun e w' => e = .returned (.tuple #[]) ∧ ∃ v', Wr 0 w' h v' ([] ++ ys) ∧ Mv W w' h (.slice none 0 0) v') :
    Calls Try.prog i args W fun e W' => e = .returned (.tuple #[]) ∧ Wn W.heap.size W' h ys ∧ Stp W W' h := by
  refine hc.mono ?_
  rintro e W' ⟨rfl, v', h1, m1⟩
  refine ⟨rfl, ⟨v', h1, ?_⟩, Stp.of m1⟩
  rcases m1.lies with e | e
  · exact .inl (by rw [e]; rfl)
  · exact .inr e
theorem Wr.stp {W W' : World} {h x : Nat} (k : Wr 0 W h (.slice none 0 0) []) (hs : Stp W W' x) (hx : x ≠ h) : Wr 0 W' h (.slice none 0 0) [] :=
  ⟨(hs.same (blk_lt k.1) (Ne.symm hx)).trans k.1, k.2.1, own_nil _ _ _ _⟩

/-- The bytes of a writer are compared with bytes that are read. -/
theorem rsameA {B : Nat} {v : Value} {xs ys : List Int} {A : Option Addr} {n c : Nat} {w : World} (hm : xs.length ≤ 1000000000) (hx : w.ownsRow B 5 1 v xs.length (nums .u8 xs)) (hy : ReadsInt w .u8 A n ys) (hn : n ≤ c) :
    Calls Try.prog 17 #[v, .slice A n c] w fun e w' => e = .returned (.bool (decide (xs = ys))) ∧ Drawn0 w w' := by
  obtain ⟨A1, c1, rfl, hc, hr⟩ := reads_own hx
  obtain rfl := hy.1
  exact pascalineref01_Same.calls (xs.length + 1) A1 c1 xs A c ys _ w hr hc (Kd.C_of_reads (enc := Value.int .u8) (d := (0 : Int)) (h1 := fun _ => rfl) hy) hn (refSame xs ys (by omega))

end Go.Proofs.Ytehdhmhpmkkneaa

/- Layer 12: bytes that are taken whole are the bytes that the writer would put. -/
namespace Go.Proofs.Ytehdhmhpmkkneaa
open Go.RowKit Go.Proofs.YtehdhmhpmkkneaaW.PrintWords Go.Proofs.Ytehdhmhpmkkneaa.PAll

theorem cntGo_put : ∀ (xs : List Int) (j : Nat) (n : Int), AllB xs → (cntGo xs j n).2.err = 0 →
    ∃ m : Nat, xs = cnt m ++ (cntGo xs j n).2.xs ∧ (cntGo xs j n).1 = n + (m : Int) * 2 ^ (7 * j) ∧ (0 < j → 0 < m)
  | [], j, n, _, h => by simp [cntGo] at h
  | b :: r, j, n, ok, h => by
    have hb := ok b (by simp)
    by_cases h1 : j = 9 ∨ (0 < j ∧ b = 0)
    · simp [cntGo, h1] at h
    · by_cases h2 : b < 128
      · simp only [cntGo, if_neg h1, if_pos h2]
        refine ⟨b.toNat, ?_, ?_, fun hj => by omega⟩
        · rw [cnt_low (by omega)]
          have : ((b.toNat : Nat) : Int) = b := by omega
          rw [this]; rfl
        · have : ((b.toNat : Nat) : Int) = b % 128 := by omega
          rw [this]
      · simp only [cntGo, if_neg h1, if_neg h2] at h ⊢
        obtain ⟨m, e1, e2, e3⟩ := cntGo_put r (j + 1) _ (fun x hx => ok x (by simp [hx])) h
        have hm := e3 (by omega)
        refine ⟨(b % 128).toNat + 128 * m, ?_, ?_, fun _ => by omega⟩
        · rw [cnt_high (by omega)]
          have q1 : ((b % 128).toNat + 128 * m) / 128 = m := by omega
          have q2 : ((((b % 128).toNat + 128 * m) % 128 + 128 : Nat) : Int) = b := by omega
          rw [q1, q2, List.cons_append, ← e1]
        · rw [e2, show 7 * (j + 1) = 7 * j + 7 by omega, Int.pow_add]
          have q3 : (((b % 128).toNat + 128 * m : Nat) : Int) = b % 128 + 128 * (m : Int) := by omega
          rw [q3]
          generalize (2 : Int) ^ (7 * j) = p
          rw [Int.add_mul]
          have : 128 * (m : Int) * p = (m : Int) * (p * 2 ^ 7) := by
            rw [Int.mul_comm p, ← Int.mul_assoc, Int.mul_comm 128]; rfl
          omega

theorem countS_put (m : Int) (xs : List Int) (ok : AllB xs) (h : (countS m ⟨xs, 0⟩).2.err = 0) : xs = cnt (countS m ⟨xs, 0⟩).1.toNat ++ (countS m ⟨xs, 0⟩).2.xs := by
  unfold countS at h ⊢
  rw [if_pos rfl] at h ⊢
  unfold fin at h ⊢
  by_cases h1 : (cntGo xs 0 0).2.err = 0
  · rw [if_pos h1] at h ⊢
    by_cases h2 : (cntGo xs 0 0).1 > max m 0
    · rw [if_pos h2] at h
      simp at h
    · rw [if_neg h2] at h ⊢
      obtain ⟨k, e1, e2, _⟩ := cntGo_put xs 0 0 ok h1
      have : (cntGo xs 0 0).1.toNat = k := by rw [e2]; simp
      rw [this]
      exact e1
  · rw [if_neg h1] at h
    exact absurd h h1

theorem endS_ok {s : RS} (h : (endS s).err = 0) : s.err = 0 ∧ s.xs = [] := by
  unfold endS at h
  by_cases h1 : leftS s > 0
  · rw [if_pos h1] at h
    simp at h
  · rw [if_neg h1] at h
    refine ⟨h, ?_⟩
    unfold leftS at h1
    rw [if_pos h] at h1
    exact List.eq_nil_of_length_eq_zero (by omega)

theorem once1 (m : Int) (xs : List Int) (ok : AllB xs) (h : (endS (countS m ⟨xs, 0⟩).2).err = 0) : cnt (countS m ⟨xs, 0⟩).1.toNat = xs := by
  obtain ⟨h1, h2⟩ := endS_ok h
  have := countS_put m xs ok h1
  rw [h2, List.append_nil] at this
  exact this.symm
theorem sgn_num (n : Int) (h : 0 ≤ n) : sgn (if n % 2 = 1 then -((n + 1) / 2) else n / 2) = n.toNat := by
  unfold sgn
  by_cases h1 : n % 2 = 1
  · rw [if_pos h1, if_pos (by omega)]; omega
  · rw [if_neg h1, if_neg (by omega)]; omega
theorem once2 (xs : List Int) (ok : AllB xs) (h : (endS (numS ⟨xs, 0⟩).2).err = 0) : cnt (sgn (numS ⟨xs, 0⟩).1) = xs := by
  have hb := (countS_bd 4294967295 ⟨xs, 0⟩ ok).1
  show cnt (sgn (if (countS 4294967295 ⟨xs, 0⟩).1 % 2 = 1 then -(((countS 4294967295 ⟨xs, 0⟩).1 + 1) / 2) else (countS 4294967295 ⟨xs, 0⟩).1 / 2)) = xs
  rw [sgn_num _ hb]
  exact once1 _ xs ok h
theorem numS_bd (s : RS) (ok : AllB s.xs) : -2147483648 ≤ (numS s).1 ∧ (numS s).1 ≤ 2147483647 := by
  have hb := countS_bd 4294967295 s ok
  have e : (numS s).1 = if (countS 4294967295 s).1 % 2 = 1 then -(((countS 4294967295 s).1 + 1) / 2) else (countS 4294967295 s).1 / 2 := rfl
  rw [e]
  generalize (countS 4294967295 s).1 = n at *
  split <;> omega
theorem bytesOf_strOfNums (l : List Int) (ok : AllB l) : bytesOf (strOfNums l) = l := by
  show ((strOfNums l).data.toList.map fun b => (b.toNat : Int)) = l
  rw [strOfNums_data, List.map_map]
  refine (List.map_congr_left fun x hx => ?_).trans (List.map_id l)
  have := ok x hx
  simp
  omega
theorem textS_put (m : Int) (s : RS) (hx : AllB s.xs) (h0 : s.err = 0) (h : (textS m s).2.err = 0) :
    s.xs = cnt (textS m s).1.size ++ bytesOf (textS m s).1 ++ (textS m s).2.xs := by
  have hp := countS_put m s.xs hx
  have hs : (⟨s.xs, 0⟩ : RS) = s := by cases s; simp only at h0; subst h0; rfl
  rw [hs] at hp
  have hbd := countS_bd m s hx
  unfold textS at h ⊢
  generalize countS m s = q at *
  by_cases h1 : q.2.err = 0
  · simp only [if_pos h1] at h ⊢
    by_cases h2 : q.1 > q.2.xs.length
    · rw [if_pos h2] at h
      simp at h
    · rw [if_neg h2]
      have e1 := hp h1
      have hall : AllB (q.2.xs.take q.1.toNat) := fun x hxm => hx x (by rw [e1]; exact List.mem_append_right _ (List.mem_of_mem_take hxm))
      have e2 : (strOfNums (q.2.xs.take q.1.toNat)).size = q.1.toNat := by
        rw [strOfNums_size, List.length_take]
        have := hbd.1
        omega
      have e3 : bytesOf (strOfNums (q.2.xs.take q.1.toNat)) = q.2.xs.take q.1.toNat := bytesOf_strOfNums _ hall
      rw [e2, e3, List.append_assoc, List.take_append_drop]
      exact e1
  · simp only [if_neg h1] at h
    exact absurd h h1
theorem once3 (m : Int) (xs : List Int) (ok : AllB xs) (h : (endS (textS m ⟨xs, 0⟩).2).err = 0) : cnt (textS m ⟨xs, 0⟩).1.size ++ bytesOf (textS m ⟨xs, 0⟩).1 = xs := by
  obtain ⟨h1, h2⟩ := endS_ok h
  have := textS_put m ⟨xs, 0⟩ ok rfl h1
  rw [h2, List.append_nil] at this
  exact this.symm
theorem textS_bd (m : Int) (s : RS) (ok : AllB s.xs) (h0 : 0 ≤ m) : ((textS m s).1.size : Int) ≤ m := by
  have hb := countS_bd m s ok
  unfold textS
  split
  · split
    · simpa using h0
    · rw [strOfNums_size, List.length_take]
      omega
  · simpa using h0
end Go.Proofs.Ytehdhmhpmkkneaa

/- From an argument's reading to its cells: numbers, bools, strings, slices and structs of one-cell fields. -/
namespace Go.Proofs.Ytehdhmhpmkkneaa
open Go.RowKit Go.Proofs.YtehdhmhpmkkneaaW.PrintWords Go.Proofs.Ytehdhmhpmkkneaa.PAll

/-- Whatever reads as a datum of type t has the cells of a value of kind d. -/
def Opens {α : Type} (t : TypeId) (d : Kd α) (ok : α → Prop) : Prop :=
  ∀ (H : Type) (enc : TypeId × Value → H) (W : World) (base : Nat) (spare : Nat → Bool) (held : Bool) (fuel : Nat) (cs : List Value) (y : DataW H × List MemPlace),
    DataW.trod enc Try.prog W base spare held fuel t cs = some y → ∃ x, d.K W x cs ∧ ok x

theorem opens_int {t : TypeId} {k : IntKind} (h : Try.prog.underlying t = some (.int k)) : Opens t (Kd.int k) (fun x => (Lit.int k x).wf = true) :=
  fun _ _ _ _ _ _ _ _ _ hy => by
    obtain ⟨n, rfl, _, hw⟩ := DataW.trod_int h hy
    exact ⟨n, rfl, hw⟩
theorem opens_bool {t : TypeId} (h : Try.prog.underlying t = some .bool) : Opens t Kd.bool (fun _ => True) :=
  fun _ _ _ _ _ _ _ _ _ hy => by
    obtain ⟨b, rfl, _⟩ := DataW.trod_bool h hy
    exact ⟨b, rfl, trivial⟩
theorem opens_string {t : TypeId} (h : Try.prog.underlying t = some .string) : Opens t Kd.string (fun s => s.size ≤ maxLen) :=
  fun _ _ _ _ _ _ _ _ _ hy => by
    obtain ⟨s, rfl, _, hl⟩ := DataW.trod_string h hy
    exact ⟨s, rfl, hl⟩

theorem opens_slice {α : Type} [Inhabited α] {t e : TypeId} {d : Kd α} {ok : α → Prop} (ht : Try.prog.underlying t = some (.slice e)) (hc : Try.prog.cellsOf e = d.sz) (hd : Opens e d ok) :
    Opens t (Kd.slice e d) (fun xs => xs.length ≤ maxLen ∧ ∀ x ∈ xs, ok x) := by
  intro H enc W base spare held fuel cs y hy
  rcases Deep.open_slice ht hy with ⟨rfl, _⟩ | ⟨a, len, cap, m, n, D, Pl, rfl, hb, hl, hm, hmm, _, hi⟩
  · exact ⟨[], ⟨none, 0, rfl, Nat.le_refl _, rfl, by simp, fun h => absurd h (Nat.lt_irrefl _)⟩, by simp, by simp⟩
  · have hlm : len ≤ m := by rw [hmm]; split <;> omega
    have key : ∀ i, i < len → ∃ x : α, ∃ cs', W.cells? base (a.add (i * Try.prog.cellsOf e)) (Try.prog.cellsOf e) = some cs' ∧ d.K W x cs' ∧ ok x := fun i him => by
      obtain ⟨cs', h1, h2⟩ := hi i (by omega)
      obtain ⟨x, hx, hk⟩ := hd H enc W base spare held n cs' _ h2
      exact ⟨x, cs', h1, hx, hk⟩
    obtain ⟨f, hf⟩ := Deep.choose_lt key
    have hlen : ((List.range len).map f).length = len := by simp
    refine ⟨(List.range len).map f, ⟨some a, cap, by rw [hlen], by rw [hlen]; exact hl, ?_⟩, by rw [hlen]; exact Nat.le_trans hl hm, ?_⟩
    · refine ⟨rfl, ?_, fun _ => ⟨a, rfl, fun j p hj => ?_⟩⟩
      · rw [hlen]; have := Nat.le_trans hl hm; simpa only [maxLen] using this
      · have hj' : j < len := by
          have := (List.getElem?_eq_some_iff.1 hj).1
          simpa using this
        have hp : f j = p := by
          have := (List.getElem?_eq_some_iff.1 hj).2
          simpa using this
        obtain ⟨cs', h1, h2, _⟩ := hf j hj'
        obtain ⟨_, hcl, hat⟩ := World.cells?_some h1
        rw [hc] at hcl hat
        refine ⟨cs', hcl, hp ▸ h2, fun i u hu => ?_⟩
        have hil : i < d.sz := by rw [← hcl]; exact (List.getElem?_eq_some_iff.1 hu).1
        rw [← Deep.add_add, hat i hil, hu]
    · intro x hx
      obtain ⟨i, hi', rfl⟩ := List.mem_map.1 hx
      obtain ⟨_, _, _, hk⟩ := hf i (List.mem_range.1 hi')
      exact hk

/-- A struct of one-cell fields: each field's cell with its own reading. -/
theorem struct_cells {H : Type} {enc : TypeId × Value → H} {W : World} {base : Nat} {spare : Nat → Bool} {held : Bool} {fuel : Nat} {t : TypeId} {fs : Array Field} {cs : List Value} {y : DataW H × List MemPlace}
    (ht : Try.prog.underlying t = some (.struct fs)) (hone : ∀ (j : Nat) (f : Field), fs[j]? = some f → f.offset = j ∧ Try.prog.cellsOf f.type = 1) (hC : Try.prog.cellsOf t = fs.size) (h : DataW.trod enc Try.prog W base spare held fuel t cs = some y) :
    cs.length = fs.size ∧ ∃ n, ∀ (j : Nat) (f : Field), fs[j]? = some f → ∃ (v : Value) (z : DataW H × List MemPlace), cs[j]? = some v ∧ DataW.trod enc Try.prog W base spare held n f.type [v] = some z := by
  obtain ⟨xs, n, _, _, hl, hx, hf⟩ := DataW.trod_struct ht h
  rw [hC] at hl
  refine ⟨hl, n, fun j f hj => ?_⟩
  obtain ⟨ho, hc⟩ := hone j f hj
  have hlt : j < fs.size := (Array.getElem?_eq_some_iff.1 hj).1
  have h1 := hf j f hj
  have h2 : (cs.drop j).take 1 = [cs[j]'(by omega)] := by
    rw [List.drop_eq_getElem_cons (by omega)]
    rfl
  rw [ho, hc, h2, List.getElem?_eq_getElem (show j < xs.length by omega)] at h1
  exact ⟨_, _, List.getElem?_eq_getElem (by omega), h1⟩

theorem opens_iso {α β : Type} {t : TypeId} {d : Kd α} {ok : α → Prop} (f : β → α) (g : α → β) (hfg : ∀ x, f (g x) = x) (h : Opens t d ok) : Opens t (Kd.iso d f) (fun x => ok (f x)) := by
  intro H enc W base spare held fuel cs y hy
  obtain ⟨x, hx, hk⟩ := h H enc W base spare held fuel cs y hy
  exact ⟨g x, by show d.K W (f (g x)) cs; rw [hfg]; exact hx, by show ok (f (g x)); rw [hfg]; exact hk⟩



/-- An argument that is a slice. -/
theorem opens_arg {α H : Type} {t e : TypeId} {d : Kd α} {ok : List α → Prop} (hop : Opens t (Kd.slice e d) ok) {enc : TypeId × Value → H} {W : World} {base : Nat} {spare : Nat → Bool} {held : Bool} {A : Option Addr} {n c : Nat} {dd : DataW H} {p : List MemPlace}
    (h : DataW.Trod enc Try.prog W base spare held t (.slice A n c) dd p) : ∃ xs : List α, n = xs.length ∧ xs.length ≤ c ∧ Kd.C d W A xs.length xs ∧ ok xs := by
  obtain ⟨fuel, hf⟩ := h
  obtain ⟨xs, ⟨A', c', e', l, hC⟩, hk⟩ := hop H enc W base spare held fuel _ _ hf
  have e2 : (Value.slice A n c).cells.toList = [.slice A n c] := by simp [Value.cells]
  rw [e2] at e'
  injection e' with e' _
  injection e' with e3 e4 e5
  subst e3 e4 e5
  exact ⟨xs, rfl, l, hC, hk⟩
/-- An argument that is a string. -/
theorem opens_str {H : Type} {enc : TypeId × Value → H} {W : World} {base : Nat} {spare : Nat → Bool} {held : Bool} {s : ByteArray} {dd : DataW H} {p : List MemPlace}
    (h : DataW.Trod enc Try.prog W base spare held 9 (.string s) dd p) : s.size ≤ 9223372036854775807 := by
  obtain ⟨fuel, hf⟩ := h
  obtain ⟨x, e, hk⟩ := opens_string Try.underlying9 H enc W base spare held fuel _ _ hf
  have e2 : (Value.string s).cells.toList = [.string s] := by simp [Value.cells]
  rw [e2] at e
  injection e with e _
  injection e with e
  subst e
  unfold maxLen at hk; omega
theorem bd64 {n : Int} (h : (Lit.int .i64 n).wf = true) : -9223372036854775808 ≤ n ∧ n ≤ 9223372036854775807 := by
  simp [Lit.wf, IntKind.min, IntKind.max, IntKind.signed, IntKind.bits] at h; omega
theorem bd32 {n : Int} (h : (Lit.int .i32 n).wf = true) : -2147483648 ≤ n ∧ n ≤ 2147483647 := by
  simp [Lit.wf, IntKind.min, IntKind.max, IntKind.signed, IntKind.bits] at h; omega
theorem bdu32 {n : Int} (h : (Lit.int .u32 n).wf = true) : 0 ≤ n ∧ n ≤ 4294967295 := by
  simp [Lit.wf, IntKind.min, IntKind.max, IntKind.signed, IntKind.bits] at h; omega
theorem bdu8 {n : Int} (h : (Lit.int .u8 n).wf = true) : 0 ≤ n ∧ n ≤ 255 := by
  simp [Lit.wf, IntKind.min, IntKind.max, IntKind.signed, IntKind.bits] at h; omega

/-- The address of what is read is plain. -/
theorem plain_of {w : World} {ad : Addr} {v : Value} (h : w.cell? (ad.add 0) = some v) : ∃ b off, ad = ⟨b, off, none⟩ := by
  obtain ⟨b, off, spot⟩ := ad
  have hs : spot = none := by simpa [Addr.add] using World.cell?_spot h
  exact ⟨b, off, by rw [hs]⟩

end Go.Proofs.Ytehdhmhpmkkneaa

/- The openers of the structs that arguments are made of. The kind of type 28 is written by the kit's kinds.py. -/
namespace Go.Proofs.Ytehdhmhpmkkneaa
open Go.RowKit Go.Proofs.YtehdhmhpmkkneaaW.PrintWords Go.Proofs.Ytehdhmhpmkkneaa.PAll
/-! #### struct type 28 -/
structure S28 where
  f0 : Int
  f1 : Int
  f2 : ByteArray
def z28 : S28 := ⟨(0 : Int), (0 : Int), (⟨#[]⟩ : ByteArray)⟩
def k28 : Kd S28 := Kd.iso (Kd.pair (Kd.int .i64) (Kd.pair (Kd.int .i64) Kd.string)) (fun x : S28 => (x.f0, x.f1, x.f2))
theorem k28_open {w : World} {x : S28} {cs : List Value} (h : k28.K w x cs) : cs = [.int .i64 x.f0, .int .i64 x.f1, .string x.f2] := by
  obtain ⟨_, _, rfl, rfl, ⟨_, _, rfl, rfl, rfl⟩⟩ := h
  exact rfl
theorem k28_openM {w : World} {base : Nat} {ok : Nat → Prop} {x : S28} {cs : List Value} (h : k28.M w base ok x cs) : cs = [.int .i64 x.f0, .int .i64 x.f1, .string x.f2] := by
  obtain ⟨_, _, rfl, rfl, ⟨_, _, rfl, rfl, rfl⟩⟩ := h
  exact rfl
theorem k28_mk (w : World) (x : S28)  : k28.K w x [.int .i64 x.f0, .int .i64 x.f1, .string x.f2] := ⟨[.int .i64 x.f0], [.int .i64 x.f1, .string x.f2], rfl, rfl, ⟨[.int .i64 x.f1], [.string x.f2], rfl, rfl, rfl⟩⟩
theorem k28_mkM (w : World) (base : Nat) (ok : Nat → Prop) (x : S28)  : k28.M w base ok x [.int .i64 x.f0, .int .i64 x.f1, .string x.f2] := ⟨[.int .i64 x.f0], [.int .i64 x.f1, .string x.f2], rfl, rfl, ⟨[.int .i64 x.f1], [.string x.f2], rfl, rfl, rfl⟩⟩
def rd_T28 (xs : List S28) (i : Int) : S28 := xs.getD i.toNat z28
theorem at_T28 {w : World} {A : Option Addr} {n : Nat} {xs : List S28} (h : Kd.C k28 w A n xs) (i : Int) (h0 : 0 ≤ i) (h1 : i < n) : ∃ ad , A = some ad ∧ w.cell? (ad.add (i.toNat * 3)) = some (.int .i64 (rd_T28 xs i).f0) ∧ w.cell? ⟨(ad.add (i.toNat * 3)).block, (ad.add (i.toNat * 3)).off + 1, none⟩ = some (.int .i64 (rd_T28 xs i).f1) ∧ w.cell? ⟨(ad.add (i.toNat * 3)).block, (ad.add (i.toNat * 3)).off + 2, none⟩ = some (.string (rd_T28 xs i).f2) := by
  obtain ⟨ad, c, e, _, hK, hc0⟩ := Kd.C_get h z28 i h0 h1
  have hc : ∀ j u, c[j]? = some u → w.cell? (ad.add (i.toNat * 3 + j)) = some u := hc0
  obtain rfl := k28_open hK
  exact ⟨ad, e, hc 0 _ rfl, by rw [← add_field _ _ 1 (by omega)]; exact hc 1 _ rfl, by rw [← add_field _ _ 2 (by omega)]; exact hc 2 _ rfl⟩

instance : Inhabited S119 := ⟨z119⟩
instance : Inhabited S80 := ⟨z80⟩
instance : Inhabited S131 := ⟨z131⟩
instance : Inhabited S93 := ⟨z93⟩
instance : Inhabited S134 := ⟨z134⟩
instance : Inhabited S28 := ⟨z28⟩
def Ok119 (x : S119) : Prop := (Lit.int .i64 x.f0).wf = true
theorem opens119 : Opens 119 k119 Ok119 := by
  intro H enc W base spare held fuel cs y hy
  obtain ⟨hl, n, hf⟩ := struct_cells Try.underlying119 (Deep.hone_of (by kernel_rfl)) (by kernel_rfl) hy
  obtain ⟨v0, z0, e0, t0⟩ := hf 0 _ rfl
  obtain ⟨a0, g0, w0⟩ := opens_int Try.underlying3 H enc W base spare held n _ _ t0
  injection g0 with g0 _
  subst g0
  obtain ⟨v1, z1, e1, t1⟩ := hf 1 _ rfl
  obtain ⟨a1, g1, _⟩ := opens_bool Try.underlying4 H enc W base spare held n _ _ t1
  injection g1 with g1 _
  subst g1
  match cs, hl with
  | [c100, c101], _ =>
    injection e0 with e0; subst e0
    injection e1 with e1; subst e1
    exact ⟨⟨a0, a1⟩, k119_mk W _, w0⟩
def Ok80 (x : S80) : Prop := x.f0.size ≤ maxLen ∧ (Lit.int .i64 x.f1).wf = true ∧ (Lit.int .i64 x.f2).wf = true ∧ (Lit.int .i32 x.f3).wf = true ∧ (x.f4.length ≤ maxLen ∧ ∀ z ∈ x.f4, Ok119 z)
theorem opens80 : Opens 80 k80 Ok80 := by
  intro H enc W base spare held fuel cs y hy
  obtain ⟨hl, n, hf⟩ := struct_cells Try.underlying80 (Deep.hone_of (by kernel_rfl)) (by kernel_rfl) hy
  obtain ⟨v0, z0, e0, t0⟩ := hf 0 _ rfl
  obtain ⟨a0, g0, w0⟩ := opens_string Try.underlying9 H enc W base spare held n _ _ t0
  injection g0 with g0 _
  subst g0
  obtain ⟨v1, z1, e1, t1⟩ := hf 1 _ rfl
  obtain ⟨a1, g1, w1⟩ := opens_int Try.underlying3 H enc W base spare held n _ _ t1
  injection g1 with g1 _
  subst g1
  obtain ⟨v2, z2, e2, t2⟩ := hf 2 _ rfl
  obtain ⟨a2, g2, w2⟩ := opens_int Try.underlying3 H enc W base spare held n _ _ t2
  injection g2 with g2 _
  subst g2
  obtain ⟨v3, z3, e3, t3⟩ := hf 3 _ rfl
  obtain ⟨a3, g3, w3⟩ := opens_int Try.underlying21 H enc W base spare held n _ _ t3
  injection g3 with g3 _
  subst g3
  obtain ⟨v4, z4, e4, t4⟩ := hf 4 _ rfl
  obtain ⟨a4, ⟨A4, c4, g4, l4, h4⟩, w4⟩ := (opens_slice Try.underlying78 (by kernel_rfl) opens119) H enc W base spare held n _ _ t4
  injection g4 with g4 _
  subst g4
  match cs, hl with
  | [c100, c101, c102, c103, c104], _ =>
    injection e0 with e0; subst e0
    injection e1 with e1; subst e1
    injection e2 with e2; subst e2
    injection e3 with e3; subst e3
    injection e4 with e4; subst e4
    exact ⟨⟨a0, a1, a2, a3, a4⟩, k80_mk W _ l4 h4, ⟨w0, w1, w2, w3, w4⟩⟩
def Ok131 (x : S131) : Prop := (Lit.int .i64 x.f0).wf = true ∧ (Lit.int .i64 x.f1).wf = true
theorem opens131 : Opens 131 k131 Ok131 := by
  intro H enc W base spare held fuel cs y hy
  obtain ⟨hl, n, hf⟩ := struct_cells Try.underlying131 (Deep.hone_of (by kernel_rfl)) (by kernel_rfl) hy
  obtain ⟨v0, z0, e0, t0⟩ := hf 0 _ rfl
  obtain ⟨a0, g0, w0⟩ := opens_int Try.underlying3 H enc W base spare held n _ _ t0
  injection g0 with g0 _
  subst g0
  obtain ⟨v1, z1, e1, t1⟩ := hf 1 _ rfl
  obtain ⟨a1, g1, w1⟩ := opens_int Try.underlying3 H enc W base spare held n _ _ t1
  injection g1 with g1 _
  subst g1
  match cs, hl with
  | [c100, c101], _ =>
    injection e0 with e0; subst e0
    injection e1 with e1; subst e1
    exact ⟨⟨a0, a1⟩, k131_mk W _, ⟨w0, w1⟩⟩
def Ok93 (x : S93) : Prop := x.f0.size ≤ maxLen ∧ (Lit.int .u32 x.f1).wf = true
theorem opens93 : Opens 93 k93 Ok93 := by
  intro H enc W base spare held fuel cs y hy
  obtain ⟨hl, n, hf⟩ := struct_cells Try.underlying93 (Deep.hone_of (by kernel_rfl)) (by kernel_rfl) hy
  obtain ⟨v0, z0, e0, t0⟩ := hf 0 _ rfl
  obtain ⟨a0, g0, w0⟩ := opens_string Try.underlying9 H enc W base spare held n _ _ t0
  injection g0 with g0 _
  subst g0
  obtain ⟨v1, z1, e1, t1⟩ := hf 1 _ rfl
  obtain ⟨a1, g1, w1⟩ := opens_int Try.underlying39 H enc W base spare held n _ _ t1
  injection g1 with g1 _
  subst g1
  match cs, hl with
  | [c100, c101], _ =>
    injection e0 with e0; subst e0
    injection e1 with e1; subst e1
    exact ⟨⟨a0, a1⟩, k93_mk W _, ⟨w0, w1⟩⟩
def Ok134 (x : S134) : Prop := (Lit.int .i64 x.f0).wf = true ∧ (Lit.int .i64 x.f1).wf = true ∧ (Lit.int .i64 x.f2).wf = true ∧ (Lit.int .i64 x.f3).wf = true
theorem opens134 : Opens 134 k134 Ok134 := by
  intro H enc W base spare held fuel cs y hy
  obtain ⟨hl, n, hf⟩ := struct_cells Try.underlying134 (Deep.hone_of (by kernel_rfl)) (by kernel_rfl) hy
  obtain ⟨v0, z0, e0, t0⟩ := hf 0 _ rfl
  obtain ⟨a0, g0, w0⟩ := opens_int Try.underlying3 H enc W base spare held n _ _ t0
  injection g0 with g0 _
  subst g0
  obtain ⟨v1, z1, e1, t1⟩ := hf 1 _ rfl
  obtain ⟨a1, g1, w1⟩ := opens_int Try.underlying3 H enc W base spare held n _ _ t1
  injection g1 with g1 _
  subst g1
  obtain ⟨v2, z2, e2, t2⟩ := hf 2 _ rfl
  obtain ⟨a2, g2, w2⟩ := opens_int Try.underlying3 H enc W base spare held n _ _ t2
  injection g2 with g2 _
  subst g2
  obtain ⟨v3, z3, e3, t3⟩ := hf 3 _ rfl
  obtain ⟨a3, g3, w3⟩ := opens_int Try.underlying3 H enc W base spare held n _ _ t3
  injection g3 with g3 _
  subst g3
  match cs, hl with
  | [c100, c101, c102, c103], _ =>
    injection e0 with e0; subst e0
    injection e1 with e1; subst e1
    injection e2 with e2; subst e2
    injection e3 with e3; subst e3
    exact ⟨⟨a0, a1, a2, a3⟩, k134_mk W _, ⟨w0, w1, w2, w3⟩⟩
def Ok28 (x : S28) : Prop := (Lit.int .i64 x.f0).wf = true ∧ (Lit.int .i64 x.f1).wf = true ∧ x.f2.size ≤ maxLen
theorem opens28 : Opens 28 k28 Ok28 := by
  intro H enc W base spare held fuel cs y hy
  obtain ⟨hl, n, hf⟩ := struct_cells Try.underlying28 (Deep.hone_of (by kernel_rfl)) (by kernel_rfl) hy
  obtain ⟨v0, z0, e0, t0⟩ := hf 0 _ rfl
  obtain ⟨a0, g0, w0⟩ := opens_int Try.underlying3 H enc W base spare held n _ _ t0
  injection g0 with g0 _
  subst g0
  obtain ⟨v1, z1, e1, t1⟩ := hf 1 _ rfl
  obtain ⟨a1, g1, w1⟩ := opens_int Try.underlying3 H enc W base spare held n _ _ t1
  injection g1 with g1 _
  subst g1
  obtain ⟨v2, z2, e2, t2⟩ := hf 2 _ rfl
  obtain ⟨a2, g2, w2⟩ := opens_string Try.underlying9 H enc W base spare held n _ _ t2
  injection g2 with g2 _
  subst g2
  match cs, hl with
  | [c100, c101, c102], _ =>
    injection e0 with e0; subst e0
    injection e1 with e1; subst e1
    injection e2 with e2; subst e2
    exact ⟨⟨a0, a1, a2⟩, k28_mk W _, ⟨w0, w1, w2⟩⟩
end Go.Proofs.Ytehdhmhpmkkneaa

/- Layer 13: what finger.Write puts, in plain words; rows of exports and parameters as the walks read them. -/
namespace Go.Proofs.Ytehdhmhpmkkneaa
open Go.RowKit Go.Proofs.YtehdhmhpmkkneaaW.PrintWords Go.Proofs.Ytehdhmhpmkkneaa.PAll

/-- A parameter's bytes, an export's, a list's. -/
def parB (p : S119) : List Int := cnt p.f0.toNat ++ cnt (if p.f1 = true then 1 else 0)
def headB (x : S80) : List Int := (cnt x.f0.size ++ bytesOf x.f0) ++ cnt x.f1.toNat ++ cnt x.f2.toNat ++ cnt (sgn x.f3) ++ cnt x.f4.length
def expB (x : S80) : List Int := headB x ++ x.f4.flatMap parB
def expsB (l : List S80) : List Int := cnt l.length ++ l.flatMap expB

theorem plain_add (b off k : Nat) : (⟨b, off, none⟩ : Addr).add k = ⟨b, off + k, none⟩ := WideShapes.add_plain _ _ _

theorem row119 {w : World} {A : Option Addr} {xs : List S119} (h : Kd.C k119 w A xs.length xs) (k : Nat) (hk : k < xs.length) :
    ∃ b off, A = some ⟨b, off, none⟩ ∧ b < w.heap.size ∧ w.cell? ⟨b, off + k * 2, none⟩ = some (.int .i64 xs[k].f0) ∧ w.cell? ⟨b, off + k * 2 + 1, none⟩ = some (.bool xs[k].f1) := by
  obtain ⟨ad, rfl, d0, _⟩ := at_T119 h (0 : Int) (by omega) (by omega)
  obtain ⟨b, off, rfl⟩ := plain_of d0
  obtain ⟨ad, e0, c0, c1⟩ := at_T119 h (k : Int) (by omega) (by omega)
  injection e0 with e0
  subst e0
  simp only [Int.toNat_natCast] at c0 c1
  rw [plain_add] at c0 c1
  have ex : rd_T119 xs (k : Int) = xs[k] := by simp [rd_T119, hk]
  rw [ex] at c0 c1
  exact ⟨b, off, rfl, World.block_lt_of_cell? _ _ c0, c0, c1⟩

theorem row80 {w : World} {A : Option Addr} {xs : List S80} (h : Kd.C k80 w A xs.length xs) (k : Nat) (hk : k < xs.length) :
    ∃ b off A4 c4, A = some ⟨b, off, none⟩ ∧ b < w.heap.size ∧ w.cell? ⟨b, off + k * 5, none⟩ = some (.string xs[k].f0) ∧ w.cell? ⟨b, off + k * 5 + 1, none⟩ = some (.int .i64 xs[k].f1) ∧ w.cell? ⟨b, off + k * 5 + 2, none⟩ = some (.int .i64 xs[k].f2) ∧
      w.cell? ⟨b, off + k * 5 + 3, none⟩ = some (.int .i32 xs[k].f3) ∧ w.cell? ⟨b, off + k * 5 + 4, none⟩ = some (.slice A4 xs[k].f4.length c4) ∧ xs[k].f4.length ≤ c4 ∧ Kd.C k119 w A4 xs[k].f4.length xs[k].f4 := by
  obtain ⟨ad, _, _, rfl, d0, _⟩ := at_T80 h (0 : Int) (by omega) (by omega)
  obtain ⟨b, off, rfl⟩ := plain_of d0
  obtain ⟨ad, A4, c4, e0, c0, c1, c2, c3, c4', l4, g4⟩ := at_T80 h (k : Int) (by omega) (by omega)
  injection e0 with e0
  subst e0
  simp only [Int.toNat_natCast] at c0 c1 c2 c3 c4'
  rw [plain_add] at c0 c1 c2 c3 c4'
  have ex : rd_T80 xs (k : Int) = xs[k] := by simp [rd_T80, hk]
  rw [ex] at c0 c1 c2 c3 c4' l4 g4
  exact ⟨b, off, A4, c4, rfl, World.block_lt_of_cell? _ _ c0, c0, c1, c2, c3, c4', l4, g4⟩

/-- A block that the writer's call leaves alone. -/
theorem blk_mv {w w2 : World} {g : Nat} {v v2 : Value} (m2 : Mv w w2 g v v2) {N : Nat} {o : Obj} (h : w.heap[N]? = some o) (hg : N ≠ g) (hv : some N ≠ v.ownBlock) : w2.heap[N]? = some o :=
  (m2.block N (blk_lt h) hg hv).trans h

/-- A prefix of what is to be put is no longer than the whole. -/
theorem flat_take {α : Type} (f : α → List Int) (l : List α) (k : Nat) (hk : k < l.length) : ((l.take k).flatMap f).length + (f l[k]).length ≤ (l.flatMap f).length := by
  have e : l = l.take k ++ (l[k] :: l.drop (k + 1)) := by rw [← List.drop_eq_getElem_cons hk, List.take_append_drop]
  have : (l.flatMap f).length = ((l.take k).flatMap f).length + ((f l[k]).length + ((l.drop (k + 1)).flatMap f).length) := by
    conv => lhs; rw [e]
    rw [List.flatMap_append, List.flatMap_cons, List.length_append, List.length_append]
  omega
theorem flat_snoc {α : Type} (f : α → List Int) (l : List α) (k : Nat) (hk : k < l.length) : (l.take (k + 1)).flatMap f = (l.take k).flatMap f ++ f l[k] := by
  rw [List.take_succ_eq_append_getElem hk, List.flatMap_append]
  simp
end Go.Proofs.Ytehdhmhpmkkneaa

/- Layer 11/13: the document's Same (which lists of exports are the same): the walk. -/
namespace Go.Proofs.Ytehdhmhpmkkneaa
open Go.RowKit Go.Proofs.YtehdhmhpmkkneaaW.PrintWords Go.Proofs.Ytehdhmhpmkkneaa.PAll

theorem cell_old' {w0 w : World} (hb : Below w0.heap.size w0 w) {b off : Nat} {v : Value} (hlt : b < w0.heap.size) (h : w0.cell? ⟨b, off, none⟩ = some v) : w.cell? ⟨b, off, none⟩ = some v :=
  (hb.cell (p := ⟨b, off, none⟩) hlt).trans h
theorem str_eq {a b : ByteArray} : a.toList = b.toList ↔ a = b := by
  refine ⟨fun h => ?_, fun h => by rw [h]⟩
  rw [ByteArray.toList_eq, ByteArray.toList_eq] at h
  obtain ⟨⟨l⟩⟩ := a
  obtain ⟨⟨l'⟩⟩ := b
  simp only at h
  rw [h]
theorem wrap_succ' (i : Nat) (h : i < 9223372036854775807) : wrap64 ((i : Int) + 1) = ((i + 1 : Nat) : Int) := by unfold wrap64; omega
/-- Two lists that agree below i and differ at i. -/
theorem drop_ne {α : Type} {l l' : List α} {i : Nat} (h : i < l.length) (h' : i < l'.length) (hne : l[i] ≠ l'[i]) : l.drop i ≠ l'.drop i := by
  rw [List.drop_eq_getElem_cons h, List.drop_eq_getElem_cons h']
  intro e
  exact hne (by injection e)
theorem drop_succ {α : Type} {l l' : List α} {i : Nat} (h : i < l.length) (h' : i < l'.length) (he : l[i] = l'[i]) : l.drop i = l'.drop i ↔ l.drop (i + 1) = l'.drop (i + 1) := by
  rw [List.drop_eq_getElem_cons h, List.drop_eq_getElem_cons h', he]
  exact ⟨fun e => by injection e, fun e => by rw [e]⟩

theorem params_loop (l l' : List S119) (hL : l.length = l'.length) (hm : l.length ≤ 9223372036854775807) : ∀ (d k i : Nat), i + d = l.length → d < k → ∃ r, pascalineref11_Params.l0 k l l' (i : Int) = some r ∧ (r = true ↔ l.drop i = l'.drop i) := by
  intro d
  induction d with
  | zero =>
    intro k i hi hk
    obtain ⟨k, rfl⟩ : ∃ m, k = m + 1 := ⟨k - 1, by omega⟩
    refine ⟨true, by rw [pascalineref11_Params.l0, if_neg (by omega)], ?_⟩
    rw [List.drop_of_length_le (by omega), List.drop_of_length_le (by omega)]
    simp
  | succ d ih =>
    intro k i hi hk
    obtain ⟨k, rfl⟩ : ∃ m, k = m + 1 := ⟨k - 1, by omega⟩
    have h1 : i < l.length := by omega
    have h2 : i < l'.length := by omega
    have e1 : rd_T119 l (i : Int) = l[i] := by simp [rd_T119, h1]
    have e2 : rd_T119 l' (i : Int) = l'[i] := by simp [rd_T119, h2]
    rw [pascalineref11_Params.l0, if_pos (by omega), if_pos (by omega), if_pos (by omega), e1, e2, wrap_succ' i (by omega)]
    by_cases h : l[i] = l'[i]
    · obtain ⟨r, hr, hp⟩ := ih k (i + 1) (by omega) (by omega)
      refine ⟨r, ?_, by rw [hp, drop_succ h1 h2 h]⟩
      rw [h, if_neg (by simp), hr]
    · refine ⟨false, ?_, ⟨(fun e => by cases e), fun e => absurd e (drop_ne h1 h2 h)⟩⟩
      rw [if_pos]
      cases hx : l[i]
      cases hy : l'[i]
      rw [hx, hy] at h
      simp only [S119.mk.injEq, not_and] at h
      simp only [Bool.or_eq_true, Bool.not_eq_true', beq_eq_false_iff_ne]
      rename_i a b a' b'
      by_cases hab : a = a'
      · exact .inr (h hab)
      · exact .inl hab

theorem rparams (l l' : List S119) (A A' : Option Addr) (c c' : Nat) (w : World) (hr : Kd.C k119 w A l.length l) (hc : l.length ≤ c) (hr' : Kd.C k119 w A' l'.length l') (hc' : l'.length ≤ c') :
    ∃ r, (r = true ↔ l = l') ∧ Calls Try.prog 82 #[.slice A l.length c, .slice A' l'.length c'] w fun e w' => e = .returned (.bool r) ∧ Drawn0 w w' := by
  by_cases h : l.length = l'.length
  · obtain ⟨r, hk, hp⟩ := params_loop l l' h hr.2.1 l.length (l.length + 1) 0 (by omega) (by omega)
    rw [Int.natCast_zero] at hk
    refine ⟨r, by simpa using hp, pascalineref11_Params.calls (l.length + 1) A c l A' c' l' r w hr hc hr' hc' ?_⟩
    unfold pascalineref11_Params.f
    rw [if_pos (by omega), hk]
  · refine ⟨false, ⟨(fun e => by cases e), fun e => absurd (by rw [e]) h⟩, pascalineref11_Params.calls 0 A c l A' c' l' false w hr hc hr' hc' ?_⟩
    unfold pascalineref11_Params.f
    rw [if_neg (by omega)]

/-- A bool is handed back that says whether P; nothing that was there has changed. -/
def SaidB (w : World) (P : Prop) (e : Ending) (w' : World) : Prop := ∃ r, e = .returned (.bool r) ∧ (r = true ↔ P) ∧ Below w.heap.size w w'

theorem rparams' (l l' : List S119) (A A' : Option Addr) (c c' : Nat) (w : World) (r : Bool) (e : r = true ↔ l = l') (hr : Kd.C k119 w A l.length l) (hc : l.length ≤ c) (hr' : Kd.C k119 w A' l'.length l') (hc' : l'.length ≤ c') :
    Calls Try.prog 82 #[.slice A l.length c, .slice A' l'.length c'] w fun e w' => e = .returned (.bool r) ∧ Drawn0 w w' := by
  obtain ⟨r', hr1, hk⟩ := rparams l l' A A' c c' w hr hc hr' hc'
  have : r = r' := by
    cases r <;> cases r' <;> simp_all
  rw [this]
  exact hk
theorem bool_of (P : Prop) : ∃ r : Bool, (r = true ↔ P) := by
  by_cases h : P
  · exact ⟨true, by simp [h]⟩
  · exact ⟨false, by simp [h]⟩

set_option maxHeartbeats 4000000 in
set_option maxRecDepth 100000 in
theorem rsame80 (l l' : List S80) (A A' : Option Addr) (c c' : Nat) (w : World) (hr : Kd.C k80 w A l.length l) (hr' : Kd.C k80 w A' l'.length l') (hL : l.length = l'.length) :
    Calls Try.prog 26 #[.slice A l.length c, .slice A' l'.length c'] w (SaidB w (l = l')) := by
  have HR := Lib.hid hr
  have HR' := Lib.hid hr'
  have l63 := hr.2.1
  have LL := Lib.hid hL
  obtain ⟨P, hP⟩ : ∃ P : Prop, P = (l = l') := ⟨_, rfl⟩
  rw [← hP]
  have HP := Lib.hid hP
  clear hr hr' hP
  go_enter Try.func26, Try.ntmps26
  go_wp2
  clear hL
  go_loopw [4, 5] (fun r4 r5 wr => ∃ (k : Nat), k ≤ l.length ∧ r4 = .bool false ∧ r5 = .int .i64 k ∧ Hid (Below w.heap.size w wr) ∧ Hid (P ↔ l.drop k = l'.drop k)) (fun _ r5 _ => l.length - (intOf r5).toNat)
  case atStart => exact ⟨0, by omega, rfl, rfl, Lib.hid (Below.refl _ _), Lib.hid (by rw [HP.out]; simp)⟩
  case round =>
    obtain ⟨k, hk, rfl, rfl, HB, HI⟩ := hrel
    by_cases hlt : k < l.length
    rotate_left
    · go_wp2
      go_ret
      refine ⟨true, rfl, ?_, HB.out⟩
      rw [HI.out, List.drop_of_length_le (by omega), List.drop_of_length_le (by have := LL.out; omega)]
      simp
    have hlt' : k < l'.length := by have := LL.out; omega
    obtain ⟨b, off, A4, c4, rfl, hbl, x0, x1, x2, x3, x4, l4, g4⟩ := row80 HR.out k hlt
    obtain ⟨b', off', A4', c4', rfl, hbl', x0', x1', x2', x3', x4', l4', g4'⟩ := row80 HR'.out k hlt'
    have q0 := cell_old' HB.out hbl x0
    have q1 := cell_old' HB.out hbl x1
    have q2 := cell_old' HB.out hbl x2
    have q3 := cell_old' HB.out hbl x3
    have q4 := cell_old' HB.out hbl x4
    have q0' := cell_old' HB.out hbl' x0'
    have q1' := cell_old' HB.out hbl' x1'
    have q2' := cell_old' HB.out hbl' x2'
    have q3' := cell_old' HB.out hbl' x3'
    have q4' := cell_old' HB.out hbl' x4'
    have G4 := Lib.hid g4
    have G4' := Lib.hid g4'
    have DN : Hid (l[k] ≠ l'[k] → ¬ P) := Lib.hid (fun h => by rw [HI.out]; exact drop_ne hlt hlt' h)
    have DS : Hid (l[k] = l'[k] → (P ↔ l.drop (k + 1) = l'.drop (k + 1))) := Lib.hid (fun h => by rw [HI.out]; exact drop_succ hlt hlt' h)
    clear x0 x1 x2 x3 x4 x0' x1' x2' x3' x4' g4 g4'
    have bl := World.block_lt_of_cell? _ _ q0
    have bl' := World.block_lt_of_cell? _ _ q0'
    simp only at bl bl'
    generalize l[k] = x at *
    generalize l'[k] = x' at *
    obtain ⟨f0, f1, f2, f3, f4⟩ := x
    obtain ⟨e0, e1, e2, e3, e4⟩ := x'
    simp only at q0 q1 q2 q3 q4 q0' q1' q2' q3' q4' l4 l4'
    by_cases h4 : f4 = e4
    rotate_left
    · have RF : Hid (false = true ↔ f4 = e4) := Lib.hid ⟨(fun h => by cases h), fun h => absurd h h4⟩
      have RN := Lib.hid h4
      clear h4
      go_wp2
      go_region
      all_goals
        go_wp2_with (go_at_call 82; go_must (refine (rparams' f4 e4 A4 A4' c4 c4' _ false RF.out (Kd.C_below G4.out (by repeat (first | with_reducible exact HB.out | with_reducible apply below_drew | with_reducible apply pw_below_drewN | with_reducible apply below_alloc))) l4 (Kd.C_below G4'.out (by repeat (first | with_reducible exact HB.out | with_reducible apply below_drew | with_reducible apply pw_below_drewN | with_reducible apply below_alloc))) l4').mono ?_; rintro e w2 ⟨rfl, d2⟩; have B2 := Lib.hid d2.below; clear d2))
      all_goals
        go_ret
        refine ⟨false, rfl, ⟨(fun h => by cases h), fun h => absurd h (DN.out (fun e => ?_))⟩, ?_⟩
      all_goals first
        | (exfalso; injection e with i0 i1 i2 i3 i4; first | exact (‹¬ f3 = e3› i3) | exact (‹¬ f2 = e2› i2) | exact (‹¬ f1 = e1› i1) | exact (‹¬ f0.toList = e0.toList› (by rw [i0])) | exact RN.out i4)
        | (refine Below.trans ?_ (B2.out.mono (by have := HB.out.size; simp; omega)); (repeat (first | with_reducible exact HB.out | with_reducible apply below_drew | with_reducible apply pw_below_drewN | with_reducible apply below_alloc)); done)
        | ((repeat (first | with_reducible exact HB.out | with_reducible apply below_drew | with_reducible apply pw_below_drewN | with_reducible apply below_alloc)); done)
    · have RE := Lib.hid h4
      clear h4
      go_wp2
      go_region
      all_goals
        go_wp2_with (go_at_call 82; go_must (refine (rparams' f4 e4 A4 A4' c4 c4' _ true (iff_of_true rfl RE.out) (Kd.C_below G4.out (by repeat (first | with_reducible exact HB.out | with_reducible apply below_drew | with_reducible apply pw_below_drewN | with_reducible apply below_alloc))) l4 (Kd.C_below G4'.out (by repeat (first | with_reducible exact HB.out | with_reducible apply below_drew | with_reducible apply pw_below_drewN | with_reducible apply below_alloc))) l4').mono ?_; rintro e w2 ⟨rfl, d2⟩; have B2 := Lib.hid d2.below; clear d2))
      all_goals first
        | (go_ret; refine ⟨false, rfl, ⟨(fun h => by cases h), fun h => absurd h (DN.out (fun e => ?_))⟩, ?_⟩)
        | refine ⟨⟨k + 1, by omega, rfl, by go_num, Lib.hid ?_, Lib.hid (DS.out (by rw [str_eq.1 ‹f0.toList = e0.toList›, ‹f1 = e1›, ‹f2 = e2›, ‹f3 = e3›, RE.out]))⟩, ?_⟩
      all_goals first
        | (exfalso; injection e with i0 i1 i2 i3 i4; first | exact (‹¬ f3 = e3› i3) | exact (‹¬ f2 = e2› i2) | exact (‹¬ f1 = e1› i1) | exact (‹¬ f0.toList = e0.toList› (by rw [i0])))
        | (refine Below.trans ?_ (B2.out.mono (by have := HB.out.size; simp; omega)); (repeat (first | with_reducible exact HB.out | with_reducible apply below_drew | with_reducible apply pw_below_drewN | with_reducible apply below_alloc)); done)
        | ((repeat (first | with_reducible exact HB.out | with_reducible apply below_drew | with_reducible apply pw_below_drewN | with_reducible apply below_alloc)); done)
        | (simp [intOf]; omega)
end Go.Proofs.Ytehdhmhpmkkneaa

/- Which lists of exports are the same: the document's Same (any lengths) and finger.Same (printed). -/
namespace Go.Proofs.Ytehdhmhpmkkneaa
open Go.RowKit Go.Proofs.YtehdhmhpmkkneaaW.PrintWords Go.Proofs.Ytehdhmhpmkkneaa.PAll

set_option maxHeartbeats 400000 in
set_option maxRecDepth 100000 in
theorem rsame80_ne (l l' : List S80) (A A' : Option Addr) (c c' : Nat) (w : World) (hL : ((l.length : Int) != (l'.length : Int)) = true) :
    Calls Try.prog 26 #[.slice A l.length c, .slice A' l'.length c'] w fun e w' => e = .returned (.bool false) ∧ w = w' := by
  go_enter Try.func26, Try.ntmps26
  go_wp2
  go_ret
  exact ⟨rfl, rfl⟩

theorem rsame80' (l l' : List S80) (A A' : Option Addr) (c c' : Nat) (w : World) (hr : Kd.C k80 w A l.length l) (hr' : Kd.C k80 w A' l'.length l') :
    Calls Try.prog 26 #[.slice A l.length c, .slice A' l'.length c'] w (SaidB w (l = l')) := by
  by_cases h : l.length = l'.length
  · exact rsame80 l l' A A' c c' w hr hr' h
  · refine (rsame80_ne l l' A A' c c' w (by rw [bne_iff_ne]; omega)).mono ?_
    rintro e w' ⟨rfl, rfl⟩
    exact ⟨false, rfl, ⟨(fun e => by cases e), fun e => absurd (by rw [e]) h⟩, Below.refl _ _⟩

theorem fsame_in (a b : List S80) (i : Nat) (n : Int) (p q : List S119) (s : ByteArray) (f1 f2 f3 : Int) (hL : p.length = q.length) (hm : p.length ≤ 9223372036854775807) (hi : i < 9223372036854775807) : ∀ (d k j : Nat), j + d = p.length →
    (p.drop j = q.drop j → finger_Same.l1 (k + d + 1) b a n (i : Int) p (p.length : Int) (j : Int) s f1 f2 f3 q = finger_Same.l0 k b a n ((i + 1 : Nat) : Int)) ∧ (p.drop j ≠ q.drop j → finger_Same.l1 (k + d + 1) b a n (i : Int) p (p.length : Int) (j : Int) s f1 f2 f3 q = some false) := by
  intro d
  induction d with
  | zero =>
    intro k j hj
    refine ⟨fun _ => by rw [finger_Same.l1, if_neg (by omega), wrap_succ' i hi], fun h => absurd ?_ h⟩
    rw [List.drop_of_length_le (by omega), List.drop_of_length_le (by omega)]
  | succ d ih =>
    intro k j hj
    have h1 : j < p.length := by omega
    have h2 : j < q.length := by omega
    have e1 : rd_T119 p (j : Int) = p[j] := by simp [rd_T119, h1]
    have e2 : rd_T119 q (j : Int) = q[j] := by simp [rd_T119, h2]
    obtain ⟨i1, i2⟩ := ih k (j + 1) (by omega)
    rw [finger_Same.l1, if_pos (by omega), if_pos (by omega), if_pos (by omega), if_pos (by omega), e1, e2, wrap_succ' j (by omega), show k + (d + 1) = k + d + 1 from rfl]
    by_cases h : p[j] = q[j]
    · have hb : ¬ ((!(p[j].f0 == q[j].f0) || !(p[j].f1 == q[j].f1)) = true) := by rw [h]; simp
      rw [if_neg hb]
      exact ⟨fun e => i1 ((drop_succ h1 h2 h).1 e), fun e => i2 (fun e' => e ((drop_succ h1 h2 h).2 e'))⟩
    · have hb : (!(p[j].f0 == q[j].f0) || !(p[j].f1 == q[j].f1)) = true := by
        cases hx : p[j]
        cases hy : q[j]
        rw [hx, hy] at h
        simp only [S119.mk.injEq, not_and] at h
        simp only [Bool.or_eq_true, Bool.not_eq_true', beq_eq_false_iff_ne]
        rename_i x y x' y'
        by_cases hab : x = x'
        · exact .inr (h hab)
        · exact .inl hab
      rw [if_pos hb]
      exact ⟨fun e => absurd e (drop_ne h1 h2 h), fun _ => rfl⟩

/-- The rounds that a list takes. -/
def roundsS : List S80 → Nat
  | [] => 1
  | x :: r => x.f4.length + 3 + roundsS r

theorem fsame_out (a b : List S80) (hL : a.length = b.length) (hm : a.length ≤ 9223372036854775807) (ok : ∀ x ∈ a, Ok80 x) : ∀ (d i : Nat), i + d = a.length → ∃ r, finger_Same.l0 (roundsS (a.drop i)) b a (a.length : Int) (i : Int) = some r ∧ (r = true ↔ a.drop i = b.drop i) := by
  intro d
  induction d with
  | zero =>
    intro i hi
    have e : a.drop i = [] := List.drop_of_length_le (by omega)
    refine ⟨true, ?_, ?_⟩
    · rw [e]
      show finger_Same.l0 (0 + 1) b a (a.length : Int) (i : Int) = _
      rw [finger_Same.l0, if_neg (by omega)]
    · rw [e, List.drop_of_length_le (by omega)]
      simp
  | succ d ih =>
    intro i hi
    have h1 : i < a.length := by omega
    have h2 : i < b.length := by omega
    have e1 : rd_T80 a (i : Int) = a[i] := by simp [rd_T80, h1]
    have e2 : rd_T80 b (i : Int) = b[i] := by simp [rd_T80, h2]
    obtain ⟨r, hr, hp⟩ := ih (i + 1) (by omega)
    obtain ⟨_, _, _, _, o4, _⟩ := ok _ (List.getElem_mem h1)
    have o4' : a[i].f4.length ≤ 9223372036854775807 := by unfold maxLen at o4; omega
    rw [List.drop_eq_getElem_cons h1]
    rw [← List.drop_eq_getElem_cons h1]
    have hd := List.drop_eq_getElem_cons h1
    have hR : roundsS (a.drop i) = (roundsS (a.drop (i + 1)) + a[i].f4.length + 1) + 1 + 1 := by rw [hd]; simp only [roundsS]; omega
    rw [hR, finger_Same.l0, if_pos (by omega), if_pos (by omega), if_pos (by omega), if_pos (by omega), e1, e2]
    have bad : ∀ (K : Nat) x60 x1 x2 x3 x4 x5 y1 y2 y3 y4 y5, x60 = true → finger_Same.j1 (K + 1) b a (a.length : Int) (i : Int) x60 x1 x2 x3 x4 x5 y1 y2 y3 y4 y5 = some false := by
      intro K x60 x1 x2 x3 x4 x5 y1 y2 y3 y4 y5 h
      rw [finger_Same.j1, if_pos h]
    have ff : a[i] ≠ b[i] → (false = true ↔ a.drop i = b.drop i) := fun h => ⟨(fun e => by cases e), fun e => absurd e (drop_ne h1 h2 h)⟩
    by_cases c0 : a[i].f0 = b[i].f0
    rotate_left
    · rw [if_neg (fun e => c0 (str_eq.1 e)), bad _ _ _ _ _ _ _ _ _ _ _ _ rfl]
      exact ⟨false, rfl, ff (fun e => c0 (by rw [e]))⟩
    rw [if_pos (str_eq.2 c0)]
    by_cases c1 : a[i].f1 = b[i].f1
    rotate_left
    · rw [if_neg c1, bad _ _ _ _ _ _ _ _ _ _ _ _ rfl]
      exact ⟨false, rfl, ff (fun e => c1 (by rw [e]))⟩
    rw [if_pos c1]
    by_cases c2 : a[i].f2 = b[i].f2
    rotate_left
    · rw [if_neg c2, bad _ _ _ _ _ _ _ _ _ _ _ _ rfl]
      exact ⟨false, rfl, ff (fun e => c2 (by rw [e]))⟩
    rw [if_pos c2]
    by_cases c3 : a[i].f3 = b[i].f3
    rotate_left
    · rw [if_neg c3, bad _ _ _ _ _ _ _ _ _ _ _ _ rfl]
      exact ⟨false, rfl, ff (fun e => c3 (by rw [e]))⟩
    rw [if_pos c3]
    by_cases c4 : a[i].f4.length = b[i].f4.length
    rotate_left
    · rw [bad _ _ _ _ _ _ _ _ _ _ _ _ (by rw [bne_iff_ne]; omega)]
      exact ⟨false, rfl, ff (fun e => c4 (by rw [e]))⟩
    rw [finger_Same.j1, if_neg (by rw [bne_iff_ne]; omega)]
    obtain ⟨g1, g2⟩ := fsame_in a b i (a.length : Int) a[i].f4 b[i].f4 b[i].f0 b[i].f1 b[i].f2 b[i].f3 c4 o4' (by omega) a[i].f4.length (roundsS (a.drop (i + 1))) 0 (by omega)
    rw [Int.natCast_zero, List.drop_zero, List.drop_zero] at g1 g2
    by_cases c5 : a[i].f4 = b[i].f4
    · have he : a[i] = b[i] := by
        revert c0 c1 c2 c3 c5
        cases a[i]
        cases b[i]
        simp only
        intro c0 c1 c2 c3 c5
        rw [c0, c1, c2, c3, c5]
      rw [g1 c5]
      exact ⟨r, hr, by rw [hp, drop_succ h1 h2 he]⟩
    · rw [g2 c5]
      exact ⟨false, rfl, ff (fun e => c5 (by rw [e]))⟩

theorem fsame (a b : List S80) (A A' : Option Addr) (c c' : Nat) (w : World) (hr : Kd.C k80 w A a.length a) (hc : a.length ≤ c) (hr' : Kd.C k80 w A' b.length b) (hc' : b.length ≤ c') (ok : ∀ x ∈ a, Ok80 x) :
    Calls Try.prog 27 #[.slice A a.length c, .slice A' b.length c'] w (SaidB w (a = b)) := by
  by_cases h : a.length = b.length
  · obtain ⟨r, h1, h2⟩ := fsame_out a b h hr.2.1 ok a.length 0 (by omega)
    rw [Int.natCast_zero, List.drop_zero] at h1
    rw [List.drop_zero, List.drop_zero] at h2
    refine (finger_Same.calls (roundsS a) A c a A' c' b r w hr hc hr' hc' ?_).mono ?_
    · unfold finger_Same.f
      rw [if_pos (by omega), h1]
    · rintro e w' ⟨rfl, hb⟩
      exact ⟨r, rfl, h2, hb⟩
  · refine (finger_Same.calls 0 A c a A' c' b false w hr hc hr' hc' ?_).mono ?_
    · unfold finger_Same.f
      rw [if_neg (by omega)]
    · rintro e w' ⟨rfl, hb⟩
      exact ⟨false, rfl, ⟨(fun e => by cases e), fun e => absurd (by rw [e]) h⟩, hb⟩
end Go.Proofs.Ytehdhmhpmkkneaa

/- Layer 13: the walk of finger.Write. -/
namespace Go.Proofs.Ytehdhmhpmkkneaa
open Go.RowKit Go.Proofs.YtehdhmhpmkkneaaW.PrintWords Go.Proofs.Ytehdhmhpmkkneaa.PAll

theorem cnt_lt {n : Nat} (h : n ≤ 9223372036854775807) : (cnt n).length ≤ 9 := cnt_len9 h

/-- A row that came in is read still. -/
theorem cell_old {w0 w : World} (hb : Below w0.heap.size w0 w) {b off : Nat} {v : Value} (hlt : b < w0.heap.size) (h : w0.cell? ⟨b, off, none⟩ = some v) : w.cell? ⟨b, off, none⟩ = some v :=
  (hb.cell (p := ⟨b, off, none⟩) hlt).trans h

/-- Where a new block lies: it is neither the writer's nor its row. -/
theorem new_ne {B : Nat} {w : World} {g : Nat} {v : Value} {xs : List Int} (h : Wr B w g v xs) : w.heap.size ≠ g ∧ some w.heap.size ≠ v.ownBlock := by
  refine ⟨fun e => ?_, fun e => ?_⟩
  · have := h.lt; omega
  · have := own_lt h.2.2 _ e.symm; omega

/-- Not the writer's block, nor its row, then or later. -/
theorem ne_later {w w2 : World} {g : Nat} {v v2 : Value} (m : Mv w w2 g v v2) {N : Nat} (hN : N < w.heap.size) (hv : some N ≠ v.ownBlock) : some N ≠ v2.ownBlock := by
  rcases m.lies with e | ⟨b, e, hb⟩
  · rw [e]; exact hv
  · rw [e]; intro e2; injection e2 with e2; omega

set_option maxHeartbeats 1000000 in
set_option maxRecDepth 100000 in
theorem fwrite (w0 : World) (g : Nat) (v : Value) (xs : List Int) (l : List S80) (A : Option Addr) (c : Nat) (w : World) (h : Wr w0.heap.size w g v xs) (hb : Below w0.heap.size w0 w) (hr : Kd.C k80 w0 A l.length l) (hok : ∀ x ∈ l, Ok80 x)
    (hT : xs.length + (expsB l).length ≤ 1000000000) :
    Calls Try.prog 22 #[.pointer (some ⟨g, 0, none⟩), .slice A l.length c] w fun e w' => e = .returned (.tuple #[]) ∧ ∃ v', Wr w0.heap.size w' g v' (xs ++ expsB l) ∧ Mv w w' g v v' := by
  have HW := Lib.hid h
  have HB0 := Lib.hid hb
  have HR := Lib.hid hr
  have OK := Lib.hid hok
  have HT := Lib.hid hT
  have hl63 : l.length ≤ 9223372036854775807 := hr.2.1
  have HX : Hid (xs.length + (cnt l.length).length + (l.flatMap expB).length ≤ 1000000000) := Lib.hid (by unfold expsB at hT; rw [List.length_append] at hT; omega)
  clear h hb hr hok hT
  go_enter Try.func22, Try.ntmps22
  go_wp2_with fail
  refine (wcount w0.heap.size g v xs l.length _ HW.out (by have := HX.out; omega) hl63).mono ?_
  rintro e w1 ⟨rfl, v1, h1, m1⟩
  have H1 := Lib.hid h1
  have M1 := Lib.hid m1
  clear h1 m1
  have HBB : ∀ (w2 : World) (v2 : Value), Mv w w2 g v v2 → Below w0.heap.size w0 w2 := fun _ _ m => m.below HB0.out HB0.out.size HW.out.2.1 HW.out.base
  have BB := Lib.hid HBB
  clear HBB
  go_wp2
  go_loopw [14] (fun r14 wr => ∃ (k : Nat) (u : Value), k ≤ l.length ∧ r14 = .int .i64 k ∧ Hid (Wr w0.heap.size wr g u (xs ++ cnt l.length ++ (l.take k).flatMap expB)) ∧ Hid (Mv w wr g v u)) (fun r14 _ => l.length - (intOf r14).toNat)
  case atStart => exact ⟨0, v1, by omega, rfl, Lib.hid (by rw [List.take_zero, List.flatMap_nil, List.append_nil]; exact H1.out), M1⟩
  case round =>
    obtain ⟨k, u, hk, rfl, H2, M2⟩ := hrel
    by_cases hlt : k < l.length
    rotate_left
    · go_wp2
      go_end0
      refine ⟨rfl, u, ?_, M2.out⟩
      have h2 := H2.out
      rw [List.take_of_length_le (by omega), List.append_assoc] at h2
      exact h2
    obtain ⟨b, off, A4, c4, rfl, hbl, x0, x1, x2, x3, x4, l4, g4⟩ := row80 HR.out k hlt
    have bw := Lib.hid (BB.out _ _ M2.out)
    have q0 := cell_old bw.out hbl x0
    have q1 := cell_old bw.out hbl x1
    have q2 := cell_old bw.out hbl x2
    have q3 := cell_old bw.out hbl x3
    have q4 := cell_old bw.out hbl x4
    have okx := OK.out l[k] (List.getElem_mem hlt)
    have FT := Lib.hid (flat_take expB l k hlt)
    have FS := Lib.hid (flat_snoc expB l k hlt)
    generalize l[k] = x at *
    obtain ⟨f0, f1, f2, f3, f4⟩ := x
    simp only at q0 q1 q2 q3 q4 x0 x1 x2 x3 x4 l4 g4
    obtain ⟨o0, o1, o2, o3, o4, o5⟩ := okx
    simp only at o0 o1 o2 o3 o4 o5
    have G4 := Lib.hid g4
    have O1 := Lib.hid (bd64 o1).2
    have O2 := Lib.hid (bd64 o2).2
    have O3 := Lib.hid (bd32 o3)
    have O5 := Lib.hid o5
    have l63 : f4.length ≤ 9223372036854775807 := g4.2.1
    obtain ⟨ys, Y⟩ : ∃ ys, Hid (ys = xs ++ cnt l.length ++ (l.take k).flatMap expB) := ⟨_, Lib.hid rfl⟩
    have HY : Hid (ys.length + (expB ⟨f0, f1, f2, f3, f4⟩).length ≤ 1000000000) := Lib.hid (by rw [Y.out]; have := FT.out; have := HX.out; simp only [List.length_append] at *; omega)
    have HZ : Hid (ys.length + (headB ⟨f0, f1, f2, f3, f4⟩).length + (f4.flatMap parB).length ≤ 1000000000) := Lib.hid (by have := HY.out; have e : expB ⟨f0, f1, f2, f3, f4⟩ = headB ⟨f0, f1, f2, f3, f4⟩ ++ f4.flatMap parB := rfl; rw [e, List.length_append] at this; omega)
    have HD : Hid (ys.length + ((cnt f0.size).length + f0.size + (cnt f1.toNat).length + (cnt f2.toNat).length + (cnt (sgn f3)).length + (cnt f4.length).length) ≤ 1000000000) := Lib.hid (by have := HZ.out; unfold headB at this; simp only [List.length_append, bytesOf_length] at this; omega)
    rw [← Y.out] at H2
    obtain ⟨wo, Wo⟩ : ∃ wo : World, Hid (wo = wr.alloc (.cells #[.string f0, .int .i64 f1, .int .i64 f2, .int .i32 f3, .slice A4 f4.length c4] 80)) := ⟨_, Lib.hid rfl⟩
    have ba : Below wr.heap.size wr (wr.alloc (.cells #[.string f0, .int .i64 f1, .int .i64 f2, .int .i32 f3, .slice A4 f4.length c4] 80)) := (Below.refl _ _).alloc (Nat.le_refl _) _
    have H3 := Lib.hid (H2.out.below ba)
    have M3 := Lib.hid (Mv.of_below ba g u)
    have K3 := Lib.hid (heap_alloc_new wr (.cells #[.string f0, .int .i64 f1, .int .i64 f2, .int .i32 f3, .slice A4 f4.length c4] 80))
    have NG := Lib.hid (new_ne H2.out).1
    have E3 := Lib.hid (new_ne H2.out).2
    clear ba x0 x1 x2 x3 x4 g4 o0 o1 o2 o3 o4 o5 Wo
    go_wp2_with fail
    refine (wtext w0.heap.size g u ys f0 _ H3.out (by have := HD.out; omega) (by have := HD.out; omega)).mono ?_
    rintro e w4 ⟨rfl, v4, h4, m4⟩
    have K4 := Lib.hid (blk_mv m4 K3.out NG.out E3.out)
    have E4 := Lib.hid (ne_later m4 (blk_lt K3.out) E3.out)
    have H4 := Lib.hid h4
    have M4 := Lib.hid m4
    clear h4 m4
    have c4 := blk_cell K4.out 1
    simp only [List.getElem?_toArray, List.getElem?_cons_succ, List.getElem?_cons_zero] at c4
    go_wp2_with fail
    refine (wcountI w0.heap.size g v4 _ f1 _ H4.out (by have := HD.out; simp only [List.length_append, bytesOf_length]; omega) O1.out).mono ?_
    rintro e w5 ⟨rfl, v5, h5, m5⟩
    have K5 := Lib.hid (blk_mv m5 K4.out NG.out E4.out)
    have E5 := Lib.hid (ne_later m5 (blk_lt K4.out) E4.out)
    have H5 := Lib.hid h5
    have M5 := Lib.hid m5
    clear h5 m5
    have c5 := blk_cell K5.out 2
    simp only [List.getElem?_toArray, List.getElem?_cons_succ, List.getElem?_cons_zero] at c5
    go_wp2_with fail
    refine (wcountI w0.heap.size g v5 _ f2 _ H5.out (by have := HD.out; simp only [List.length_append, bytesOf_length]; omega) O2.out).mono ?_
    rintro e w6 ⟨rfl, v6, h6, m6⟩
    have K6 := Lib.hid (blk_mv m6 K5.out NG.out E5.out)
    have E6 := Lib.hid (ne_later m6 (blk_lt K5.out) E5.out)
    have H6 := Lib.hid h6
    have M6 := Lib.hid m6
    clear h6 m6
    have c6 := blk_cell K6.out 3
    simp only [List.getElem?_toArray, List.getElem?_cons_succ, List.getElem?_cons_zero] at c6
    go_wp2_with fail
    refine (wnumber w0.heap.size g v6 _ f3 _ H6.out (by have := HD.out; simp only [List.length_append, bytesOf_length]; omega) O3.out.1 O3.out.2).mono ?_
    rintro e w7 ⟨rfl, v7, h7, m7⟩
    have K7 := Lib.hid (blk_mv m7 K6.out NG.out E6.out)
    have E7 := Lib.hid (ne_later m7 (blk_lt K6.out) E6.out)
    have H7 := Lib.hid h7
    have M7 := Lib.hid m7
    clear h7 m7
    have c7 := blk_cell K7.out 4
    simp only [List.getElem?_toArray, List.getElem?_cons_succ, List.getElem?_cons_zero] at c7
    go_wp2_with fail
    refine (wcount w0.heap.size g v7 _ f4.length _ H7.out (by have := HD.out; simp only [List.length_append, bytesOf_length]; omega) l63).mono ?_
    rintro e w8 ⟨rfl, v8, h8, m8⟩
    have K8 := Lib.hid (blk_mv m8 K7.out NG.out E7.out)
    have E8 := Lib.hid (ne_later m8 (blk_lt K7.out) E7.out)
    have H8 := Lib.hid h8
    have M8 := Lib.hid m8
    clear h8 m8
    have c8 := blk_cell K8.out 4
    simp only [List.getElem?_toArray, List.getElem?_cons_succ, List.getElem?_cons_zero] at c8
    have H9 : Hid (Wr w0.heap.size w8 g v8 (ys ++ headB ⟨f0, f1, f2, f3, f4⟩)) := Lib.hid (by have h := H8.out; simp only [List.append_assoc] at h; simpa only [headB, List.append_assoc] using h)
    have M9 := Lib.hid (M2.out.trans (M3.out.trans (M4.out.trans (M5.out.trans (M6.out.trans (M7.out.trans M8.out))))))
    clear q0 q1 q2 q3 q4 c4 c5 c6 c7 H3 H4 H5 H6 H7 H8 M3 M4 M5 M6 M7 M8 K3 K4 K5 K6 K7 E3 E4 E5 E6 E7 E8 bw
    go_wp2
    obtain ⟨wo, rfl⟩ : ∃ wo : World, wo = wr := ⟨_, rfl⟩
    go_loopw [42] (fun r42 w2 => ∃ (j : Nat) (u2 : Value), j ≤ f4.length ∧ r42 = .int .i64 j ∧ Hid (Wr w0.heap.size w2 g u2 (ys ++ headB ⟨f0, f1, f2, f3, f4⟩ ++ (f4.take j).flatMap parB)) ∧ Hid (Mv w w2 g v u2)) (fun r42 _ => f4.length - (intOf r42).toNat)
    case atStart => exact ⟨0, v8, by omega, rfl, Lib.hid (by rw [List.take_zero, List.flatMap_nil, List.append_nil]; exact H9.out), M9⟩
    case round =>
      obtain ⟨j, u2, hj, rfl, J1, J2⟩ := hrel
      by_cases hjl : j < f4.length
      · obtain ⟨b2, off2, rfl, hbl2, y0, y1⟩ := row119 G4.out j hjl
        have bw2 := Lib.hid (BB.out _ _ J2.out)
        have z0 := cell_old bw2.out hbl2 y0
        have z1 := cell_old bw2.out hbl2 y1
        have okp := O5.out f4[j] (List.getElem_mem hjl)
        have FT2 := Lib.hid (flat_take parB f4 j hjl)
        have FS2 := Lib.hid (flat_snoc parB f4 j hjl)
        generalize f4[j] = pp at *
        obtain ⟨p0, p1⟩ := pp
        simp only at z0 z1
        have OP := Lib.hid (bd64 okp).2
        have PB : Hid ((parB ⟨p0, p1⟩).length = (cnt p0.toNat).length + (cnt (if p1 = true then 1 else 0)).length) := Lib.hid (by show (cnt p0.toNat ++ cnt (if p1 = true then 1 else 0)).length = _; rw [List.length_append])
        have HP : Hid (ys.length + (headB ⟨f0, f1, f2, f3, f4⟩).length + ((f4.take j).flatMap parB).length + ((cnt p0.toNat).length + (cnt (if p1 = true then 1 else 0)).length) ≤ 1000000000) := Lib.hid (by have := HZ.out; have := FT2.out; have := PB.out; omega)
        have ba : Below wr.heap.size wr (wr.alloc (.cells #[.int .i64 p0, .bool p1] 119)) := (Below.refl _ _).alloc (Nat.le_refl _) _
        have H3 := Lib.hid (J1.out.below ba)
        have M3 := Lib.hid (Mv.of_below ba g u2)
        have K3 := Lib.hid (heap_alloc_new wr (.cells #[.int .i64 p0, .bool p1] 119))
        have NG2 := Lib.hid (new_ne J1.out).1
        have E3 := Lib.hid (new_ne J1.out).2
        clear ba y0 y1 okp
        go_wp2_with fail
        refine (wcountI w0.heap.size g u2 _ p0 _ H3.out (by have := HP.out; simp only [List.length_append]; omega) OP.out).mono ?_
        rintro e w4 ⟨rfl, v4, h4, m4⟩
        have K4 := Lib.hid (blk_mv m4 K3.out NG2.out E3.out)
        have H4 := Lib.hid h4
        have M4 := Lib.hid m4
        clear h4 m4
        have c4 := blk_cell K4.out 1
        simp only [List.getElem?_toArray, List.getElem?_cons_succ, List.getElem?_cons_zero] at c4
        cases p1
        · simp only [Bool.false_eq_true, if_false] at HP PB
          go_wp2_with fail
          refine (wcountI w0.heap.size g v4 _ 0 _ H4.out (by have := HP.out; simp only [List.length_append]; omega) (by omega)).mono ?_
          rintro e w5 ⟨rfl, v5, h5, m5⟩
          have H5 := Lib.hid h5
          have M5 := Lib.hid m5
          clear h5 m5
          go_wp2
          go_roundw
          case rel =>
            refine ⟨j + 1, v5, by omega, by go_num, Lib.hid ?_, Lib.hid (J2.out.trans (M3.out.trans (M4.out.trans M5.out)))⟩
            have h := H5.out
            rw [FS2.out]
            simp only [List.append_assoc] at h ⊢
            exact h
          case measure => simp [intOf]; omega
        · simp only [if_true] at HP PB
          go_wp2_with fail
          refine (wcountI w0.heap.size g v4 _ 1 _ H4.out (by have := HP.out; simp only [List.length_append]; omega) (by omega)).mono ?_
          rintro e w5 ⟨rfl, v5, h5, m5⟩
          have H5 := Lib.hid h5
          have M5 := Lib.hid m5
          clear h5 m5
          go_wp2
          go_roundw
          case rel =>
            refine ⟨j + 1, v5, by omega, by go_num, Lib.hid ?_, Lib.hid (J2.out.trans (M3.out.trans (M4.out.trans M5.out)))⟩
            have h := H5.out
            rw [FS2.out]
            simp only [List.append_assoc] at h ⊢
            exact h
          case measure => simp [intOf]; omega
      · go_wp2
        go_roundw
        case rel =>
          refine ⟨k + 1, u2, by omega, by go_num, Lib.hid ?_, J2⟩
          have h := J1.out
          rw [List.take_of_length_le (by omega), Y.out] at h
          rw [FS.out]
          have e : expB ⟨f0, f1, f2, f3, f4⟩ = headB ⟨f0, f1, f2, f3, f4⟩ ++ f4.flatMap parB := rfl
          rw [e]
          simp only [List.append_assoc] at h ⊢
          exact h
        case measure => simp [intOf]; omega

end Go.Proofs.Ytehdhmhpmkkneaa

/- Layer 13: the document's Bytes, More and Key (printed), and finger.More, Sum: what they answer, in plain words. -/
namespace Go.Proofs.Ytehdhmhpmkkneaa
open Go.RowKit Go.Proofs.YtehdhmhpmkkneaaW.PrintWords Go.Proofs.Ytehdhmhpmkkneaa.PAll

theorem refCountK {k : Nat} (hk : 10 ≤ k) (n : Int) (h : n ≤ 9223372036854775807) : pascalineref12_Count.f k n = some (cnt n.toNat) := at_rounds (g := fun k => pascalineref12_Count.f k n) (fun j => pascalineref12_Count.mono n j) hk (refCount n h)
theorem refNumberK {k : Nat} (hk : 10 ≤ k) (n : Int) (h0 : -2147483648 ≤ n) (h1 : n ≤ 2147483647) : pascalineref12_Number.f k n = some (cnt (sgn n)) := at_rounds (g := fun k => pascalineref12_Number.f k n) (fun j => pascalineref12_Number.mono n j) hk (refNumber n h0 h1)
theorem refTextK {k : Nat} (hk : 10 ≤ k) (s : ByteArray) (h : s.size ≤ 1000000000) : pascalineref12_Text.f k s = some (cnt s.size ++ bytesOf s) := at_rounds (g := fun k => pascalineref12_Text.f k s) (fun j => pascalineref12_Text.mono s j) hk (refText s h)

theorem wrap_succ (i : Nat) (h : i < 9223372036854775807) : wrap64 ((i : Int) + 1) = ((i + 1 : Nat) : Int) := by unfold wrap64; omega

theorem refPars (l : List S80) (i : Nat) (s : ByteArray) (f1 f2 f3 : Int) (ps : List S119) (hi : i < 9223372036854775807) (hp : ps.length ≤ 9223372036854775807) (ok : ∀ p ∈ ps, Ok119 p) : ∀ (d k j : Nat) (acc : List Int), j + d = ps.length → 10 ≤ k → acc.length + (ps.flatMap parB).length ≤ 10000000000 + ((ps.take j).flatMap parB).length →
    pascalineref13_Bytes.l1 (k + d + 1) l acc (i : Int) (j : Int) s f1 f2 f3 ps = pascalineref13_Bytes.l0 k l (acc ++ (ps.drop j).flatMap parB) ((i + 1 : Nat) : Int) := by
  intro d
  induction d with
  | zero =>
    intro k j acc hj hk hl
    rw [pascalineref13_Bytes.l1, if_neg (by omega), wrap_succ i hi, List.drop_of_length_le (by omega)]
    simp
  | succ d ih =>
    intro k j acc hj hk hl
    have hjl : j < ps.length := by omega
    have ft := flat_take parB ps j hjl
    have fs := flat_snoc parB ps j hjl
    have e1 : rd_T119 ps (j : Int) = ps[j] := by simp [rd_T119, hjl]
    have okp : Ok119 ps[j] := ok _ (List.getElem_mem hjl)
    have eB : parB ps[j] = cnt ps[j].f0.toNat ++ cnt (if ps[j].f1 = true then 1 else 0) := rfl
    have lB : (parB ps[j]).length = (cnt ps[j].f0.toNat).length + 1 := by
      rw [eB, List.length_append]
      split
      · rw [cnt_low (n := 1) (by omega)]; rfl
      · rw [cnt_low (n := 0) (by omega)]; rfl
    rw [pascalineref13_Bytes.l1, if_pos (by omega), if_pos (by omega), e1, refCountK (by omega) _ (bd64 okp).2]
    simp only [Option.bind_some]
    rw [if_pos (by omega), wrap_succ j (by omega)]
    have hd : (ps.drop j).flatMap parB = parB ps[j] ++ (ps.drop (j + 1)).flatMap parB := by
      rw [List.drop_eq_getElem_cons hjl, List.flatMap_cons]
    rw [hd]
    have hl2 : ∀ z : Int, (acc ++ cnt ps[j].f0.toNat ++ [z]).length + (ps.flatMap parB).length ≤ 10000000000 + ((ps.take (j + 1)).flatMap parB).length := by
      intro z
      rw [fs]
      simp only [List.length_append, List.length_cons, List.length_nil]
      omega
    by_cases hb : ps[j].f1 = true
    · rw [if_pos hb, if_pos (by simp only [List.length_append]; omega), show k + (d + 1) = k + d + 1 from rfl, ih k (j + 1) _ (by omega) hk (hl2 1), eB, if_pos hb, cnt_low (n := 1) (by omega)]
      simp only [List.append_assoc]
      rfl
    · rw [if_neg hb, if_pos (by simp only [List.length_append]; omega), show k + (d + 1) = k + d + 1 from rfl, ih k (j + 1) _ (by omega) hk (hl2 0), eB, if_neg hb, cnt_low (n := 0) (by omega)]
      simp only [List.append_assoc]
      rfl

/-- The rounds that a list takes. -/
def rounds80 : List S80 → Nat
  | [] => 11
  | x :: r => x.f4.length + 2 + rounds80 r
theorem rounds80_ge : ∀ l : List S80, 11 ≤ rounds80 l
  | [] => Nat.le_refl _
  | _ :: r => by have := rounds80_ge r; simp only [rounds80]; omega

theorem refExps (l : List S80) (hl : l.length < 9223372036854775807) (ok : ∀ x ∈ l, Ok80 x) (hs : ∀ x ∈ l, x.f0.size ≤ 1000000000) : ∀ (r i : Nat) (acc : List Int), i + r = l.length → acc.length + (l.flatMap expB).length ≤ 1000000000 + ((l.take i).flatMap expB).length →
    pascalineref13_Bytes.l0 (rounds80 (l.drop i)) l acc (i : Int) = some (acc ++ (l.drop i).flatMap expB) := by
  intro r
  induction r with
  | zero =>
    intro i acc hi ha
    have e : l.drop i = [] := List.drop_of_length_le (by omega)
    rw [e]
    show pascalineref13_Bytes.l0 (10 + 1) l acc (i : Int) = _
    rw [pascalineref13_Bytes.l0, if_neg (by omega)]
    simp
  | succ r ih =>
    intro i acc hi ha
    have hil : i < l.length := by omega
    have ft := flat_take expB l i hil
    have fs := flat_snoc expB l i hil
    have e1 : rd_T80 l (i : Int) = l[i] := by simp [rd_T80, hil]
    have hd : l.drop i = l[i] :: l.drop (i + 1) := List.drop_eq_getElem_cons hil
    have hr := rounds80_ge (l.drop (i + 1))
    obtain ⟨o0, o1, o2, o3, o4, o5⟩ := ok _ (List.getElem_mem hil)
    have hs0 := hs _ (List.getElem_mem hil)
    rw [hd]
    have eB : expB l[i] = headB l[i] ++ l[i].f4.flatMap parB := rfl
    have eH : headB l[i] = (cnt l[i].f0.size ++ bytesOf l[i].f0) ++ cnt l[i].f1.toNat ++ cnt l[i].f2.toNat ++ cnt (sgn l[i].f3) ++ cnt l[i].f4.length := rfl
    have lB := congrArg List.length eB
    have lH := congrArg List.length eH
    simp only [List.length_append] at lB lH
    have o4' : l[i].f4.length ≤ 9223372036854775807 := by have := o4; unfold maxLen at this; omega
    show pascalineref13_Bytes.l0 (l[i].f4.length + 2 + rounds80 (l.drop (i + 1))) l acc (i : Int) = _
    rw [show l[i].f4.length + 2 + rounds80 (l.drop (i + 1)) = (rounds80 (l.drop (i + 1)) + l[i].f4.length + 1) + 1 by omega]
    rw [pascalineref13_Bytes.l0, if_pos (by omega), if_pos (by omega), e1, refTextK (by omega) _ hs0]
    simp only [Option.bind_some]
    rw [if_pos (by simp only [List.length_append] at *; omega), refCountK (by omega) _ (bd64 o1).2]
    simp only [Option.bind_some]
    rw [if_pos (by simp only [List.length_append] at *; omega), refCountK (by omega) _ (bd64 o2).2]
    simp only [Option.bind_some]
    rw [if_pos (by simp only [List.length_append] at *; omega), refNumberK (by omega) _ (bd32 o3).1 (bd32 o3).2]
    simp only [Option.bind_some]
    rw [if_pos (by simp only [List.length_append] at *; omega), refCountK (by omega) _ (by omega)]
    simp only [Option.bind_some, Int.toNat_natCast]
    rw [if_pos (by simp only [List.length_append] at *; omega)]
    have hp := refPars l i l[i].f0 l[i].f1 l[i].f2 l[i].f3 l[i].f4 (by omega) o4' o5 l[i].f4.length (rounds80 (l.drop (i + 1))) 0 (acc ++ (cnt l[i].f0.size ++ bytesOf l[i].f0) ++ cnt l[i].f1.toNat ++ cnt l[i].f2.toNat ++ cnt (sgn l[i].f3) ++ cnt l[i].f4.length) (by omega) (by omega) (by simp only [List.length_append] at *; simp only [List.take_zero, List.flatMap_nil, List.length_nil]; omega)
    rw [Int.natCast_zero] at hp
    rw [hp, List.drop_zero, ih (i + 1) _ (by omega) (by rw [fs]; simp only [List.length_append] at *; omega), List.flatMap_cons, eB, eH]
    simp only [List.append_assoc]

theorem refBytes13 (l : List S80) (ok : ∀ x ∈ l, Ok80 x) (hl : l.length < 9223372036854775807) (hT : (expsB l).length ≤ 1000000000) (hs : ∀ x ∈ l, x.f0.size ≤ 1000000000) : pascalineref13_Bytes.f (rounds80 l) l = some (expsB l) := by
  unfold pascalineref13_Bytes.f
  have hr := rounds80_ge l
  rw [refCountK (by omega) _ (by omega)]
  simp only [Option.bind_some, Int.toNat_natCast]
  unfold expsB at hT
  rw [List.length_append] at hT
  have h := refExps l hl ok hs l.length 0 (cnt l.length) (by omega) (by simp only [List.take_zero, List.flatMap_nil, List.length_nil]; omega)
  rw [Int.natCast_zero, List.drop_zero] at h
  exact h
end Go.Proofs.Ytehdhmhpmkkneaa

/- Layer 13: sums and keys: contracts. -/
namespace Go.Proofs.Ytehdhmhpmkkneaa
open Go.RowKit Go.Proofs.YtehdhmhpmkkneaaW.PrintWords Go.Proofs.Ytehdhmhpmkkneaa.PAll

def fstep (s b : Int) : Int := ((Go.bits .xor .u32 s (b % 4294967296)) * 16777619) % 4294967296
/-- The sum of bytes behind a sum. -/
def fnv (s : Int) (l : List Int) : Int := l.foldl fstep s

theorem more_eq (l : List Int) : ∀ (k : Nat) (s i : Int), finger_More.l0 k s l (l.length : Int) i = pascalineref13_More.l0 k s l i
  | 0, _, _ => rfl
  | k + 1, s, i => by
    simp only [finger_More.l0, pascalineref13_More.l0]
    by_cases h : i < (l.length : Int)
    · by_cases h0 : 0 ≤ i
      · simp only [h, h0, if_true]
        exact more_eq l k _ _
      · simp only [h0, if_false, h, if_true]
    · simp only [h, if_false]

theorem more_fnv (l : List Int) (hl : l.length ≤ 140737488351232) : ∀ (d k i : Nat) (s : Int), i + d = l.length → d < k → pascalineref13_More.l0 k s l (i : Int) = some (fnv s (l.drop i)) := by
  intro d
  induction d with
  | zero =>
    intro k i s hi hk
    obtain ⟨k, rfl⟩ : ∃ m, k = m + 1 := ⟨k - 1, by omega⟩
    rw [pascalineref13_More.l0, if_neg (by omega), List.drop_of_length_le (by omega)]
    rfl
  | succ d ih =>
    intro k i s hi hk
    obtain ⟨k, rfl⟩ : ∃ m, k = m + 1 := ⟨k - 1, by omega⟩
    have hil : i < l.length := by omega
    have e1 : rd l (i : Int) = l[i] := by simp [rd, hil]
    rw [pascalineref13_More.l0, if_pos (by omega), if_pos (by omega), e1, wrap_succ i (by omega), ih k (i + 1) _ (by omega) (by omega), List.drop_eq_getElem_cons hil]
    rfl

theorem refMore {k : Nat} (s : Int) (l : List Int) (hl : l.length ≤ 140737488351232) (hk : l.length < k) : pascalineref13_More.f k s l = some (fnv s l) := by
  have h := more_fnv l hl l.length k 0 s (by omega) hk
  rw [Int.natCast_zero, List.drop_zero] at h
  exact h
theorem finSum {k : Nat} (l : List Int) (hl : l.length ≤ 140737488351232) (hk : l.length < k) : finger_Sum.f k l = some (fnv 2166136261 l) := by
  unfold finger_Sum.f finger_More.f
  rw [more_eq]
  have h := refMore (k := k) 2166136261 l hl hk
  unfold pascalineref13_More.f at h
  rw [h]
  rfl

/-- What a key is of. -/
def keyB (s : ByteArray) (l : List S80) : List Int := (cnt s.size ++ bytesOf s) ++ expsB l
def keyOf80 (s : ByteArray) (l : List S80) : Int := fnv 2166136261 (keyB s l)

theorem refKey (s : ByteArray) (l : List S80) (ok : ∀ x ∈ l, Ok80 x) (hl : l.length < 9223372036854775807) (hT : (keyB s l).length ≤ 1000000000) (hs : ∀ x ∈ l, x.f0.size ≤ 1000000000) (hs0 : s.size ≤ 1000000000) :
    ∃ k, pascalineref13_Key.f k s l = some (keyOf80 s l) := by
  have hT2 : (keyB s l).length = (cnt s.size ++ bytesOf s).length + (expsB l).length := by unfold keyB; rw [List.length_append]
  obtain ⟨k, hk⟩ : ∃ k, k = max (rounds80 l) ((keyB s l).length + 1) := ⟨_, rfl⟩
  have hr := rounds80_ge l
  refine ⟨k, ?_⟩
  unfold pascalineref13_Key.f
  rw [refTextK (by omega) s hs0]
  simp only [Option.bind_some]
  rw [at_rounds (g := fun k => pascalineref13_Bytes.f k l) (fun j => pascalineref13_Bytes.mono l j) (show rounds80 l ≤ k by omega) (refBytes13 l ok hl (by omega) hs)]
  simp only [Option.bind_some]
  rw [if_pos (by omega), refMore _ _ (by show (keyB s l).length ≤ _; omega) (by show (keyB s l).length < _; omega)]
  rfl

theorem rkey (s : ByteArray) (l : List S80) (A : Option Addr) (c : Nat) (w : World) (hr : Kd.C k80 w A l.length l) (hc : l.length ≤ c) (ok : ∀ x ∈ l, Ok80 x) (hT : (keyB s l).length ≤ 1000000000) (hs : ∀ x ∈ l, x.f0.size ≤ 1000000000) (hs0 : s.size ≤ 1000000000) (hl : l.length < 9223372036854775807) :
    Calls Try.prog 25 #[.string s, .slice A l.length c] w fun e w' => e = .returned (.int .u32 (keyOf80 s l)) ∧ Below w.heap.size w w' := by
  obtain ⟨k, h⟩ := refKey s l ok hl hT hs hs0
  exact pascalineref13_Key.calls k s A c l _ w hr hc h

theorem rexps (l : List S80) (A : Option Addr) (c : Nat) (w : World) (hr : Kd.C k80 w A l.length l) (hc : l.length ≤ c) (ok : ∀ x ∈ l, Ok80 x) (hT : (expsB l).length ≤ 1000000000) (hs : ∀ x ∈ l, x.f0.size ≤ 1000000000) (hl : l.length < 9223372036854775807) :
    Calls Try.prog 23 #[.slice A l.length c] w (Got w (expsB l)) :=
  (pascalineref13_Bytes.calls _ A c l _ w hr hc (refBytes13 l ok hl hT hs)).mono fun _ _ ⟨v, he, hr, hb⟩ => ⟨v, he, Kd.own_of_R hr, hb⟩

theorem fsum (B : Nat) (v : Value) (xs : List Int) (w : World) (hm : xs.length ≤ 1000000000) (hx : w.ownsRow B 5 1 v xs.length (nums .u8 xs)) :
    Calls Try.prog 80 #[v] w fun e w' => e = .returned (.int .u32 (fnv 2166136261 xs)) ∧ Drawn0 w w' := by
  obtain ⟨A, c, rfl, hc, hr⟩ := reads_own hx
  exact finger_Sum.calls (xs.length + 1) A c xs _ w hr hc (finSum xs (by omega) (by omega))

theorem fawake (w : World) : Calls Try.prog 20 #[] w fun e w' => e = .returned (.bool true) ∧ Drawn0 w w' :=
  pascalinelaw13_awake.calls 1 true w (by unfold pascalinelaw13_awake.f; rw [finSum [] (by simp) (by simp)]; rfl)

theorem wr_newB (B : Nat) (w : World) (h : B ≤ w.heap.size) : Wr B (w.alloc (.cells #[.slice none 0 0] 26)) w.heap.size (.slice none 0 0) [] :=
  ⟨heap_alloc_new w _, h, own_nil _ _ _ _⟩
theorem wr_new' (w : World) : Wr w.heap.size (w.alloc (.cells #[.slice none 0 0] 26)) w.heap.size (.slice none 0 0) [] :=
  ⟨heap_alloc_new w _, Nat.le_refl _, own_nil _ _ _ _⟩

set_option maxHeartbeats 400000 in
set_option maxRecDepth 100000 in
theorem fkey (s : ByteArray) (l : List S80) (A : Option Addr) (c : Nat) (w : World) (hr : Kd.C k80 w A l.length l) (hok : ∀ x ∈ l, Ok80 x) (hT : (keyB s l).length ≤ 1000000000) (hs0 : s.size ≤ 1000000000) :
    Calls Try.prog 24 #[.string s, .slice A l.length c] w fun e w' => e = .returned (.int .u32 (keyOf80 s l)) ∧ Below w.heap.size w w' := by
  have HR := Lib.hid hr
  have OK := Lib.hid hok
  have hT2 : (keyB s l).length = (cnt s.size ++ bytesOf s).length + (expsB l).length := by unfold keyB; rw [List.length_append]
  have HT : Hid ((cnt s.size ++ bytesOf s).length + (expsB l).length ≤ 1000000000) := Lib.hid (by omega)
  have HS := Lib.hid hs0
  have HW := Lib.hid (wr_new' w)
  clear hr hok hT hs0 hT2
  go_enter Try.func24, Try.ntmps24
  go_wp2_with fail
  refine (wtext w.heap.size w.heap.size _ [] s _ HW.out (by simp) HS.out).mono ?_
  rintro e w1 ⟨rfl, v1, h1, m1⟩
  have H1 := Lib.hid h1
  have M1 := Lib.hid m1
  have ba : Below w.heap.size w (w.alloc (.cells #[.slice none 0 0] 26)) := (Below.refl _ _).alloc (Nat.le_refl _) _
  have B1 := Lib.hid (m1.below ba (by simp) (Nat.le_refl _) (fun k hk => by simp [Value.ownBlock] at hk))
  clear h1 m1 ba
  go_wp2_with fail
  refine (fwrite w w.heap.size v1 _ l A c w1 H1.out B1.out HR.out OK.out (by have := HT.out; simp only [List.nil_append]; omega)).mono ?_
  rintro e w2 ⟨rfl, v2, h2, m2⟩
  have H2 := Lib.hid h2
  have B2 := Lib.hid (m2.below B1.out B1.out.size (Nat.le_refl _) H1.out.base)
  clear h2 m2
  go_wp2_with fail
  refine (wbytes w.heap.size w.heap.size v2 _ w2 H2.out (by have := HT.out; simp only [List.nil_append, List.length_append] at *; omega)).mono ?_
  rintro e w3 ⟨u3, rfl, ho3, b3⟩
  have O3 := Lib.hid ho3
  have B3 := Lib.hid b3
  obtain ⟨A3, n3, c3, rfl⟩ := own_form ho3
  clear ho3 b3
  go_wp2_with fail
  refine (fsum w2.heap.size _ _ w3 (by have := HT.out; simp only [List.nil_append, List.length_append] at *; omega) O3.out).mono ?_
  rintro e w4 ⟨rfl, d4⟩
  have B4 := Lib.hid d4.below
  clear d4
  go_wp2
  go_ret
  have s2 := B2.out.size
  have s3 := B3.out.size
  refine ⟨?_, B2.out.trans ((B3.out.mono s2).trans (B4.out.mono (by omega)))⟩
  have hf : keyOf80 s l = fnv 2166136261 (cnt s.size ++ (bytesOf s ++ expsB l)) := by unfold keyOf80 keyB; rw [List.append_assoc]
  rw [hf]
  rfl

end Go.Proofs.Ytehdhmhpmkkneaa

/- Layer 12: a new reader; steps behind calls that change nothing. -/
namespace Go.Proofs.Ytehdhmhpmkkneaa
open Go.RowKit Go.Proofs.YtehdhmhpmkkneaaW.PrintWords Go.Proofs.Ytehdhmhpmkkneaa.PAll

theorem creadN (A : Option Addr) (n c : Nat) (xs : List Int) (w : World) (hr : ReadsInt w .u8 A n xs) (hok : AllB xs) (hl : xs.length ≤ 1000000000) :
    Calls Try.prog 28 #[.slice A n c] w fun e w' => ∃ g, e = .returned (.pointer (some ⟨g, 0, none⟩)) ∧ RD w' g ⟨xs, 0⟩ ∧ w.heap.size ≤ g ∧ Below w.heap.size w w' := by
  refine (cread A n c xs w hr hok hl).mono ?_
  rintro e w' ⟨w0, g, rfl, hi, b1, b2⟩
  refine ⟨g, rfl, ⟨w0, hi, b1⟩, ?_, b2.trans (b1.mono b2.size)⟩
  obtain ⟨_, _, _, _, _, hg, _⟩ := hi
  have := b2.size
  omega

theorem RD.belowR {W W' : World} {g : Nat} {s : RS} (h : RD W g s) (b : Below W.heap.size W W') : RD W' g s := by
  obtain ⟨w0, ⟨f0, p, A, c, hb, hr⟩, hB⟩ := h
  exact ⟨w0, ⟨f0, p, A, c, blk_below hb b, hr⟩, hB.trans (b.mono hB.size)⟩
theorem Wn.belowW {S : Nat} {W W' : World} {h : Nat} {xs : List Int} (k : Wn S W h xs) (b : Below W.heap.size W W') : Wn S W' h xs := by
  obtain ⟨v, h1, h2⟩ := k
  exact ⟨v, h1.below b, h2⟩
theorem Wn.mono {S S' : Nat} {W : World} {h : Nat} {xs : List Int} (k : Wn S W h xs) (b : S' ≤ S) : Wn S' W h xs := by
  obtain ⟨v, h1, h2⟩ := k
  refine ⟨v, h1, ?_⟩
  rcases h2 with e | ⟨b, e, hb⟩
  · exact .inl e
  · exact .inr ⟨b, e, by omega⟩
theorem Wr.hd {B : Nat} {W : World} {h : Nat} {v : Value} {xs : List Int} (k : Wr B W h v xs) : Hd W h := by
  obtain ⟨hb, _, ho⟩ := k
  obtain ⟨A, c, rfl⟩ := own_slice ho
  exact .inl ⟨_, hb, by simp⟩
end Go.Proofs.Ytehdhmhpmkkneaa

