/- MBase. -/
import Derived.Test.YtehdhmhpmkkneaaBPAllx0
import Derived.Laws.BitsLemmas
import Derived.Laws.BytesArg
import Derived.Test.YtehdhmhpmkkneaaBMKey
import Derived.Deep.QuietTactic
import Derived.BigQuiet
/- The texts Ra, Rc, Re, Rd, Pu, Pv, Cp, Oa, Rh, Ob, On, one behind the other. -/
/- Layer 12: what a reader answers, in plain words. -/
namespace Go.Proofs.Ytehdhmhpmkkneaa
open Go.RowKit Go.Proofs.YtehdhmhpmkkneaaW.PrintWords Go.Proofs.Ytehdhmhpmkkneaa.PAll
structure RS where
  xs : List Int
  err : Int
def byteS (s : RS) : Int × RS := if s.err = 0 then (match s.xs with | [] => (0, ⟨[], 120⟩) | b :: r => (b, ⟨r, 0⟩)) else (0, s)
def cntGo : List Int → Nat → Int → Int × RS
  | [], _, _ => (0, ⟨[], 120⟩)
  | b :: r, j, n => if j = 9 ∨ (0 < j ∧ b = 0) then (0, ⟨r, 121⟩) else if b < 128 then (n + b % 128 * 2 ^ (7 * j), ⟨r, 0⟩) else cntGo r (j + 1) (n + b % 128 * 2 ^ (7 * j))
def fin (m : Int) (q : Int × RS) : Int × RS := if q.2.err = 0 then (if q.1 > max m 0 then (0, ⟨q.2.xs, 121⟩) else q) else q
def countS (m : Int) (s : RS) : Int × RS := if s.err = 0 then fin m (cntGo s.xs 0 0) else (0, s)
def wordS (s : RS) : Int × RS :=
  if (byteS (byteS (byteS (byteS s).2).2).2).2.err = 0 then
    ((byteS s).1 + 256 * (byteS (byteS s).2).1 + 65536 * (byteS (byteS (byteS s).2).2).1 + 16777216 * (byteS (byteS (byteS (byteS s).2).2).2).1, (byteS (byteS (byteS (byteS s).2).2).2).2)
  else (0, (byteS (byteS (byteS (byteS s).2).2).2).2)
def leftS (s : RS) : Int := if s.err = 0 then s.xs.length else 0
def textS (m : Int) (s : RS) : ByteArray × RS :=
  if (countS m s).2.err = 0 then
    (if (countS m s).1 > (countS m s).2.xs.length then (ByteArray.empty, ⟨(countS m s).2.xs, 120⟩) else (strOfNums ((countS m s).2.xs.take (countS m s).1.toNat), ⟨(countS m s).2.xs.drop (countS m s).1.toNat, 0⟩))
  else (ByteArray.empty, (countS m s).2)
def endS (s : RS) : RS := if leftS s > 0 then ⟨s.xs, 121⟩ else s
def AllB (l : List Int) : Prop := ∀ x ∈ l, 0 ≤ x ∧ x ≤ 255
def Abs (f0 : List Int) (p : Int) (s : RS) : Prop := 0 ≤ p ∧ p ≤ f0.length ∧ s.xs = f0.drop p.toNat
theorem abs_cons {f0 : List Int} {p : Int} {s : RS} (h : Abs f0 p s) (hp : p < f0.length) : s.xs = f0.getD p.toNat 0 :: f0.drop (p.toNat + 1) := by
  obtain ⟨h0, h1, hx⟩ := h
  have hlt : p.toNat < f0.length := by omega
  rw [hx, List.drop_eq_getElem_cons hlt]
  simp [hlt]
theorem wrapu64 (n : Int) (h0 : 0 ≤ n) (h1 : n < 2 ^ 64) : IntKind.u64.wrap n = n := by
  simp [IntKind.wrap, IntKind.bits, IntKind.signed]; omega
theorem or_low (k : IntKind) (j : Nat) (hj : j ≤ k.bits) (hk : ∀ n : Int, 0 ≤ n → n < 2 ^ j → k.wrap n = n) (i : Nat)
    (x y : Int) (hx₀ : 0 ≤ x) (hx : x % 2 ^ i = 0) (hx₁ : x < 2 ^ j) (hy₀ : 0 ≤ y) (hy : y < 2 ^ i) (hy₁ : y < 2 ^ j) : bits .or k y x = y + x := by
  have h := bits_join k j hj hk i x y hx₀ hx hx₁ hy₀ hy hy₁
  obtain ⟨a, rfl⟩ := Int.eq_ofNat_of_zero_le hx₀
  obtain ⟨b, rfl⟩ := Int.eq_ofNat_of_zero_le hy₀
  have ha : a < 2 ^ j := by exact_mod_cast hx₁
  have hb : b < 2 ^ j := by exact_mod_cast hy₁
  rw [(bits_nat k j hj hk a b ha hb).2] at h
  rw [(bits_nat k j hj hk b a hb ha).2, Nat.or_comm, h, Int.add_comm]
theorem u64_or7 (j : Nat) (hj : j ≤ 8) (n b : Int) (n0 : 0 ≤ n) (n1 : n < 2 ^ (7 * j)) (b0 : 0 ≤ b) (b1 : b ≤ 255) :
    bits .or .u64 n (shl .u64 (IntKind.u64.wrap (bits .and .u8 b 127)) ((7 * j : Nat) : Int)) = n + b % 128 * 2 ^ (7 * j) ∧ n + b % 128 * 2 ^ (7 * j) < 2 ^ (7 * (j + 1)) := by
  have e1 : bits .and .u8 b 127 = b % 128 := bits_mask .u8 8 (by decide) wraps_u8 7 (by decide) b b0 (by omega)
  have hp : (2 : Int) ^ (7 * (j + 1)) = 128 * 2 ^ (7 * j) := by rw [show 7 * (j + 1) = 7 * j + 7 by omega, Int.pow_add]; omega
  have hp9 : (2 : Int) ^ (7 * j) ≤ 2 ^ 56 := by exact_mod_cast Nat.pow_le_pow_right (by decide) (by omega : 7 * j ≤ 56)
  have hp0 : (0 : Int) < 2 ^ (7 * j) := by exact_mod_cast Nat.two_pow_pos _
  have hb0 : 0 ≤ b % 128 := by omega
  have hb1 : b % 128 ≤ 127 := by omega
  have hmul : b % 128 * 2 ^ (7 * j) ≤ 127 * 2 ^ (7 * j) := Int.mul_le_mul_of_nonneg_right hb1 (Int.le_of_lt hp0)
  have hmul0 : 0 ≤ b % 128 * 2 ^ (7 * j) := Int.mul_nonneg hb0 (Int.le_of_lt hp0)
  have e2 : shl .u64 (IntKind.u64.wrap (b % 128)) ((7 * j : Nat) : Int) = b % 128 * 2 ^ (7 * j) := by
    rw [wrapu64 _ hb0 (by omega)]
    unfold shl
    rw [Int.toNat_natCast, Nat.min_eq_left (by show 7 * j ≤ 64; omega)]
    exact wrapu64 _ hmul0 (by omega)
  rw [e1, e2]
  refine ⟨?_, by rw [hp]; omega⟩
  exact or_low .u64 64 (by decide) wrapu64 (7 * j) _ n hmul0 (Int.mul_emod_left _ _) (by omega) n0 n1 (by omega)
theorem cntGo_bd : ∀ (xs : List Int) (j : Nat) (n : Int), AllB xs → j ≤ 9 → 0 ≤ n → n < 2 ^ (7 * j) → 0 ≤ (cntGo xs j n).1 ∧ (cntGo xs j n).1 ≤ 9223372036854775807
  | [], _, _, _, _, _, _ => ⟨Int.le_refl _, by show (0 : Int) ≤ _; omega⟩
  | b :: r, j, n, ok, hj, n0, n1 => by
    obtain ⟨b0, b1⟩ := ok b (List.mem_cons_self ..)
    rw [cntGo]
    by_cases h : j = 9 ∨ (0 < j ∧ b = 0)
    · rw [if_pos h]; exact ⟨Int.le_refl _, by show (0 : Int) ≤ _; omega⟩
    · rw [if_neg h]
      have hj8 : j ≤ 8 := by omega
      obtain ⟨_, e2⟩ := u64_or7 j hj8 n b n0 n1 b0 b1
      have hp0 : (0 : Int) < 2 ^ (7 * j) := by exact_mod_cast Nat.two_pow_pos _
      have hmul0 : 0 ≤ b % 128 * 2 ^ (7 * j) := Int.mul_nonneg (by omega) (Int.le_of_lt hp0)
      have h63 : (2 : Int) ^ (7 * (j + 1)) ≤ 2 ^ 63 := by exact_mod_cast Nat.pow_le_pow_right (by decide) (by omega : 7 * (j + 1) ≤ 63)
      split
      · exact ⟨by simp only; omega, by simp only; omega⟩
      · exact cntGo_bd r (j + 1) _ (fun x hx => ok x (List.mem_cons_of_mem _ hx)) (by omega) (by omega) e2
theorem countS_bd (m : Int) (s : RS) (ok : AllB s.xs) : 0 ≤ (countS m s).1 ∧ (countS m s).1 ≤ max m 0 ∧ (countS m s).1 ≤ 9223372036854775807 := by
  unfold countS
  split
  · have h := cntGo_bd s.xs 0 0 ok (by omega) (by omega) (by simp)
    unfold fin
    split
    · split
      · simp only; omega
      · rename_i h1 h2
        omega
    · rename_i h1
      have e : (cntGo s.xs 0 0).1 = 0 := by
        have key : ∀ (xs : List Int) (j : Nat) (n : Int), (cntGo xs j n).2.err ≠ 0 → (cntGo xs j n).1 = 0 := by
          intro xs
          induction xs with
          | nil => intro j n _; rfl
          | cons b r ih =>
            intro j n hh
            rw [cntGo] at hh ⊢
            split
            · rfl
            · rename_i hc
              rw [if_neg hc] at hh
              split
              · rename_i hd; rw [if_pos hd] at hh; exact absurd rfl hh
              · rename_i hd; rw [if_neg hd] at hh; exact ih _ _ hh
        exact key _ _ _ h1
      omega
  · simp only; omega
theorem cntGo_err : ∀ (xs : List Int) (j : Nat) (n : Int), (cntGo xs j n).2.err ≠ 0 → (cntGo xs j n).1 = 0
  | [], _, _, _ => rfl
  | b :: r, j, n, hh => by
    rw [cntGo] at hh ⊢
    split
    · rfl
    · rename_i hc
      rw [if_neg hc] at hh
      split
      · rename_i hd; rw [if_pos hd] at hh; exact absurd rfl hh
      · rename_i hd; rw [if_neg hd] at hh; exact cntGo_err r _ _ hh
theorem countS_err (m : Int) (s : RS) (h : (countS m s).2.err ≠ 0) : (countS m s).1 = 0 := by
  unfold countS at h ⊢
  split
  · rename_i he
    rw [if_pos he] at h
    unfold fin at h ⊢
    split
    · rename_i h1
      rw [if_pos h1] at h
      split
      · rfl
      · rename_i h2
        rw [if_neg h2] at h
        exact absurd h1 h
    · rename_i h1
      exact cntGo_err _ _ _ h1
  · rfl
theorem byteS_bd (s : RS) (ok : AllB s.xs) : 0 ≤ (byteS s).1 ∧ (byteS s).1 ≤ 255 ∧ AllB (byteS s).2.xs := by
  unfold byteS
  split
  · cases hx : s.xs with
    | nil => exact ⟨Int.le_refl _, by show (0 : Int) ≤ _; omega, fun x hm => by cases hm⟩
    | cons b r =>
      rw [hx] at ok
      exact ⟨(ok b (List.mem_cons_self ..)).1, (ok b (List.mem_cons_self ..)).2, fun x hm => ok x (List.mem_cons_of_mem _ hm)⟩
  · exact ⟨Int.le_refl _, by show (0 : Int) ≤ _; omega, ok⟩
theorem u32_or (i : Nat) (hi : i ≤ 24) (x b : Int) (x0 : 0 ≤ x) (x1 : x < 2 ^ i) (b0 : 0 ≤ b) (b1 : b ≤ 255) :
    bits .or .u32 x (shl .u32 (b % 4294967296) (i : Int)) = x + 2 ^ i * b ∧ x + 2 ^ i * b < 2 ^ (i + 8) := by
  have hw : ∀ n : Int, 0 ≤ n → n < 2 ^ 32 → IntKind.u32.wrap n = n := fun n a b => by rw [IntKind.wrap_u32]; omega
  have hp0 : (0 : Int) < 2 ^ i := by exact_mod_cast Nat.two_pow_pos _
  have hp24 : (2 : Int) ^ i ≤ 2 ^ 24 := by exact_mod_cast Nat.pow_le_pow_right (by decide) hi
  have hp8 : (2 : Int) ^ (i + 8) = 256 * 2 ^ i := by rw [Int.pow_add]; omega
  have hmul : b * 2 ^ i ≤ 255 * 2 ^ i := Int.mul_le_mul_of_nonneg_right b1 (Int.le_of_lt hp0)
  have hmul0 : 0 ≤ b * 2 ^ i := Int.mul_nonneg b0 (Int.le_of_lt hp0)
  have e : shl .u32 (b % 4294967296) (i : Int) = b * 2 ^ i := by
    unfold shl
    rw [Int.toNat_natCast, Nat.min_eq_left (by show i ≤ 32; omega), show b % 4294967296 = b by omega]
    exact hw _ hmul0 (by omega)
  rw [e, or_low .u32 32 (by decide) hw i _ x hmul0 (Int.mul_emod_left _ _) (by omega) x0 x1 (by omega), Int.mul_comm (2 ^ i) b]
  exact ⟨rfl, by rw [hp8]; omega⟩
theorem or_0 (b : Int) (b0 : 0 ≤ b) (b1 : b ≤ 255) : bits .or .u32 0 (shl .u32 (b % 4294967296) 0) = b := by
  have h := (u32_or 0 (by omega) 0 b (Int.le_refl _) (by simp) b0 b1).1
  rw [Int.natCast_zero, Int.pow_zero] at h
  omega
theorem or_8 (x b : Int) (x0 : 0 ≤ x) (x1 : x < 256) (b0 : 0 ≤ b) (b1 : b ≤ 255) : bits .or .u32 x (shl .u32 (b % 4294967296) 8) = x + 256 * b :=
  (u32_or 8 (by omega) x b x0 (by omega) b0 b1).1
theorem or_16 (x b : Int) (x0 : 0 ≤ x) (x1 : x < 65536) (b0 : 0 ≤ b) (b1 : b ≤ 255) : bits .or .u32 x (shl .u32 (b % 4294967296) 16) = x + 65536 * b :=
  (u32_or 16 (by omega) x b x0 (by omega) b0 b1).1
theorem or_24 (x b : Int) (x0 : 0 ≤ x) (x1 : x < 16777216) (b0 : 0 ≤ b) (b1 : b ≤ 255) : bits .or .u32 x (shl .u32 (b % 4294967296) 24) = x + 16777216 * b :=
  (u32_or 24 (by omega) x b x0 (by omega) b0 b1).1
theorem leftS_pos {s : RS} (h : leftS s > 0) : s.err = 0 := by
  unfold leftS at h
  split at h
  · assumption
  · omega
theorem mx_eq (m : Int) : mx m 0 = max m 0 := by unfold mx; split <;> omega
end Go.Proofs.Ytehdhmhpmkkneaa
/- Layer 12: the code's reader: walks of Left, fail, Byte, End. -/
namespace Go.Proofs.Ytehdhmhpmkkneaa
open Go.RowKit Go.Proofs.YtehdhmhpmkkneaaW.PrintWords Go.Proofs.Ytehdhmhpmkkneaa.PAll
def IsR (w0 W : World) (g : Nat) (s : RS) : Prop :=
  ∃ f0 p A c, W.heap[g]? = some (.cells #[.slice A f0.length c, .int .i64 p, .int .i64 s.err] 123 (0, 0)) ∧ w0.heap.size ≤ g ∧ f0.length ≤ c ∧ ReadsInt w0 .u8 A f0.length f0 ∧ Abs f0 p s ∧ AllB f0 ∧ f0.length ≤ 140737488351232
theorem IsR.bytes {w0 W : World} {g : Nat} {s : RS} (h : IsR w0 W g s) : AllB s.xs := by
  obtain ⟨f0, p, A, c, _, _, _, _, ⟨_, _, hx⟩, ok, _⟩ := h
  intro x hm
  rw [hx] at hm
  exact ok x (List.mem_of_mem_drop hm)
theorem IsR.errCell {w0 W : World} {g : Nat} {s : RS} (h : IsR w0 W g s) : W.cell? ⟨g, 2, none⟩ = some (.int .i64 s.err) := by
  obtain ⟨f0, p, A, c, hb, _⟩ := h
  exact blk_cell hb 2
theorem drawn_heap {w w1 : World} (h : Drawn0 w w1) : w1.heap = w.heap := by
  obtain ⟨n, rfl⟩ := h.out
  rfl
theorem IsR.drawn {w0 w w1 : World} {g : Nat} {s : RS} (h : IsR w0 w g s) (d : Drawn0 w w1) : IsR w0 w1 g s := by
  unfold IsR at *
  rw [drawn_heap d]
  exact h
theorem keep_drawn {w w1 : World} (d : Drawn0 w w1) (g : Nat) : KeepBut w w1 g none := KeepBut.of_below d.below g none
def RPost (w0 w : World) (g : Nat) (v : Value) (s : RS) (e : Ending) (w' : World) : Prop := e = .returned v ∧ IsR w0 w' g s ∧ Below w0.heap.size w0 w' ∧ KeepBut w w' g none
theorem keep_trans {w w1 w2 : World} {g : Nat} (h : KeepBut w w1 g none) (k : KeepBut w1 w2 g none) : KeepBut w w2 g none := h.trans k (.inl rfl)
theorem RPost.after {w0 w w1 : World} {g : Nat} {v : Value} {s : RS} {e : Ending} {w' : World} (k : KeepBut w w1 g none) (h : RPost w0 w1 g v s e w') : RPost w0 w g v s e w' :=
  ⟨h.1, h.2.1, h.2.2.1, keep_trans k h.2.2.2⟩
set_option maxHeartbeats 400000 in
set_option maxRecDepth 100000 in
theorem cleft (w0 w : World) (g : Nat) (s : RS) (h : IsR w0 w g s) :
    Calls Try.prog 32 #[.pointer (some ⟨g, 0, none⟩)] w fun e w' => e = .returned (.int .i64 (leftS s)) ∧ Drawn0 w w' := by
  obtain ⟨f0, p, A, c, hblk, hg, hc, hrd, ⟨p0, p1, px⟩, ok, hm⟩ := h
  have c0 : w.cell? ⟨g, 0, none⟩ = some (.slice A f0.length c) := blk_cell hblk 0
  have c1 : w.cell? ⟨g, 1, none⟩ = some (.int .i64 p) := blk_cell hblk 1
  have c2 : w.cell? ⟨g, 2, none⟩ = some (.int .i64 s.err) := blk_cell hblk 2
  by_cases he : s.err = 0
  · have hL : leftS s = f0.length - p := by unfold leftS; rw [if_pos he, px, List.length_drop]; omega
    rw [hL]
    have E1 : (s.err == 0) = true := beq_iff_eq.2 he
    have E2 : (s.err != 0) = false := by rw [he]; rfl
    clear hL he hblk hrd px ok
    go_enter Try.func32, Try.ntmps32
    go_wp2
    go_quiet (fail)
    go_wp2
    go_ret
    exact ⟨rfl, ⟨_, rfl⟩⟩
  · have hL : leftS s = 0 := by unfold leftS; rw [if_neg he]
    rw [hL]
    have E1 : (s.err == 0) = false := beq_eq_false_iff_ne.2 he
    have E2 : (s.err != 0) = true := bne_iff_ne.2 he
    clear hL he hblk hrd px ok
    go_enter Try.func32, Try.ntmps32
    go_wp2
    go_ret
    exact ⟨rfl, Drawn0.refl _⟩
def failS (s : RS) (x : Int) : RS := if s.err = 0 then ⟨s.xs, x⟩ else s
set_option maxHeartbeats 400000 in
set_option maxRecDepth 100000 in
theorem cfail (w0 w : World) (g : Nat) (s : RS) (x : Int) (h : IsR w0 w g s) (hb : Below w0.heap.size w0 w) :
    Calls Try.prog 91 #[.pointer (some ⟨g, 0, none⟩), .int .i64 x] w (RPost w0 w g (.tuple #[]) (failS s x)) := by
  have HI := Lib.hid h
  have HB := Lib.hid hb
  obtain ⟨f0, p, A, c, hblk, hg, hc, hrd, ⟨p0, p1, px⟩, ok, hm⟩ := h
  have c2 : w.cell? ⟨g, 2, none⟩ = some (.int .i64 s.err) := blk_cell hblk 2
  have z2 := blk_frozen hblk 2
  have BLK := Lib.hid hblk
  have HRD := Lib.hid hrd
  have PX := Lib.hid px
  have OK := Lib.hid ok
  by_cases he : s.err = 0
  · have hF : failS s x = ⟨s.xs, x⟩ := by unfold failS; rw [if_pos he]
    rw [hF]
    have E1 : (s.err == 0) = true := beq_iff_eq.2 he
    have E2 : (s.err != 0) = false := by rw [he]; rfl
    clear hF he hblk hrd px hb ok
    go_enter Try.func91, Try.ntmps91
    go_wp2
    go_end0
    exact ⟨rfl, ⟨f0, p, A, c, blk_set BLK.out 2 _, hg, hc, HRD.out, ⟨p0, p1, PX.out⟩, OK.out, hm⟩, HB.out.setCell hg _, (KeepBut.refl _ _ _).set_ 2 _⟩
  · have hF : failS s x = s := by unfold failS; rw [if_neg he]
    rw [hF]
    have E1 : (s.err == 0) = false := beq_eq_false_iff_ne.2 he
    have E2 : (s.err != 0) = true := bne_iff_ne.2 he
    clear hF he hblk hrd px hb ok
    go_enter Try.func91, Try.ntmps91
    go_wp2
    go_end0
    exact ⟨rfl, HI.out, HB.out, KeepBut.refl _ _ _⟩
set_option maxHeartbeats 400000 in
set_option maxRecDepth 100000 in
theorem cerr (w0 w : World) (g : Nat) (s : RS) (h : IsR w0 w g s) (hb : Below w0.heap.size w0 w) :
    Calls Try.prog 31 #[.pointer (some ⟨g, 0, none⟩)] w (RPost w0 w g (.int .i64 s.err) s) := by
  have HI := Lib.hid h
  have HB := Lib.hid hb
  have c2 := h.errCell
  clear h hb
  go_enter Try.func31, Try.ntmps31
  go_wp2
  go_ret
  exact ⟨rfl, HI.out, HB.out, KeepBut.refl _ _ _⟩
set_option maxHeartbeats 400000 in
set_option maxRecDepth 100000 in
theorem cbyte (w0 w : World) (g : Nat) (s : RS) (h : IsR w0 w g s) (hb : Below w0.heap.size w0 w) :
    Calls Try.prog 46 #[.pointer (some ⟨g, 0, none⟩)] w (RPost w0 w g (.int .u8 (byteS s).1) (byteS s).2) := by
  have HI := Lib.hid h
  have HB := Lib.hid hb
  obtain ⟨f0, p, A, c, hblk, hg, hc, hrd, ⟨p0, p1, px⟩, ok, hm⟩ := h
  by_cases hL : leftS s < 1
  · have hS : byteS s = (0, failS s 120) := by
      unfold byteS failS
      by_cases he : s.err = 0
      · rw [if_pos he, if_pos he]
        unfold leftS at hL
        rw [if_pos he] at hL
        have : s.xs = [] := List.eq_nil_of_length_eq_zero (by omega)
        rw [this]
      · rw [if_neg he, if_neg he]
    rw [hS]
    clear hS hblk hrd px hb ok
    go_enter Try.func46, Try.ntmps46
    go_wp2_with fail
    refine (cleft w0 w g s HI.out).mono ?_
    rintro e w1 ⟨rfl, d1⟩
    have D1 := Lib.hid d1
    clear d1
    go_wp2_with fail
    refine (cfail w0 w1 g s 120 (HI.out.drawn D1.out) (HB.out.trans (D1.out.below.mono HB.out.size))).mono ?_
    rintro e w2 ⟨rfl, i2, b2, k2⟩
    have I2 := Lib.hid i2
    have B2 := Lib.hid b2
    have K2 := Lib.hid (keep_trans (keep_drawn D1.out g) k2)
    clear i2 b2 k2
    go_wp2
    go_ret
    exact ⟨rfl, I2.out, B2.out, K2.out⟩
  · have he : s.err = 0 := leftS_pos (by omega)
    have hpl : p < f0.length := by
      unfold leftS at hL
      rw [if_pos he, px, List.length_drop] at hL
      omega
    have ha : Abs f0 p s := ⟨p0, p1, px⟩
    have hcons := abs_cons ha hpl
    have hS : byteS s = (f0.getD p.toNat 0, ⟨f0.drop (p.toNat + 1), 0⟩) := by
      unfold byteS
      rw [if_pos he, hcons]
    rw [hS]
    obtain ⟨ad, rfl, hcl⟩ := hrd.2.2 (by omega)
    have x0 := hcl 0 (by omega)
    obtain ⟨b, off, spot⟩ := ad
    obtain rfl : spot = none := by simpa [Addr.add] using World.cell?_spot x0
    have x1 := hcl p.toNat (by omega)
    have hbl : b < w0.heap.size := by
      have := World.block_lt_of_cell? _ _ x0
      simpa [Addr.add] using this
    rw [WideShapes.add_plain] at x1
    have HRD := Lib.hid hrd
    have OK := Lib.hid ok
    have HE := Lib.hid he
    obtain ⟨q, rfl⟩ := Int.eq_ofNat_of_zero_le p0
    rw [Int.toNat_natCast] at x1 ⊢
    obtain ⟨y, hy⟩ : ∃ y, y = f0.getD q 0 := ⟨_, rfl⟩
    rw [← hy] at x1 ⊢
    have BLK := Lib.hid hblk
    clear hS hcons hcl x0 hrd ok hb ha hblk he
    go_enter Try.func46, Try.ntmps46
    go_wp2_with fail
    refine (cleft w0 w g s HI.out).mono ?_
    rintro e w1 ⟨rfl, d1⟩
    have D1 := Lib.hid d1
    have BLK1 : Hid (w1.heap[g]? = some (.cells #[.slice (some ⟨b, off, none⟩) f0.length c, .int .i64 q, .int .i64 s.err] 123 (0, 0))) := Lib.hid (by rw [drawn_heap d1]; exact BLK.out)
    have HB1 := Lib.hid (HB.out.trans (d1.below.mono HB.out.size))
    clear d1
    have c0 : w1.cell? ⟨g, 0, none⟩ = some (.slice (some ⟨b, off, none⟩) f0.length c) := blk_cell BLK1.out 0
    have c1 : w1.cell? ⟨g, 1, none⟩ = some (.int .i64 q) := blk_cell BLK1.out 1
    have z1 := blk_frozen BLK1.out 1
    go_wp2
    obtain ⟨W, hW⟩ : ∃ W : World, W = w1.setCell ⟨g, 1, none⟩ (.int .i64 ((q : Int) + 1)) := ⟨_, rfl⟩
    have bW : W.heap[g]? = some (.cells #[.slice (some ⟨b, off, none⟩) f0.length c, .int .i64 ((q : Int) + 1), .int .i64 s.err] 123 (0, 0)) := by rw [hW]; exact blk_set BLK1.out 1 _
    have d0 : W.cell? ⟨g, 0, none⟩ = some (.slice (some ⟨b, off, none⟩) f0.length c) := blk_cell bW 0
    have d1 : W.cell? ⟨g, 1, none⟩ = some (.int .i64 ((q : Int) + 1)) := blk_cell bW 1
    have BB : Hid (Below w0.heap.size w0 W) := Lib.hid (by rw [hW]; exact HB1.out.setCell hg _)
    have KK : Hid (KeepBut w W g none) := Lib.hid (by rw [hW]; exact (keep_drawn D1.out g).set_ 1 _)
    have d2 : W.cell? ⟨b, off + q, none⟩ = some (.int .u8 y) := (BB.out.cell (p := ⟨b, off + q, none⟩) hbl).trans x1
    rw [← hW]
    have BW := Lib.hid bW
    have hs : IntKind.i64.wrap (q : Int) = q := by rw [IntKind.wrap_i64]; omega
    have hq0 : (0 : Int) ≤ q := by omega
    clear hW bW c0 c1 z1 x1
    go_quiet (fail)
    go_wp2
    go_ret
    refine ⟨by rw [hy, List.getD_eq_getElem?_getD]; rfl, ?_, pw_below_drewN BB.out _, KK.out⟩
    have hbw := BW.out
    rw [HE.out] at hbw
    exact ⟨f0, (q : Int) + 1, some ⟨b, off, none⟩, c, hbw, hg, hc, HRD.out, ⟨by omega, by omega, by simp only; congr 1⟩, OK.out, hm⟩
end Go.Proofs.Ytehdhmhpmkkneaa
/- Layer 12: the code's reader: the walk of Count. -/
namespace Go.Proofs.Ytehdhmhpmkkneaa
open Go.RowKit Go.Proofs.YtehdhmhpmkkneaaW.PrintWords Go.Proofs.YtehdhmhpmkkneaaW.PrintMore Go.Proofs.Ytehdhmhpmkkneaa.PAll
theorem countS_bad {m : Int} {s : RS} (h : s.err ≠ 0) : countS m s = (0, s) := by unfold countS; rw [if_neg h]
theorem byteS_bad {s : RS} (h : s.err ≠ 0) : byteS s = (0, s) := by unfold byteS; rw [if_neg h]
set_option maxHeartbeats 400000 in
set_option maxRecDepth 100000 in
theorem ccount_bad (w0 w : World) (g : Nat) (s : RS) (m : Int) (h : IsR w0 w g s) (hb : Below w0.heap.size w0 w) (he : s.err ≠ 0) :
    Calls Try.prog 40 #[.pointer (some ⟨g, 0, none⟩), .int .i64 m] w (RPost w0 w g (.int .i64 (countS m s).1) (countS m s).2) := by
  rw [countS_bad he]
  have HI := Lib.hid h
  have HB := Lib.hid hb
  have hby := cbyte w0 w g s h hb
  rw [byteS_bad he] at hby
  have HY := Lib.hid hby
  have E1 : (s.err == 0) = false := beq_eq_false_iff_ne.2 he
  have E2 : (s.err != 0) = true := bne_iff_ne.2 he
  clear h hb hby he
  go_enter Try.func40, Try.ntmps40
  go_wp2
  refine wp_loop_rounds 1 ?_
  rw [rounds_succ]
  go_wp2_with fail
  refine HY.out.mono ?_
  rintro e w1 ⟨rfl, i1, b1, k1⟩
  have c2 := i1.errCell
  have I1 := Lib.hid i1
  have B1 := Lib.hid b1
  have K1 := Lib.hid k1
  clear i1 b1 k1
  go_wp2
  go_ret
  exact ⟨rfl, I1.out, B1.out, K1.out⟩
theorem max2_mx (x : Int) : Builtin.max2 (.int .i64 x) (.int .i64 0) = pure (.int .i64 (mx x 0)) := by simp only [Builtin.max2, gt_iff_lt, mx]
theorem or7_walk (j : Nat) (hj : j ≤ 8) (n b : Int) (n0 : 0 ≤ n) (n1 : n < 2 ^ (7 * j)) (b0 : 0 ≤ b) (b1 : b ≤ 255) :
    bits .or .u64 n (IntKind.u64.wrap (IntKind.u64.wrap (bits .and .u8 b 127) * 2 ^ (7 * j))) = n + b % 128 * 2 ^ (7 * j) := by
  have h := (u64_or7 j hj n b n0 n1 b0 b1).1
  unfold shl at h
  rwa [Int.toNat_natCast, Nat.min_eq_left (by show 7 * j ≤ 64; omega)] at h
section
attribute [local go_sem] max2_mx max_two
set_option maxHeartbeats 1000000 in
set_option maxRecDepth 100000 in
theorem ccount_good (w0 w : World) (g : Nat) (s : RS) (m : Int) (hm1 : m ≤ 9223372036854775807) (h : IsR w0 w g s) (hb : Below w0.heap.size w0 w) (he : s.err = 0) :
    Calls Try.prog 40 #[.pointer (some ⟨g, 0, none⟩), .int .i64 m] w (RPost w0 w g (.int .i64 (countS m s).1) (countS m s).2) := by
  have HI := Lib.hid h
  have HB := Lib.hid hb
  have hC : countS m s = fin m (cntGo s.xs 0 0) := by unfold countS; rw [if_pos he]
  have HC := Lib.hid hC.symm
  have HE := Lib.hid he
  have e0 : s = ⟨s.xs, 0⟩ := by rw [← he]
  have I0 : Hid (IsR w0 w g ⟨s.xs, 0⟩) := Lib.hid (by rw [← e0]; exact h)
  clear e0
  generalize countS m s = q at *
  obtain ⟨qn, qs⟩ := q
  simp only
  have HM := Lib.hid hm1
  clear h hb hC he hm1
  go_enter Try.func40, Try.ntmps40
  go_wp2
  go_loopw [4, 5, 6, 7] (fun r4 r5 r6 _ wr => ∃ (j : Nat) (n : Int) (xs : List Int), r4 = .int .i64 0 ∧ r5 = .int .u64 n ∧ r6 = .int .i64 (7 * j : Nat) ∧ j ≤ 9 ∧ 0 ≤ n ∧ Hid (n < 2 ^ (7 * j)) ∧ Hid (IsR w0 wr g ⟨xs, 0⟩) ∧ Hid (Below w0.heap.size w0 wr) ∧ Hid (KeepBut w wr g none) ∧ Hid (fin m (cntGo xs j n) = (qn, qs)))
    (fun _ _ r6 _ _ => (70 - intOf r6).toNat)
  case atStart => exact ⟨0, 0, s.xs, rfl, rfl, rfl, by omega, by omega, Lib.hid (by simp), I0, HB, Lib.hid (KeepBut.refl _ _ _), HC⟩
  case round =>
    obtain ⟨j, n, xs, rfl, rfl, rfl, hj, hn0, HN, HR, HBr, HK, HF⟩ := hrel
    cases xs with
    | nil =>
      have hq : (0, (⟨[], 120⟩ : RS)) = (qn, qs) := HF.out
      injection hq with h1 h2
      subst h1 h2
      go_wp2_with fail
      refine (cbyte w0 wr g ⟨[], 0⟩ HR.out HBr.out).mono ?_
      rintro e w1 ⟨rfl, i1, b1, k1⟩
      have c2 : w1.cell? ⟨g, 2, none⟩ = some (.int .i64 120) := i1.errCell
      have I1 := Lib.hid i1
      have B1 := Lib.hid b1
      have K1 := Lib.hid k1
      clear i1 b1 k1
      go_wp2
      go_ret
      exact ⟨rfl, I1.out, B1.out, keep_trans HK.out K1.out⟩
    | cons b r =>
      have hbb := HR.out.bytes b (List.mem_cons_self ..)
      obtain ⟨b0, b1⟩ := hbb
      have C := cbyte w0 wr g ⟨b :: r, 0⟩ HR.out HBr.out
      have C' : Calls Try.prog 46 #[.pointer (some ⟨g, 0, none⟩)] wr (RPost w0 wr g (.int .u8 b) ⟨r, 0⟩) := C
      have HCY := Lib.hid C'
      clear C C'
      go_wp2_with fail
      refine HCY.out.mono ?_
      rintro e w1 ⟨rfl, i1, bw1, k1⟩
      have c2 : w1.cell? ⟨g, 2, none⟩ = some (.int .i64 0) := i1.errCell
      have I1 := Lib.hid i1
      have B1 := Lib.hid bw1
      have K1 := Lib.hid (keep_trans HK.out k1)
      clear i1 bw1 k1 HCY
      by_cases h9 : j = 9 ∨ (0 < j ∧ b = 0)
      · have hq : (0, (⟨r, 121⟩ : RS)) = (qn, qs) := by
          have h := HF.out
          rw [cntGo, if_pos h9] at h
          exact h
        injection hq with h1 h2
        subst h1 h2
        rcases h9 with h9 | ⟨h9, hb0⟩
        · subst h9
          go_wp2_with fail
          refine (cfail w0 w1 g ⟨r, 0⟩ 121 I1.out B1.out).mono ?_
          rintro e w2 ⟨rfl, i2, bw2, k2⟩
          have I2 : Hid (IsR w0 w2 g ⟨r, 121⟩) := Lib.hid i2
          have B2 := Lib.hid bw2
          have K2 := Lib.hid (keep_trans K1.out k2)
          clear i2 bw2 k2
          go_wp2
          go_ret
          exact ⟨rfl, I2.out, B2.out, K2.out⟩
        · by_cases hj9 : j = 9
          · subst hj9
            go_wp2_with fail
            refine (cfail w0 w1 g ⟨r, 0⟩ 121 I1.out B1.out).mono ?_
            rintro e w2 ⟨rfl, i2, bw2, k2⟩
            have I2 : Hid (IsR w0 w2 g ⟨r, 121⟩) := Lib.hid i2
            have B2 := Lib.hid bw2
            have K2 := Lib.hid (keep_trans K1.out k2)
            clear i2 bw2 k2
            go_wp2
            go_ret
            exact ⟨rfl, I2.out, B2.out, K2.out⟩
          · have hj8 : j ≤ 8 := by omega
            have BE : (b == 0) = true := by simp [hb0]
            clear hb0 hj9 hj
            go_wp2_with fail
            refine (cfail w0 w1 g ⟨r, 0⟩ 121 I1.out B1.out).mono ?_
            rintro e w2 ⟨rfl, i2, bw2, k2⟩
            have I2 : Hid (IsR w0 w2 g ⟨r, 121⟩) := Lib.hid i2
            have B2 := Lib.hid bw2
            have K2 := Lib.hid (keep_trans K1.out k2)
            clear i2 bw2 k2
            go_wp2
            go_ret
            exact ⟨rfl, I2.out, B2.out, K2.out⟩
      · have hj8 : j ≤ 8 := by omega
        have KV := or7_walk j hj8 n b hn0 HN.out b0 b1
        have hp0 : (0 : Int) < 2 ^ (7 * j) := by exact_mod_cast Nat.two_pow_pos _
        have hmul0 : 0 ≤ b % 128 * 2 ^ (7 * j) := Int.mul_nonneg (by omega) (Int.le_of_lt hp0)
        have hv := (u64_or7 j hj8 n b hn0 HN.out b0 b1).2
        have h63 : (2 : Int) ^ (7 * (j + 1)) ≤ 2 ^ 63 := by exact_mod_cast Nat.pow_le_pow_right (by decide) (by omega : 7 * (j + 1) ≤ 63)
        have v0 : 0 ≤ n + b % 128 * 2 ^ (7 * j) := by omega
        have v63 : n + b % 128 * 2 ^ (7 * j) ≤ 9223372036854775807 := by omega
        have VL := Lib.hid hv
        have HF2 : Hid (fin m (if b < 128 then (n + b % 128 * 2 ^ (7 * j), ⟨r, 0⟩) else cntGo r (j + 1) (n + b % 128 * 2 ^ (7 * j))) = (qn, qs)) := Lib.hid (by
          have h := HF.out
          rwa [cntGo, if_neg h9] at h)
        have BE : 0 < j → (b == 0) = false := fun h => beq_eq_false_iff_ne.2 (fun e => h9 (.inr ⟨h, e⟩))
        have h9' := Lib.hid h9
        clear hp0 hmul0 hv h63 HF h9
        generalize hvv : n + b % 128 * 2 ^ (7 * j) = v at *
        clear hvv
        by_cases hb128 : b < 128
        · have hq : fin m (v, ⟨r, 0⟩) = (qn, qs) := by have h := HF2.out; rwa [if_pos hb128] at h
          obtain ⟨M, hM⟩ : ∃ M, M = max m 0 := ⟨_, rfl⟩
          have KM : IntKind.u64.wrap (mx m 0) = M := by rw [mx_eq, hM]; exact wrapu64 _ (by omega) (by have := HM.out; omega)
          by_cases hvm : v > M
          · have hq2 : (0, (⟨r, 121⟩ : RS)) = (qn, qs) := by
              unfold fin at hq
              rw [if_pos rfl, ← hM, if_pos hvm] at hq
              exact hq
            injection hq2 with h1 h2
            subst h1 h2
            clear hq hM hj HF2
            by_cases hj0 : 0 < j
            · have BE' := BE hj0
              clear BE
              go_wp2_with fail
              refine (cfail w0 w1 g ⟨r, 0⟩ 121 I1.out B1.out).mono ?_
              rintro e w2 ⟨rfl, i2, bw2, k2⟩
              have I2 : Hid (IsR w0 w2 g ⟨r, 121⟩) := Lib.hid i2
              have B2 := Lib.hid bw2
              have K2 := Lib.hid (keep_trans K1.out k2)
              clear i2 bw2 k2
              go_wp2
              go_ret
              exact ⟨rfl, I2.out, B2.out, K2.out⟩
            · clear BE
              go_wp2_with fail
              refine (cfail w0 w1 g ⟨r, 0⟩ 121 I1.out B1.out).mono ?_
              rintro e w2 ⟨rfl, i2, bw2, k2⟩
              have I2 : Hid (IsR w0 w2 g ⟨r, 121⟩) := Lib.hid i2
              have B2 := Lib.hid bw2
              have K2 := Lib.hid (keep_trans K1.out k2)
              clear i2 bw2 k2
              go_wp2
              go_ret
              exact ⟨rfl, I2.out, B2.out, K2.out⟩
          · have hq2 : (v, (⟨r, 0⟩ : RS)) = (qn, qs) := by
              unfold fin at hq
              rw [if_pos rfl, ← hM, if_neg hvm] at hq
              exact hq
            injection hq2 with h1 h2
            subst h1 h2
            have hvm' : v ≤ M := by omega
            clear hq hM hj HF2 hvm
            by_cases hj0 : 0 < j
            · have BE' := BE hj0
              clear BE
              go_wp2
              go_ret
              exact ⟨rfl, I1.out, B1.out, K1.out⟩
            · clear BE
              go_wp2
              go_ret
              exact ⟨rfl, I1.out, B1.out, K1.out⟩
        · have HF3 : Hid (fin m (cntGo r (j + 1) v) = (qn, qs)) := Lib.hid (by have h := HF2.out; rwa [if_neg hb128] at h)
          clear HF2 hj
          by_cases hj0 : 0 < j
          · have BE' := BE hj0
            clear BE
            go_wp2
            go_roundw
            case rel => exact ⟨j + 1, v, r, rfl, rfl, by go_num, by omega, v0, VL, I1, B1, K1, HF3⟩
            case measure => simp [intOf]; omega
          · clear BE
            go_wp2
            go_roundw
            case rel => exact ⟨j + 1, v, r, rfl, rfl, by go_num, by omega, v0, VL, I1, B1, K1, HF3⟩
            case measure => simp [intOf]; omega
end
theorem ccount (w0 w : World) (g : Nat) (s : RS) (m : Int) (hm1 : m ≤ 9223372036854775807) (h : IsR w0 w g s) (hb : Below w0.heap.size w0 w) :
    Calls Try.prog 40 #[.pointer (some ⟨g, 0, none⟩), .int .i64 m] w (RPost w0 w g (.int .i64 (countS m s).1) (countS m s).2) := by
  by_cases he : s.err = 0
  · exact ccount_good w0 w g s m hm1 h hb he
  · exact ccount_bad w0 w g s m h hb he
end Go.Proofs.Ytehdhmhpmkkneaa
/- Layer 12: the walks of codec.Read and of the reader's Text, Number, Word, End. -/
namespace Go.Proofs.Ytehdhmhpmkkneaa
open Go.RowKit Go.Proofs.YtehdhmhpmkkneaaW.PrintWords Go.Proofs.Ytehdhmhpmkkneaa.PAll
def NewR (w : World) (xs : List Int) (e : Ending) (w' : World) : Prop :=
  ∃ w0 g, e = .returned (.pointer (some ⟨g, 0, none⟩)) ∧ IsR w0 w' g ⟨xs, 0⟩ ∧ Below w0.heap.size w0 w' ∧ Below w.heap.size w w0
set_option maxHeartbeats 400000 in
set_option maxRecDepth 100000 in
theorem cread (A : Option Addr) (n c : Nat) (xs : List Int) (w : World) (hr : ReadsInt w .u8 A n xs) (hok : AllB xs) (hl : xs.length ≤ 1000000000) :
    Calls Try.prog 28 #[.slice A n c] w (NewR w xs) := by
  obtain rfl := hr.1
  have HR := Lib.hid hr
  have OK := Lib.hid hok
  have HL := Lib.hid hl
  have HO := Lib.hid (own_lit w w.heap.size 5 .u8 [] (Nat.le_refl _) (by simp))
  clear hr hok hl
  go_enter Try.func28, Try.ntmps28
  go_wp2_with (at_builtin; go_must (refine print_append_row (w0 := w) w.heap.size rfl _ _ 24 5 .u8 1 rfl Try.underlying24 info5 (by decide) (.slice (some ⟨w.heap.size, 0, none⟩) 0 0) [] xs A xs.length c rfl rfl HO.out (HR.out.below ((Below.refl _ _).alloc (Nat.le_refl _) _)) ((Below.refl _ w).alloc (Nat.le_refl _) _) (by simp) (by have := HL.out; simp; omega) ?_; intro v1 w1 hown hbel hgrow hlie; obtain ⟨A1, n1, cap1, rfl⟩ := own_form hown; have H6 := Lib.hid hown; have H7 := Lib.hid hbel; clear hown hlie hgrow hbel))
  go_ret
  obtain ⟨A2, c2, e2, hrd⟩ := own_reads H6.out
  injection e2 with eA eN eC
  subst eA eC
  have hn : n1 = xs.length := by simpa using eN
  subst hn
  refine ⟨w1, w1.heap.size, rfl, ⟨xs, 0, A1, cap1, heap_alloc_new w1 _, Nat.le_refl _, by simpa using own_le H6.out, ?_, ⟨Int.le_refl _, by omega, by simp⟩, OK.out, by have := HL.out; omega⟩, (Below.refl _ _).alloc (Nat.le_refl _) _, H7.out⟩
  have h2 : ReadsInt w1 .u8 A1 ([] ++ xs).length ([] ++ xs) := hrd
  simpa only [List.nil_append] using h2
theorem info5' : ∃ i, Try.prog.info? 5 = some i ∧ i.size = 1 := by
  obtain ⟨i, hi, hzz⟩ := Option.map_eq_some_iff.1 info5
  simp only [Prod.mk.injEq] at hzz
  exact ⟨i, hi, hzz.2.1⟩
set_option maxHeartbeats 1000000 in
set_option maxRecDepth 100000 in
theorem ctext (w0 w : World) (g : Nat) (s : RS) (m : Int) (hm1 : m ≤ 9223372036854775807) (h : IsR w0 w g s) (hb : Below w0.heap.size w0 w) :
    Calls Try.prog 44 #[.pointer (some ⟨g, 0, none⟩), .int .i64 m] w (RPost w0 w g (.string (textS m s).1) (textS m s).2) := by
  have HI := Lib.hid h
  have HB := Lib.hid hb
  have hbd := countS_bd m s h.bytes
  have hce := countS_err m s
  have hcc := ccount w0 w g s m hm1 h hb
  have hT : textS m s = if (countS m s).2.err = 0 then (if (countS m s).1 > (countS m s).2.xs.length then (ByteArray.empty, ⟨(countS m s).2.xs, 120⟩) else (strOfNums ((countS m s).2.xs.take (countS m s).1.toNat), ⟨(countS m s).2.xs.drop (countS m s).1.toNat, 0⟩)) else (ByteArray.empty, (countS m s).2) := rfl
  generalize countS m s = q at *
  obtain ⟨n, t⟩ := q
  simp only at hbd hce hT hcc
  have HT := Lib.hid hT
  have HC := Lib.hid hcc
  obtain ⟨n0, _, n1⟩ := hbd
  clear h hb hT hcc
  by_cases he : t.err = 0
  · have hL : leftS t = t.xs.length := by unfold leftS; rw [if_pos he]
    have HL := Lib.hid hL
    have HE := Lib.hid he
    clear hce hL he
    by_cases hn : n > t.xs.length
    · have hT : textS m s = (ByteArray.empty, ⟨t.xs, 120⟩) := by rw [HT.out, if_pos HE.out, if_pos hn]
      rw [hT]
      clear hT
      go_enter Try.func44, Try.ntmps44
      go_wp2_with fail
      refine HC.out.mono ?_
      rintro e w1 ⟨rfl, i1, b1, k1⟩
      have I1 := Lib.hid i1
      have B1 := Lib.hid b1
      have K1 := Lib.hid k1
      clear i1 b1 k1
      go_wp2_with fail
      refine (cleft w0 w1 g t I1.out).mono ?_
      rintro e w2 ⟨rfl, d2⟩
      rw [HL.out]
      have i2 := I1.out.drawn d2
      have b2 := B1.out.trans (d2.below.mono B1.out.size)
      have k2 := keep_drawn d2 g
      clear d2
      have I2 := Lib.hid i2
      have B2 := Lib.hid b2
      have K2 := Lib.hid (keep_trans K1.out k2)
      clear i2 b2 k2
      go_wp2_with fail
      refine (cfail w0 w2 g t 120 I2.out B2.out).mono ?_
      rintro e w3 ⟨rfl, i3', b3, k3⟩
      have i3 : IsR w0 w3 g ⟨t.xs, 120⟩ := by
        have h := i3'
        unfold failS at h
        rwa [if_pos HE.out] at h
      have c2 : w3.cell? ⟨g, 2, none⟩ = some (.int .i64 120) := i3.errCell
      have I3 := Lib.hid i3
      have B3 := Lib.hid b3
      have K3 := Lib.hid (keep_trans K2.out k3)
      clear i3 i3' b3 k3
      go_wp2
      go_ret
      exact ⟨rfl, I3.out, B3.out, K3.out⟩
    · have hT : textS m s = (strOfNums (t.xs.take n.toNat), ⟨t.xs.drop n.toNat, 0⟩) := by rw [HT.out, if_pos HE.out, if_neg hn]
      rw [hT]
      clear hT
      have hn' : n ≤ t.xs.length := by omega
      clear hn
      go_enter Try.func44, Try.ntmps44
      go_wp2_with fail
      refine HC.out.mono ?_
      rintro e w1 ⟨rfl, i1, b1, k1⟩
      have I1 := Lib.hid i1
      have B1 := Lib.hid b1
      have K1 := Lib.hid k1
      clear i1 b1 k1
      go_wp2_with fail
      refine (cleft w0 w1 g t I1.out).mono ?_
      rintro e w2 ⟨rfl, d2⟩
      rw [HL.out]
      have i2 := I1.out.drawn d2
      have b2 := B1.out.trans (d2.below.mono B1.out.size)
      have k2 := keep_drawn d2 g
      clear d2
      have I2 := Lib.hid i2
      have B2 := Lib.hid b2
      have K2 := Lib.hid (keep_trans K1.out k2)
      obtain ⟨f0, p, A, c, hblk, hg, hle, hrd, ⟨p0, p1, px⟩, okf, hmf⟩ := i2
      rw [HE.out] at hblk
      have BLK := Lib.hid hblk
      have c0 : w2.cell? ⟨g, 0, none⟩ = some (.slice A f0.length c) := blk_cell hblk 0
      have c1 : w2.cell? ⟨g, 1, none⟩ = some (.int .i64 p) := blk_cell hblk 1
      have c2 : w2.cell? ⟨g, 2, none⟩ = some (.int .i64 0) := blk_cell hblk 2
      have z1 := blk_frozen hblk 1
      have hpn : p + n ≤ f0.length := by rw [px, List.length_drop] at hn'; omega
      have HMF := Lib.hid hmf
      have HCL := Lib.hid hle
      have OKF := Lib.hid okf
      have HPX := Lib.hid px
      have HRD := Lib.hid hrd
      have l63 : (f0.length : Int) ≤ 140737488351232 := by omega
      clear b2 k2 hblk hmf px hrd okf hle
      obtain ⟨A', hsl, hrd', _⟩ := print_mid_int (P := Try.prog) (k := .u8) 24 5 Try.underlying24 (i := info5'.choose) info5'.choose_spec.1 info5'.choose_spec.2 A c f0 p (p + n) p0 (by omega) (by omega) HCL.out
      obtain ⟨ys, Y⟩ : ∃ ys, Hid (ys = (f0.take (p + n).toNat).drop p.toNat) := ⟨_, Lib.hid rfl⟩
      rw [← Y.out] at hsl hrd'
      have R0 := Lib.hid (hrd' w0 HRD.out)
      clear hrd'
      generalize ys.length = L at hsl R0
      generalize c - p.toNat = CC at hsl
      go_wp2
      obtain ⟨W, hW⟩ : ∃ W : World, W = w2.setCell ⟨g, 1, none⟩ (.int .i64 (p + n)) := ⟨_, rfl⟩
      have bW : W.heap[g]? = some (.cells #[.slice A f0.length c, .int .i64 (p + n), .int .i64 0] 123 (0, 0)) := by rw [hW]; exact blk_set BLK.out 1 _
      have d0 : W.cell? ⟨g, 0, none⟩ = some (.slice A f0.length c) := blk_cell bW 0
      have d1 : W.cell? ⟨g, 1, none⟩ = some (.int .i64 (p + n)) := blk_cell bW 1
      have BB : Hid (Below w0.heap.size w0 W) := Lib.hid (by rw [hW]; exact B2.out.setCell hg _)
      have KK : Hid (KeepBut w W g none) := Lib.hid (by rw [hW]; exact K2.out.set_ 1 _)
      rw [← hW]
      have BW := Lib.hid bW
      have hconv : ∀ k, (convert 24 9 (.slice A' L CC)).run Try.prog (W.drewN k) = .ok (.string (strOfNums ys)) (W.drewN k) := fun k => string_of_reads Try.underlying24 Try.underlying5 Try.underlying9 (R0.out.below (pw_below_drewN BB.out k))
      have hs : IntKind.i64.wrap p = p := by rw [IntKind.wrap_i64]; omega
      clear hW bW c0 c1 c2 z1
      go_quiet (fail)
      go_wp2
      go_ret
      have ey : ys = t.xs.take n.toNat := by rw [Y.out, HPX.out, List.drop_take]; congr 1; omega
      refine ⟨by rw [← ey]; rfl, ?_, pw_below_drewN BB.out _, ?_⟩
      · refine ⟨f0, p + n, A, c, BW.out, hg, HCL.out, HRD.out, ⟨by omega, hpn, ?_⟩, OKF.out, HMF.out⟩
        simp only
        rw [HPX.out, List.drop_drop]
        congr 1
        omega
      · exact KK.out
  · have hL : leftS t = 0 := by unfold leftS; rw [if_neg he]
    have HL := Lib.hid hL
    have hn0 : n = 0 := hce he
    subst hn0
    have hT : textS m s = (ByteArray.empty, t) := by rw [HT.out, if_neg he]
    rw [hT]
    have HE : (t.err == 0) = false := beq_eq_false_iff_ne.2 he
    have HE2 : (t.err != 0) = true := bne_iff_ne.2 he
    clear hT hL hce he
    go_enter Try.func44, Try.ntmps44
    go_wp2_with fail
    refine HC.out.mono ?_
    rintro e w1 ⟨rfl, i1, b1, k1⟩
    have I1 := Lib.hid i1
    have B1 := Lib.hid b1
    have K1 := Lib.hid k1
    clear i1 b1 k1
    go_wp2_with fail
    refine (cleft w0 w1 g t I1.out).mono ?_
    rintro e w2 ⟨rfl, d2⟩
    rw [HL.out]
    have i2 := I1.out.drawn d2
    have b2 := B1.out.trans (d2.below.mono B1.out.size)
    have k2 := keep_drawn d2 g
    clear d2
    have c2 : w2.cell? ⟨g, 2, none⟩ = some (.int .i64 t.err) := i2.errCell
    have I2 := Lib.hid i2
    have B2 := Lib.hid b2
    have K2 := Lib.hid (keep_trans K1.out k2)
    clear i2 b2 k2
    go_wp2
    go_ret
    exact ⟨rfl, I2.out, B2.out, K2.out⟩
set_option maxHeartbeats 400000 in
set_option maxRecDepth 100000 in
theorem cend (w0 w : World) (g : Nat) (s : RS) (h : IsR w0 w g s) (hb : Below w0.heap.size w0 w) :
    Calls Try.prog 45 #[.pointer (some ⟨g, 0, none⟩)] w (RPost w0 w g (.int .i64 (endS s).err) (endS s)) := by
  have HI := Lib.hid h
  have HB := Lib.hid hb
  clear h hb
  by_cases hL : leftS s > 0
  · have hE : endS s = ⟨s.xs, 121⟩ := by unfold endS; rw [if_pos hL]
    have HE := Lib.hid (leftS_pos hL)
    rw [hE]
    clear hE
    go_enter Try.func45, Try.ntmps45
    go_wp2_with fail
    refine (cleft w0 w g s HI.out).mono ?_
    rintro e w1 ⟨rfl, d1⟩
    have D1 := Lib.hid d1
    clear d1
    go_wp2_with fail
    refine (cfail w0 w1 g s 121 (HI.out.drawn D1.out) (HB.out.trans (D1.out.below.mono HB.out.size))).mono ?_
    rintro e w2 ⟨rfl, i2', b2, k2⟩
    have i2 : IsR w0 w2 g ⟨s.xs, 121⟩ := by
      have h := i2'
      unfold failS at h
      rwa [if_pos HE.out] at h
    have c2 : w2.cell? ⟨g, 2, none⟩ = some (.int .i64 121) := i2.errCell
    have I2 := Lib.hid i2
    have B2 := Lib.hid b2
    have K2 := Lib.hid (keep_trans (keep_drawn D1.out g) k2)
    clear i2 i2' b2 k2
    go_wp2
    go_ret
    exact ⟨rfl, I2.out, B2.out, K2.out⟩
  · have hE : endS s = s := by unfold endS; rw [if_neg hL]
    rw [hE]
    clear hE
    go_enter Try.func45, Try.ntmps45
    go_wp2_with fail
    refine (cleft w0 w g s HI.out).mono ?_
    rintro e w1 ⟨rfl, d1⟩
    have D1 := Lib.hid d1
    have c2 : w1.cell? ⟨g, 2, none⟩ = some (.int .i64 s.err) := (HI.out.drawn d1).errCell
    clear d1
    go_wp2
    go_ret
    exact ⟨rfl, HI.out.drawn D1.out, HB.out.trans (D1.out.below.mono HB.out.size), keep_drawn D1.out g⟩
end Go.Proofs.Ytehdhmhpmkkneaa
/- The walk of the law's put: a piece is put at both. -/
namespace Go.Proofs.Ytehdhmhpmkkneaa
open Go.RowKit Go.Proofs.YtehdhmhpmkkneaaW.PrintWords
def piece (k n : Int) (s : ByteArray) : List Int :=
  if k = 0 then [n % 256] else if k = 1 then cnt n.toNat else if k = 2 then cnt (sgn (wrap32 n)) else if k = 3 then wrd (n % 4294967296) else if k = 4 then cnt s.size ++ bytesOf s else []
def Apart (v u : Value) : Prop := v.ownBlock = none ∨ v.ownBlock ≠ u.ownBlock
end Go.Proofs.Ytehdhmhpmkkneaa
/- The walk of the law's put, case by case. -/
namespace Go.Proofs.Ytehdhmhpmkkneaa
open Go.RowKit Go.Proofs.YtehdhmhpmkkneaaW.PrintWords
structure PutPre (B : Nat) (w : World) (g : Nat) (v u : Value) (xs ys : List Int) (n : Int) (s : ByteArray) : Prop where
  wr : Wr B w g v xs
  own : w.ownsRow B 5 1 u ys.length (nums .u8 ys)
  apart : Apart u v
  base : B ≤ w.heap.size
  xl : xs.length ≤ 100000000
  yl : ys.length ≤ 100000000
  n0 : -9223372036854775808 ≤ n
  n1 : n ≤ 9223372036854775807
  sl : s.size ≤ 1000
theorem PutPre.box {B : Nat} {w : World} {g : Nat} {v u : Value} {xs ys : List Int} {n : Int} {s : ByteArray} (h : PutPre B w g v u xs ys n s) (o : Obj) : PutPre B (w.alloc o) g v u xs ys n s :=
  ⟨h.wr.below ((Below.refl _ _).alloc (Nat.le_refl _) _), pw_own_below h.own ((Below.refl _ _).alloc (Nat.le_refl _) _), h.apart, by have := h.base; simp; omega, h.xl, h.yl, h.n0, h.n1, h.sl⟩
theorem w32 (n : Int) : -2147483648 ≤ wrap32 n ∧ wrap32 n ≤ 2147483647 := by unfold wrap32; omega
end Go.Proofs.Ytehdhmhpmkkneaa
/- The walk of the law CodecPuts. -/
namespace Go.Proofs.Ytehdhmhpmkkneaa
open Go.RowKit Go.Proofs.YtehdhmhpmkkneaaW.PrintWords
theorem Drawn0.wr {w w1 : World} (h : Drawn0 w w1) {B g : Nat} {v : Value} {xs : List Int} (hw : Wr B w g v xs) : Wr B w1 g v xs := hw.below h.below
end Go.Proofs.Ytehdhmhpmkkneaa
/- Layer 12: several readers and writers at once: what one call leaves of the others. -/
namespace Go.Proofs.Ytehdhmhpmkkneaa
open Go.RowKit Go.Proofs.YtehdhmhpmkkneaaW.PrintWords Go.Proofs.Ytehdhmhpmkkneaa.PAll
abbrev Stp (w w' : World) (x : Nat) : Prop := Mv w w' x (.slice none 0 0) (.slice none 0 0)
theorem Stp.of {w w' : World} {x : Nat} {v' : Value} (h : Mv w w' x (.slice none 0 0) v') : Stp w w' x :=
  ⟨h.os, h.tape, h.output, h.size, h.block, .inl rfl⟩
theorem Stp.low {w w' : World} {x B : Nat} (h : Stp w w' x) (hx : B ≤ x) (hB : B ≤ w.heap.size) : Below B w w' :=
  ⟨h.os, h.tape, h.output, h.size, fun i hi => h.block i (by omega) (by omega) (by simp [Value.ownBlock])⟩
theorem Stp.same {w w' : World} {x : Nat} (h : Stp w w' x) {i : Nat} (hi : i < w.heap.size) (hx : i ≠ x) : w'.heap[i]? = w.heap[i]? := h.block i hi hx (by simp [Value.ownBlock])
theorem Stp.below {w w' : World} {x : Nat} (h : Below w.heap.size w w') : Stp w w' x := Mv.of_below h x _
def Hd (W : World) (x : Nat) : Prop := (∃ v, W.heap[x]? = some (.cells #[v] 26 (0, 0)) ∧ ∀ n, v ≠ .int .u8 n) ∨ ∃ v m n, W.heap[x]? = some (.cells #[v, .int .i64 m, .int .i64 n] 123 (0, 0)) ∧ ∀ n, v ≠ .int .u8 n
theorem Hd.not {W : World} {x : Nat} (h : Hd W x) {j : Nat} {n : Int} (hc : W.cell? ⟨x, j, none⟩ = some (.int .u8 n)) : False := by
  rcases h with ⟨v, hb, hv⟩ | ⟨v, m, q, hb, hv⟩
  · have := blk_cell hb j
    rw [hc] at this
    match j, this with
    | 0, this => injection this with this; exact hv n this.symm
    | j + 1, this => simp at this
  · have := blk_cell hb j
    rw [hc] at this
    match j, this with
    | 0, this => injection this with this; exact hv n this.symm
    | 1, this => simp at this
    | 2, this => simp at this
    | j + 3, this => simp at this
def RD (W : World) (g : Nat) (s : RS) : Prop := ∃ w0, IsR w0 W g s ∧ Below w0.heap.size w0 W
theorem RD.lt {W : World} {g : Nat} {s : RS} (h : RD W g s) : g < W.heap.size := by
  obtain ⟨_, ⟨_, _, _, _, hb, _⟩, _⟩ := h
  exact blk_lt hb
theorem RD.bytes {W : World} {g : Nat} {s : RS} (h : RD W g s) : AllB s.xs := by obtain ⟨_, h, _⟩ := h; exact h.bytes
theorem RD.step {W W' : World} {g x : Nat} {s : RS} (h : RD W g s) (hs : Stp W W' x) (hx : x ≠ g) (hd : Hd W x) : RD W' g s := by
  obtain ⟨w0, ⟨f0, p, A, c, hb, hg, hc, hr, ha, ok, hl⟩, hB⟩ := h
  have hlt := blk_lt hb
  have hsz : (({ W' with heap := W'.heap.extract 0 g } : World)).heap.size = g := by
    show (W'.heap.extract 0 g).size = g
    have := hs.size
    simp; omega
  have hbel : Below g ({ W' with heap := W'.heap.extract 0 g } : World) W' := by
    refine ⟨rfl, rfl, rfl, ?_, fun i hi => ?_⟩
    · rw [hsz]; have := hs.size; omega
    · show W'.heap[i]? = (W'.heap.extract 0 g)[i]?
      have := hs.size
      rw [Array.getElem?_extract]
      simp; omega
  refine ⟨{ W' with heap := W'.heap.extract 0 g }, ⟨f0, p, A, c, (hs.same hlt (Ne.symm hx)).trans hb, by rw [hsz]; exact Nat.le_refl _, hc, ⟨hr.1, hr.2.1, fun h0 => ?_⟩, ha, ok, hl⟩, by rw [hsz]; exact hbel⟩
  obtain ⟨ad, e, hcl⟩ := hr.2.2 h0
  refine ⟨ad, e, fun j hj => ?_⟩
  have x0 := hcl j hj
  have hbl : (ad.add j).block < w0.heap.size := World.block_lt_of_cell? _ _ x0
  have x1 := (hB.cell hbl).trans x0
  have e1 := hbel.cell (p := ad.add j) (by omega)
  rw [← e1, ← x1]
  have hsp : (ad.add j).spot = none := World.cell?_spot x0
  have hne : (ad.add j).block ≠ x := by
    intro e2
    refine hd.not (j := (ad.add j).off) (n := f0.getD j 0) ?_
    rw [← x1, ← e2, ← hsp]
  have hlt2 : (ad.add j).block < W.heap.size := World.block_lt_of_cell? _ _ x1
  exact World.cell?_of_block (w := W) (hs.same hlt2 hne)
theorem RD.call {W : World} {g : Nat} {s : RS} {i : Nat} {args : Array Value} {v : Value} {s' : RS} (h : RD W g s)
    (hc : ∀ w0, IsR w0 W g s → Below w0.heap.size w0 W → Calls Try.prog i args W (RPost w0 W g v s')) :
    Calls Try.prog i args W fun e W' => e = .returned v ∧ RD W' g s' ∧ Stp W W' g := by
  obtain ⟨w0, hi, hB⟩ := h
  refine (hc w0 hi hB).mono ?_
  rintro e W' ⟨rfl, i1, b1, k1⟩
  exact ⟨rfl, ⟨w0, i1, b1⟩, b1.os.trans hB.os.symm, b1.tape.trans hB.tape.symm, b1.output.trans hB.output.symm, k1.1, fun i hi hx _ => k1.2 i hi hx (by simp), .inl rfl⟩
def Wn (S : Nat) (W : World) (h : Nat) (xs : List Int) : Prop := ∃ v, Wr 0 W h v xs ∧ (v.ownBlock = none ∨ ∃ b, v.ownBlock = some b ∧ S ≤ b)
theorem Wn.step {S : Nat} {W W' : World} {h x : Nat} {xs : List Int} (k : Wn S W h xs) (hs : Stp W W' x) (hx : x ≠ h) (hS : x < S) : Wn S W' h xs := by
  obtain ⟨v, ⟨hb, h0, ho⟩, hv⟩ := k
  have hk : KeepBut W W' x none := ⟨hs.size, fun i hi hx _ => hs.same hi hx⟩
  refine ⟨v, ⟨(hs.same (blk_lt hb) (Ne.symm hx)).trans hb, h0, hk.own ho ?_ ?_⟩, hv⟩
  · rcases hv with e | ⟨b, e, hb⟩
    · rw [e]; simp
    · rw [e]; intro e2; injection e2; omega
  · rcases hv with e | ⟨b, e, hb⟩
    · exact .inl e
    · right; rw [e]; simp
theorem Wn.call {W : World} {h : Nat} {i : Nat} {args : Array Value} {ys : List Int}
    (hc : Calls Try.prog i args W fun e w' => e = .returned (.tuple #[]) ∧ ∃ v', Wr 0 w' h v' ([] ++ ys) ∧ Mv W w' h (.slice none 0 0) v') :
    Calls Try.prog i args W fun e W' => e = .returned (.tuple #[]) ∧ Wn W.heap.size W' h ys ∧ Stp W W' h := by
  refine hc.mono ?_
  rintro e W' ⟨rfl, v', h1, m1⟩
  refine ⟨rfl, ⟨v', h1, ?_⟩, Stp.of m1⟩
  rcases m1.lies with e | e
  · exact .inl (by rw [e]; rfl)
  · exact .inr e
end Go.Proofs.Ytehdhmhpmkkneaa
/- Layer 12: the walk of the reader's Word. -/
namespace Go.Proofs.Ytehdhmhpmkkneaa
open Go.RowKit Go.Proofs.YtehdhmhpmkkneaaW.PrintWords Go.Proofs.Ytehdhmhpmkkneaa.PAll
end Go.Proofs.Ytehdhmhpmkkneaa
/- Layer 12: bytes that are taken whole are the bytes that the writer would put. -/
namespace Go.Proofs.Ytehdhmhpmkkneaa
open Go.RowKit Go.Proofs.YtehdhmhpmkkneaaW.PrintWords Go.Proofs.Ytehdhmhpmkkneaa.PAll
end Go.Proofs.Ytehdhmhpmkkneaa
/- Layer 12: a new reader; steps behind calls that change nothing. -/
namespace Go.Proofs.Ytehdhmhpmkkneaa
open Go.RowKit Go.Proofs.YtehdhmhpmkkneaaW.PrintWords Go.Proofs.Ytehdhmhpmkkneaa.PAll
end Go.Proofs.Ytehdhmhpmkkneaa
