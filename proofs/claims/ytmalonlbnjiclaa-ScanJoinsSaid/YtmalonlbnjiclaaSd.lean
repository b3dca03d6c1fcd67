/- What the scanner's functions answer, in plain words: names, keys, marks, one sign, the next sign. No condition beside the text's size. -/
import Derived.Test.YtmalonlbnjiclaaSc
namespace Go.Proofs.Ytmalonlbnjiclaa.Pure
open Go.RowKit Go.Proofs.Ytmalonlbnjiclaa.PAll Go.Proofs.YtmalonlbnjiclaaW.PrintWords Go.Proofs.YtmalonlbnjiclaaW.PrintLast
set_option linter.unusedVariables false
set_option linter.unusedSimpArgs false

/-! ### keys -/
def keysL : List ByteArray := (scan_keys.f).getD []
theorem keysE : scan_keys.f = some keysL := rfl
theorem keysN : keysL.length = 36 := rfl
def keyW (w : ByteArray) : Bool := keysL.any fun z => decide (z.toList = w.toList)
theorem rdOf_at (xs : List ByteArray) (i : Nat) (h : i < xs.length) : rdOf ByteArray.empty xs (i : Int) = xs[i] := by
  unfold rdOf
  rw [Int.toNat_natCast]
  simp [List.getD, h]
theorem key_loop (w : ByteArray) (xs : List ByteArray) (hx : xs.length ≤ 100) : ∀ d i, xs.length - i = d → i ≤ xs.length →
    Ev (fun k => scan_IsKey.l0 k w xs (xs.length : Int) (i : Int)) ((xs.drop i).any fun z => decide (z.toList = w.toList)) := by
  intro d
  induction d using Nat.strongRecOn with
  | _ d ih =>
    intro i hd hi
    by_cases hlt : i < xs.length
    · rw [List.drop_eq_getElem_cons hlt, List.any_cons]
      obtain ⟨K, hK⟩ := ih (xs.length - (i + 1)) (by omega) (i + 1) rfl (by omega)
      refine ⟨K + 1, fun k hk => ?_⟩
      obtain ⟨m, rfl⟩ : ∃ m, k = m + 1 := ⟨k - 1, by omega⟩
      have h2 := hK m (by omega)
      dsimp only at h2
      simp only [scan_IsKey.l0]
      rw [if_pos (by omega), if_pos (by omega), if_pos (by omega), rdOf_at xs i hlt, wsuc1 i (by omega)]
      by_cases he : xs[i].toList = w.toList
      · rw [if_pos he, decide_eq_true he, Bool.true_or]
      · rw [if_neg he, decide_eq_false he, Bool.false_or]
        exact h2
    · rw [List.drop_eq_nil_of_le (by omega)]
      refine ⟨1, fun k hk => ?_⟩
      obtain ⟨m, rfl⟩ : ∃ m, k = m + 1 := ⟨k - 1, by omega⟩
      simp only [scan_IsKey.l0]
      rw [if_neg (by omega)]
      rfl
theorem key_ev (w : ByteArray) : Ev (fun k => scan_IsKey.f k w) (keyW w) := by
  obtain ⟨K, hK⟩ := key_loop w keysL (by rw [keysN]; omega) _ 0 rfl (by omega)
  refine ⟨K, fun k hk => ?_⟩
  have := hK k hk
  simp only [scan_IsKey.f, keysE, Option.bind_some]
  exact this

/-! ### names -/
theorem name_ev (s : ByteArray) (hs : s.size ≤ 140737488351232) (st : Nat) : ∀ d p, s.size - p = d → p ≤ s.size → st ≤ p →
    Ev (fun k => scan_Scanner_name.l0 k (st : Int) s (p : Int)) (if runE isAl s p - st > 32 then (0, 0, 140, s, ((runE isAl s p : Nat) : Int)) else if keyW (s.extract st (runE isAl s p)) = true then (5, 0, 0, s, ((runE isAl s p : Nat) : Int)) else (1, 0, 0, s, ((runE isAl s p : Nat) : Int))) := by
  intro d
  induction d using Nat.strongRecOn with
  | _ d ih =>
    intro p hd hp hst
    have e0 := peek0 s p (by omega)
    by_cases hc : isAl (bt s (p : Int)) = true
    · have hlt := in_of (f := isAl) rfl hc
      rw [runE_t rfl hc]
      obtain ⟨K, hK⟩ := ih (s.size - (p + 1)) (by omega) (p + 1) rfl (by omega) (by omega)
      refine ⟨K + 1, fun k hk => ?_⟩
      obtain ⟨m, rfl⟩ : ∃ m, k = m + 1 := ⟨k - 1, by omega⟩
      have h2 := hK m (by omega)
      dsimp only at h2
      by_cases hl : isLet (bt s (p : Int)) = true
      · simp only [scan_Scanner_name.l0, e0, Option.bind_some, letT, hl, if_true]
        rw [wsuc1 p (by omega)]
        exact h2
      · have hl := Bool.eq_false_iff.mpr hl
        have hg : isDig (bt s (p : Int)) = true := by unfold isAl at hc; rw [hl, Bool.false_or] at hc; exact hc
        simp only [scan_Scanner_name.l0, e0, Option.bind_some, letT, hl]
        rw [if_neg (by decide)]
        simp only [digT, hg, Option.bind_some, if_true]
        rw [wsuc1 p (by omega)]
        exact h2
    · have hc := Bool.eq_false_iff.mpr hc
      rw [runE_f hc]
      have hl : isLet (bt s (p : Int)) = false := by unfold isAl at hc; exact (Bool.or_eq_false_iff.mp hc).1
      have hg : isDig (bt s (p : Int)) = false := by unfold isAl at hc; exact (Bool.or_eq_false_iff.mp hc).2
      obtain ⟨K, hK⟩ := key_ev (s.extract st p)
      refine ⟨K + 1, fun k hk => ?_⟩
      obtain ⟨m, rfl⟩ : ∃ m, k = m + 1 := ⟨k - 1, by omega⟩
      have h2 := hK m (by omega)
      dsimp only at h2
      simp only [scan_Scanner_name.l0, e0, Option.bind_some, letT, hl]
      rw [if_neg (by decide)]
      simp only [digT, hg, Option.bind_some]
      rw [if_neg (by decide), w64 _ (by omega) (by omega)]
      by_cases h3 : p - st > 32
      · rw [if_pos (by omega), if_pos h3]
      · rw [if_neg (by omega), if_neg h3, if_pos (by omega), if_pos (by omega), if_pos (by omega), Int.toNat_natCast, Int.toNat_natCast, h2, Option.bind_some]
        split <;> rfl

/-! ### marks -/
def markL : List Int := [43, 45, 42, 61, 35, 60, 62, 40, 41, 91, 93, 46, 44, 59, 58, 94, 124]
def markB : ByteArray := ⟨#[43, 45, 42, 61, 35, 60, 62, 40, 41, 91, 93, 46, 44, 59, 58, 94, 124]⟩
theorem mark_at : ∀ i : Fin 17, bt markB ((i : Nat) : Int) = markL[i.val]'(i.isLt) := by decide
def isMk (c : Int) : Bool := markL.any fun z => decide (z = c)
theorem mark_loop (s : ByteArray) (p c : Int) : ∀ (d i : Nat), 17 - i = d → i ≤ 17 →
    Ev (fun k => scan_Scanner_mark.l0 k c (i : Int) s p) (if (markL.drop i).any (fun z => decide (z = c)) = true then (6, 0, 0, s, p) else (0, 0, 83, s, p)) := by
  intro d
  induction d using Nat.strongRecOn with
  | _ d ih =>
    intro i hd hi
    by_cases hlt : i < 17
    · have hlt' : i < markL.length := hlt
      rw [List.drop_eq_getElem_cons hlt', List.any_cons]
      obtain ⟨K, hK⟩ := ih (17 - (i + 1)) (by omega) (i + 1) rfl (by omega)
      refine ⟨K + 1, fun k hk => ?_⟩
      obtain ⟨m, rfl⟩ : ∃ m, k = m + 1 := ⟨k - 1, by omega⟩
      have h2 := hK m (by omega)
      dsimp only at h2
      simp only [scan_Scanner_mark.l0]
      have hb : bt (⟨#[43, 45, 42, 61, 35, 60, 62, 40, 41, 91, 93, 46, 44, 59, 58, 94, 124]⟩ : ByteArray) (i : Int) = markL[i]'hlt' := mark_at ⟨i, hlt⟩
      rw [if_pos (by omega), if_pos (by omega), hb, wsuc1 i (by omega)]
      by_cases he : markL[i]'hlt' = c
      · rw [if_pos he, decide_eq_true he, Bool.true_or, if_pos rfl]
      · rw [if_neg he, decide_eq_false he, Bool.false_or]
        exact h2
    · rw [List.drop_eq_nil_of_le (show markL.length ≤ i by have : markL.length = 17 := rfl; omega)]
      refine ⟨1, fun k hk => ?_⟩
      obtain ⟨m, rfl⟩ : ∃ m, k = m + 1 := ⟨k - 1, by omega⟩
      simp only [scan_Scanner_mark.l0]
      rw [if_neg (by omega), List.any_nil, if_neg (by decide)]
theorem mark_j (s : ByteArray) (p c : Int) : Ev (fun k => scan_Scanner_mark.j0 k c s p) (if isMk c = true then (6, 0, 0, s, p) else (0, 0, 83, s, p)) := by
  obtain ⟨K, hK⟩ := mark_loop s p c _ 0 rfl (by omega)
  refine ⟨K + 1, fun k hk => ?_⟩
  obtain ⟨m, rfl⟩ : ∃ m, k = m + 1 := ⟨k - 1, by omega⟩
  exact hK m (by omega)
/-- Two bytes that are one mark. -/
def twoMk (c d : Int) : Bool := decide ((c = 58 ∨ c = 60 ∨ c = 62) ∧ d = 61)
theorem mark_ev (s : ByteArray) (hs : s.size ≤ 140737488351232) (p : Nat) (hp : p < s.size) : Ev (fun k => scan_Scanner_mark.f k s (p : Int))
    (if twoMk (bt s (p : Int)) (bt s ((p : Int) + 1)) = true then (6, 0, 0, s, ((p + 2 : Nat) : Int)) else if isMk (bt s (p : Int)) = true then (6, 0, 0, s, ((p + 1 : Nat) : Int)) else (0, 0, 83, s, ((p + 1 : Nat) : Int))) := by
  have e0 := peek0 s p (by omega)
  have e1 := peek1 s p (by omega)
  obtain ⟨c, hc⟩ : ∃ c, bt s (p : Int) = c := ⟨_, rfl⟩
  obtain ⟨d, hd⟩ : ∃ d, bt s ((p : Int) + 1) = d := ⟨_, rfl⟩
  rw [hc] at e0; rw [hd] at e1; rw [hc, hd]
  obtain ⟨K, hK⟩ := mark_j s ((p + 1 : Nat) : Int) c
  refine ⟨K + 1, fun k hk => ?_⟩
  have h2 := hK k (by omega); dsimp only at h2
  have w1 : wrap64 ((p : Int) + 1) = ((p + 1 : Nat) : Int) := wsuc1 p (by omega)
  have w2 : wrap64 (((p + 1 : Nat) : Int) + 1) = ((p + 2 : Nat) : Int) := by rw [w64 _ (by omega) (by omega)]; omega
  obtain ⟨q1, hq1⟩ : ∃ q : Int, ((p + 1 : Nat) : Int) = q := ⟨_, rfl⟩
  obtain ⟨q2, hq2⟩ : ∃ q : Int, ((p + 2 : Nat) : Int) = q := ⟨_, rfl⟩
  rw [hq1] at w1 w2 h2
  rw [hq2] at w2
  rw [hq1, hq2]
  show scan_Scanner_mark.f k s (p : Int) = _
  unfold scan_Scanner_mark.f
  rw [e0, Option.bind_some]
  dsimp only
  rw [e1, Option.bind_some]
  dsimp only
  rw [w1, w2]
  by_cases h61 : d = 61
  · by_cases h : c = 58 ∨ c = 60 ∨ c = 62
    · rw [if_pos (show twoMk c d = true by simp only [twoMk, decide_eq_true_eq]; exact ⟨h, h61⟩)]
      rcases h with h | h | h
      · rw [if_pos h, if_pos h61]
      · rw [if_neg (by omega), if_pos h, if_pos h61]
      · rw [if_neg (by omega), if_neg (by omega), if_pos h, if_pos h61]
    · rw [if_neg (show ¬ twoMk c d = true by simp only [twoMk, decide_eq_true_eq]; exact fun q => h q.1), if_neg (by omega), if_neg (by omega), if_neg (by omega)]
      exact h2
  · rw [if_neg (show ¬ twoMk c d = true by simp only [twoMk, decide_eq_true_eq]; exact fun q => h61 q.2)]
    simp only [if_neg h61, h2, ite_self]

/-! ### one sign -/
structure One where
  kind : Int
  n : Int
  e : Int
  to_ : Nat
/-- What begins at a place. -/
def oneS (s : ByteArray) (p : Nat) : One :=
  if isLet (bt s (p : Int)) = true then
    (if runE isAl s p - p > 32 then ⟨0, 0, 140, runE isAl s p⟩ else if keyW (s.extract p (runE isAl s p)) = true then ⟨5, 0, 0, runE isAl s p⟩ else ⟨1, 0, 0, runE isAl s p⟩)
  else if isDig (bt s (p : Int)) = true then
    (if runA isDig numG s p 0 > 2147483647 then ⟨0, 0, 80, runE isDig s p⟩ else ⟨2, wrap32 (runA isDig numG s p 0), 0, runE isDig s p⟩)
  else if bt s (p : Int) = 36 then
    (if runE isHx s (p + 1) = p + 1 ∨ runE isHx s (p + 1) > p + 1 + 8 then ⟨0, 0, 80, runE isHx s (p + 1)⟩ else ⟨2, wrap32 (runA isHx hexG s (p + 1) 0), 0, runE isHx s (p + 1)⟩)
  else if bt s (p : Int) = 39 then
    (if isPl (bt s ((p : Int) + 1)) = true ∧ bt s ((p : Int) + 2) = 39 then ⟨3, wrap32 (bt s ((p : Int) + 1)), 0, p + 3⟩ else ⟨0, 0, 82, p + 1⟩)
  else if bt s (p : Int) = 34 then
    (if bt s ((runE inTx s (p + 1) : Nat) : Int) = 34 then ⟨4, 0, 0, runE inTx s (p + 1) + 1⟩ else ⟨0, 0, 82, runE inTx s (p + 1)⟩)
  else if twoMk (bt s (p : Int)) (bt s ((p : Int) + 1)) = true then ⟨6, 0, 0, p + 2⟩
  else if isMk (bt s (p : Int)) = true then ⟨6, 0, 0, p + 1⟩ else ⟨0, 0, 83, p + 1⟩
theorem one_ev (s : ByteArray) (hs : s.size ≤ 140737488351232) (p : Nat) (hp : p < s.size) : Ev (fun k => scan_Scanner_one.f k s (p : Int))
    ((oneS s p).kind, (oneS s p).n, (oneS s p).e, s, (((oneS s p).to_ : Nat) : Int)) := by
  have e0 := peek0 s p (by omega)
  have e1 := peek1 s p (by omega)
  have e2 := peekT s p 2 (by omega)
  rw [show ((p : Int) + ((2 : Nat) : Int)) = (p : Int) + 2 by omega, show (((2 : Nat) : Int)) = 2 by omega] at e2
  unfold oneS
  by_cases hl : isLet (bt s (p : Int)) = true
  · rw [if_pos hl]
    obtain ⟨K, hK⟩ := name_ev s hs p _ p rfl (by omega) (Nat.le_refl _)
    refine ⟨K, fun k hk => ?_⟩
    have h2 := hK k hk; dsimp only at h2
    simp only [scan_Scanner_one.f, e0, Option.bind_some, letT, hl, if_true, scan_Scanner_name.f, h2]
    repeat' split
    all_goals rfl
  · rw [if_neg hl]
    have hl := Bool.eq_false_iff.mpr hl
    by_cases hg : isDig (bt s (p : Int)) = true
    · rw [if_pos hg]
      obtain ⟨K, hK⟩ := num_ev s hs _ p 0 rfl (by omega) (by omega) (by omega)
      refine ⟨K, fun k hk => ?_⟩
      have h2 := hK k hk; dsimp only at h2
      simp only [scan_Scanner_one.f, e0, Option.bind_some, letT, hl, digT, hg, scan_Scanner_number.f, h2, Bool.false_eq_true, if_false, if_true]
      repeat' split
      all_goals rfl
    · rw [if_neg hg]
      have hg := Bool.eq_false_iff.mpr hg
      by_cases h36 : bt s (p : Int) = 36
      · rw [if_pos h36]
        obtain ⟨K, hK⟩ := hex_ev s hs (p + 1) _ (p + 1) 0 rfl (by omega) (by omega) (by omega)
        refine ⟨K, fun k hk => ?_⟩
        have h2 := hK k hk; dsimp only at h2
        rw [Int.sub_self] at h2
        simp only [scan_Scanner_one.f, e0, Option.bind_some, letT, hl, digT, hg, Bool.false_eq_true, if_false]
        rw [if_pos h36, scan_Scanner_hex.f, wsuc1 p (by omega), h2]
        split <;> rfl
      · rw [if_neg h36]
        by_cases h39 : bt s (p : Int) = 39
        · rw [if_pos h39]
          refine ⟨0, fun k hk => ?_⟩
          simp only [scan_Scanner_one.f, e0, Option.bind_some, letT, hl, digT, hg, Bool.false_eq_true, if_false]
          rw [if_neg h36, if_pos h39]
          simp only [scan_Scanner_sign.f, e1, e2, Option.bind_some, plT, wsuc1 p (by omega), wsuc3 p (by omega)]
          by_cases hpl : isPl (bt s ((p : Int) + 1)) = true
          · rw [if_pos hpl]
            by_cases h3 : bt s ((p : Int) + 2) = 39
            · rw [if_pos h3, if_pos ⟨hpl, h3⟩]
              rfl
            · rw [if_neg h3, if_neg (fun q => h3 q.2)]
              rfl
          · rw [if_neg hpl, if_neg (fun q => hpl q.1)]
            rfl
        · rw [if_neg h39]
          by_cases h34 : bt s (p : Int) = 34
          · rw [if_pos h34]
            obtain ⟨K, hK⟩ := text_ev s hs _ (p + 1) rfl (by omega)
            refine ⟨K, fun k hk => ?_⟩
            have h2 := hK k hk; dsimp only at h2
            simp only [scan_Scanner_one.f, e0, Option.bind_some, letT, hl, digT, hg, Bool.false_eq_true, if_false]
            rw [if_neg h36, if_neg h39, if_pos h34, scan_Scanner_text.f, wsuc1 p (by omega), h2]
            split <;> rfl
          · rw [if_neg h34]
            obtain ⟨K, hK⟩ := mark_ev s hs p hp
            refine ⟨K, fun k hk => ?_⟩
            have h2 := hK k hk; dsimp only at h2
            simp only [scan_Scanner_one.f, e0, Option.bind_some, letT, hl, digT, hg, Bool.false_eq_true, if_false]
            rw [if_neg h36, if_neg h39, if_neg h34, h2]
            repeat' split
            all_goals rfl
end Go.Proofs.Ytmalonlbnjiclaa.Pure
