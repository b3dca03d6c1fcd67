/- What the document's Next and All answer, in plain words: the scanner's. No condition beside the text's size. -/
import Derived.Test.YtmalonlbnjiclaaCSh
import Derived.Test.YtmalonlbnjiclaaCPAllx17
namespace Go.Proofs.Ytmalonlbnjiclaa.Pure
open Go.RowKit Go.Proofs.Ytmalonlbnjiclaa.PAll Go.Proofs.YtmalonlbnjiclaaW.PrintWords Go.Proofs.YtmalonlbnjiclaaW.PrintLast
set_option linter.unusedVariables false
set_option linter.unusedSimpArgs false
abbrev R6 := Int × Int × Int × ByteArray × Int × Int
/-! ### names -/
def nameEnd (s : ByteArray) (f q : Nat) : R6 :=
  if q - f > 32 then (7, (f : Int), (q : Int), ⟨#[]⟩, 0, 140) else if keyW (s.extract f q) = true then (5, (f : Int), (q : Int), s.extract f q, 0, 0) else (1, (f : Int), (q : Int), s.extract f q, 0, 0)
theorem name_end (s : ByteArray) (hs : s.size ≤ 140737488351232) (f p : Nat) (hp : p ≤ s.size) (hf : f ≤ p) : Ev (fun k => pascalineref08_Next.j1 k s (f : Int) (p : Int)) (nameEnd s f p) := by
  obtain ⟨K, hK⟩ := rkey_ev (s.extract f p)
  refine ⟨K + 1, fun k hk => ?_⟩
  obtain ⟨m, rfl⟩ : ∃ m, k = m + 1 := ⟨k - 1, by omega⟩
  have h2 := hK m (by omega)
  dsimp only at h2
  dsimp only
  rw [pascalineref08_Next.j1, w64 _ (by omega) (by omega)]
  unfold nameEnd
  by_cases h3 : p - f > 32
  · rw [if_pos (by omega), if_pos h3]
    rfl
  · rw [if_neg (by omega), if_pos (by omega), if_pos (by omega), if_pos (by omega), Int.toNat_natCast, Int.toNat_natCast, h2, Option.bind_some, if_neg h3]
    split <;> rfl
theorem rname_ev (s : ByteArray) (hs : s.size ≤ 140737488351232) (f : Nat) : ∀ n p, s.size - p = n → p ≤ s.size → f ≤ p →
    Ev (fun k => pascalineref08_Next.l0 k s (f : Int) (p : Int)) (nameEnd s f (runE isAl s p)) := by
  intro n
  induction n using Nat.strongRecOn with
  | _ n ih =>
    intro p hn hp hf
    have w1 := wsuc1 p (by omega)
    by_cases hc : isAl (bt s (p : Int)) = true
    · have hlt := in_of (f := isAl) rfl hc
      rw [runE_t rfl hc]
      obtain ⟨K, hK⟩ := ih (s.size - (p + 1)) (by omega) (p + 1) rfl (by omega) (by omega)
      refine ⟨K + 1, fun k hk => ?_⟩
      obtain ⟨m, rfl⟩ : ∃ m, k = m + 1 := ⟨k - 1, by omega⟩
      have h2 := hK m (by omega)
      dsimp only at h2
      dsimp only
      rw [pascalineref08_Next.l0, if_pos (by omega), if_pos (by omega), rletT, Option.bind_some]
      by_cases hl : isLet (bt s (p : Int)) = true
      · rw [if_pos hl, w1]
        exact h2
      · have hl := Bool.eq_false_iff.mpr hl
        have hg : isDig (bt s (p : Int)) = true := by unfold isAl at hc; rw [hl, Bool.false_or] at hc; exact hc
        rw [hl, if_neg (by decide), rdigT, Option.bind_some, if_pos hg, w1]
        exact h2
    · have hc := Bool.eq_false_iff.mpr hc
      rw [runE_f hc]
      have hl : isLet (bt s (p : Int)) = false := by unfold isAl at hc; exact (Bool.or_eq_false_iff.mp hc).1
      have hg : isDig (bt s (p : Int)) = false := by unfold isAl at hc; exact (Bool.or_eq_false_iff.mp hc).2
      obtain ⟨K, hK⟩ := name_end s hs f p hp hf
      refine ⟨K + 1, fun k hk => ?_⟩
      obtain ⟨m, rfl⟩ : ∃ m, k = m + 1 := ⟨k - 1, by omega⟩
      have h2 := hK m (by omega)
      dsimp only at h2
      dsimp only
      rw [pascalineref08_Next.l0]
      by_cases hlt : p < s.size
      · rw [if_pos (by omega), if_pos (by omega), rletT, Option.bind_some, hl, if_neg (by decide), rdigT, Option.bind_some, hg, if_neg (by decide)]
        exact h2
      · rw [if_neg (by omega)]
        exact h2
/-! ### texts -/
def textEnd (s : ByteArray) (f q : Nat) : R6 :=
  if bt s (q : Int) = 34 then (4, (f : Int), ((q + 1 : Nat) : Int), s.extract (f + 1) q, 0, 0) else (7, (f : Int), (q : Int), ⟨#[]⟩, 0, 82)
theorem rtext_ev (s : ByteArray) (hs : s.size ≤ 140737488351232) (f : Nat) : ∀ n p, s.size - p = n → p ≤ s.size → f + 1 ≤ p →
    Ev (fun k => pascalineref08_Next.l1 k s (f : Int) (p : Int)) (textEnd s f (runE inTx s p)) := by
  intro n
  induction n using Nat.strongRecOn with
  | _ n ih =>
    intro p hn hp hf
    have w1 := wsuc1 p (by omega)
    have wf := wsuc1 f (by omega)
    by_cases hc : inTx (bt s (p : Int)) = true
    · have hlt := in_of (f := inTx) rfl hc
      have hc' := hc
      simp only [inTx, decide_eq_true_eq] at hc'
      rw [runE_t rfl hc]
      obtain ⟨K, hK⟩ := ih (s.size - (p + 1)) (by omega) (p + 1) rfl (by omega) (by omega)
      refine ⟨K + 1, fun k hk => ?_⟩
      obtain ⟨m, rfl⟩ : ∃ m, k = m + 1 := ⟨k - 1, by omega⟩
      have h2 := hK m (by omega)
      dsimp only at h2
      dsimp only
      rw [pascalineref08_Next.l1, if_pos (by omega), if_pos (by omega), if_pos (by omega), if_pos (by omega), if_neg (by omega), w1]
      exact h2
    · have hc := Bool.eq_false_iff.mpr hc
      rw [runE_f hc]
      have hc' := hc
      simp only [inTx, decide_eq_false_iff_not] at hc'
      refine ⟨1, fun k hk => ?_⟩
      obtain ⟨m, rfl⟩ : ∃ m, k = m + 1 := ⟨k - 1, by omega⟩
      dsimp only
      rw [pascalineref08_Next.l1, w1, wf]
      unfold textEnd
      by_cases hlt : p < s.size
      · rw [if_pos (by omega), if_pos (by omega)]
        by_cases h32 : bt s (p : Int) ≥ 32
        · rw [if_pos h32]
          by_cases h126 : bt s (p : Int) ≤ 126
          · have h34 : bt s (p : Int) = 34 := by omega
            rw [if_pos h126, if_pos h34, if_neg (by omega), if_pos (by omega), if_pos (by omega), if_pos (by omega), if_pos h34, Int.toNat_natCast, Int.toNat_natCast]
          · rw [if_neg h126, if_neg (by omega), if_neg (by omega), if_neg (by omega)]
            rfl
        · rw [if_neg h32, if_neg (by omega), if_neg (by omega), if_neg (by omega)]
          rfl
      · rw [if_neg (by omega), if_pos (by omega), bt_out s _ (by omega), if_neg (by decide)]
        rfl
/-! ### marks -/
def markEnd (s : ByteArray) (f : Nat) (b : Bool) : R6 :=
  if b = true then (6, (f : Int), ((f + 1 : Nat) : Int), s.extract f (f + 1), 0, 0) else (7, (f : Int), ((f + 1 : Nat) : Int), ⟨#[]⟩, 0, 83)
theorem rmark_loop (s : ByteArray) (hs : s.size ≤ 140737488351232) (f : Nat) (hf : f < s.size) (c : Int) : ∀ (d i : Nat), 17 - i = d → i ≤ 17 →
    Ev (fun k => pascalineref08_Next.l2 k s (f : Int) c markB (i : Int)) (markEnd s f ((markL.drop i).any fun z => decide (z = c))) := by
  intro d
  induction d using Nat.strongRecOn with
  | _ d ih =>
    intro i hd hi
    have wf := wsuc1 f (by omega)
    have hsz : markB.size = 17 := rfl
    by_cases hlt : i < 17
    · have hlt' : i < markL.length := hlt
      rw [List.drop_eq_getElem_cons hlt', List.any_cons]
      obtain ⟨K, hK⟩ := ih (17 - (i + 1)) (by omega) (i + 1) rfl (by omega)
      refine ⟨K + 1, fun k hk => ?_⟩
      obtain ⟨m, rfl⟩ : ∃ m, k = m + 1 := ⟨k - 1, by omega⟩
      have h2 := hK m (by omega)
      dsimp only at h2
      dsimp only
      have hb : bt markB (i : Int) = markL[i]'hlt' := mark_at ⟨i, hlt⟩
      rw [pascalineref08_Next.l2, hsz, if_pos (by omega), if_pos (by omega), hb, wsuc1 i (by omega), wf]
      by_cases he : markL[i]'hlt' = c
      · rw [if_pos he, decide_eq_true he, Bool.true_or, if_pos (by omega), if_pos (by omega), if_pos (by omega), Int.toNat_natCast, Int.toNat_natCast]
        rfl
      · rw [if_neg he, decide_eq_false he, Bool.false_or]
        exact h2
    · rw [List.drop_eq_nil_of_le (show markL.length ≤ i by have : markL.length = 17 := rfl; omega)]
      refine ⟨1, fun k hk => ?_⟩
      obtain ⟨m, rfl⟩ : ∃ m, k = m + 1 := ⟨k - 1, by omega⟩
      dsimp only
      rw [pascalineref08_Next.l2, hsz, if_neg (by omega), wf]
      rfl
theorem rmark_j (s : ByteArray) (hs : s.size ≤ 140737488351232) (f : Nat) (hf : f < s.size) (c : Int) (t : Bool) (ht : t = true → f + 1 < s.size) :
    Ev (fun k => pascalineref08_Next.j3 k s (f : Int) c t) (if t = true then (6, (f : Int), ((f + 2 : Nat) : Int), s.extract f (f + 2), 0, 0) else markEnd s f (isMk c)) := by
  obtain ⟨K, hK⟩ := rmark_loop s hs f hf c _ 0 rfl (by omega)
  refine ⟨K + 1, fun k hk => ?_⟩
  obtain ⟨m, rfl⟩ : ∃ m, k = m + 1 := ⟨k - 1, by omega⟩
  have h2 := hK m (by omega)
  dsimp only at h2
  dsimp only
  rw [pascalineref08_Next.j3, wsuc2 f (by omega)]
  cases t with
  | true =>
    have := ht rfl
    rw [if_pos rfl, if_pos rfl, if_pos (by omega), if_pos (by omega), if_pos (by omega), Int.toNat_natCast, Int.toNat_natCast]
  | false =>
    rw [if_neg (by decide), if_neg (by decide)]
    exact h2
/-! ### the next sign -/
def oneR (s : ByteArray) (f : Nat) : R6 :=
  if (oneS s f).e ≠ 0 then (7, (f : Int), (((oneS s f).to_ : Nat) : Int), ⟨#[]⟩, 0, (oneS s f).e)
  else if (oneS s f).kind = 4 then (4, (f : Int), (((oneS s f).to_ : Nat) : Int), s.extract (f + 1) ((oneS s f).to_ - 1), (oneS s f).n, 0)
  else ((oneS s f).kind, (f : Int), (((oneS s f).to_ : Nat) : Int), s.extract f (oneS s f).to_, (oneS s f).n, 0)
theorem oneR_let {s : ByteArray} {f : Nat} (h : isLet (bt s (f : Int)) = true) : oneR s f = nameEnd s f (runE isAl s f) := by
  unfold oneR oneS nameEnd
  simp only [if_pos h]
  repeat' split
  all_goals first | rfl | simp_all
theorem oneR_dig {s : ByteArray} {f : Nat} (h1 : ¬ isLet (bt s (f : Int)) = true) (h : isDig (bt s (f : Int)) = true) : oneR s f = (if runA isDig numG s f 0 > 2147483647 then (7, (f : Int), ((runE isDig s f : Nat) : Int), ⟨#[]⟩, 0, 80) else (2, (f : Int), ((runE isDig s f : Nat) : Int), s.extract f (runE isDig s f), wrap32 (runA isDig numG s f 0), 0)) := by
  unfold oneR oneS
  simp only [if_neg h1, if_pos h]
  repeat' split
  all_goals first | rfl | simp_all
theorem oneR_hex {s : ByteArray} {f : Nat} (h1 : ¬ isLet (bt s (f : Int)) = true) (h2 : ¬ isDig (bt s (f : Int)) = true) (h : bt s (f : Int) = 36) : oneR s f = hexEnd s f (runE isHx s (f + 1)) (runA isHx hexG s (f + 1) 0) := by
  unfold oneR oneS hexEnd
  simp only [if_neg h1, if_neg h2, if_pos h]
  by_cases h3 : runE isHx s (f + 1) = f + 1 ∨ runE isHx s (f + 1) > f + 1 + 8
  · simp only [if_pos h3]
    rfl
  · simp only [if_neg h3]
    rfl
theorem oneR_text {s : ByteArray} {f : Nat} (h1 : ¬ isLet (bt s (f : Int)) = true) (h2 : ¬ isDig (bt s (f : Int)) = true) (h : bt s (f : Int) = 34) : oneR s f = textEnd s f (runE inTx s (f + 1)) := by
  unfold oneR oneS textEnd
  simp only [if_neg h1, if_neg h2]
  rw [if_neg (by omega : ¬ bt s (f : Int) = 36), if_neg (by omega : ¬ bt s (f : Int) = 39), if_pos h]
  by_cases h3 : bt s ((runE inTx s (f + 1) : Nat) : Int) = 34
  · simp only [if_pos h3]
    rfl
  · simp only [if_neg h3]
    rfl
end Go.Proofs.Ytmalonlbnjiclaa.Pure
