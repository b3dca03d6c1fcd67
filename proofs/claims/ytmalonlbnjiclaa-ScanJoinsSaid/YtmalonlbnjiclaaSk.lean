/- Two texts with a blank between them: what the scanner tells of the whole. No condition. -/
import Derived.Test.YtmalonlbnjiclaaSf
namespace Go.Proofs.Ytmalonlbnjiclaa.Pure
open Go.RowKit Go.Proofs.Ytmalonlbnjiclaa.PAll Go.Proofs.YtmalonlbnjiclaaW.PrintWords Go.Proofs.YtmalonlbnjiclaaW.PrintLast
set_option linter.unusedVariables false
set_option linter.unusedSimpArgs false

def sp : ByteArray := ⟨#[32]⟩
abbrev joinB (a b : ByteArray) : ByteArray := (a ++ sp) ++ b
def btL (l : List UInt8) (i : Nat) : Int := match l[i]? with
  | some x => (x.toNat : Int)
  | none => 0
theorem bt_L (s : ByteArray) (i : Nat) : bt s (i : Int) = btL s.data.toList i := by
  unfold bt btL
  rw [Int.toNat_natCast]
  by_cases h : i < s.size
  · rw [dif_pos h]
    have : s.data.toList[i]? = some (s[i]'h) := by
      rw [Array.getElem?_toList]
      exact Array.getElem?_eq_getElem h
    rw [this]
  · rw [dif_neg h]
    have : s.data.toList[i]? = none := by
      rw [Array.getElem?_toList]
      exact Array.getElem?_eq_none (by have : s.data.size = s.size := rfl; omega)
    rw [this]
theorem join_L (a b : ByteArray) : (joinB a b).data.toList = a.data.toList ++ 32 :: b.data.toList := by
  simp [joinB, sp, ByteArray.data_append]
theorem size_L (a : ByteArray) : a.data.toList.length = a.size := rfl
theorem join_size (a b : ByteArray) : (joinB a b).size = a.size + 1 + b.size := by
  rw [← size_L, join_L, List.length_append, List.length_cons, size_L, size_L]
  omega
theorem join_lo (a b : ByteArray) (p : Nat) (h : p < a.size) : bt (joinB a b) (p : Int) = bt a (p : Int) := by
  rw [bt_L, bt_L, join_L]
  unfold btL
  rw [List.getElem?_append_left (by rw [size_L]; exact h)]
theorem join_at (a b : ByteArray) : bt (joinB a b) (a.size : Int) = 32 := by
  rw [bt_L, join_L]
  unfold btL
  rw [List.getElem?_append_right (by rw [size_L]; omega), size_L, Nat.sub_self]
  rfl
theorem join_hi (a b : ByteArray) (p : Nat) : bt (joinB a b) ((a.size + 1 + p : Nat) : Int) = bt b (p : Int) := by
  rw [bt_L, bt_L, join_L]
  unfold btL
  rw [List.getElem?_append_right (by rw [size_L]; omega), size_L, show a.size + 1 + p - a.size = p + 1 by omega]
  rfl
theorem end0 (a : ByteArray) : bt a (a.size : Int) = 0 := by
  unfold bt
  rw [dif_neg (by omega)]
theorem ext_L (s : ByteArray) (i j : Nat) : (s.extract i j).data.toList = (s.data.toList.drop i).take (j - i) := by
  rw [ByteArray.data_extract, Array.toList_extract]
theorem ba_ext {s t : ByteArray} (h : s.data.toList = t.data.toList) : s = t := ByteArray.ext (Array.toList_inj.mp h)
theorem ext_lo (a b : ByteArray) (i j : Nat) (h : j ≤ a.size) : (joinB a b).extract i j = a.extract i j := by
  apply ba_ext
  rw [ext_L, ext_L, join_L]
  by_cases hi : i ≤ j
  · rw [List.drop_append_of_le_length (by rw [size_L]; omega), List.take_append_of_le_length (by rw [List.length_drop, size_L]; omega)]
  · rw [show j - i = 0 by omega]
    simp
theorem ext_hi (a b : ByteArray) (i j : Nat) : (joinB a b).extract (a.size + 1 + i) (a.size + 1 + j) = b.extract i j := by
  apply ba_ext
  rw [ext_L, ext_L, join_L, show a.size + 1 + j - (a.size + 1 + i) = j - i by omega]
  congr 1
  rw [List.drop_append, size_L, List.drop_eq_nil_of_le (by rw [size_L]; omega), List.nil_append, show a.size + 1 + i - a.size = i + 1 by omega]
  rfl

/-! ### the first text -/
/-- The byte behind one of the first text: what it was, but for the blank in the place of nothing. -/
theorem join_next (a b : ByteArray) (p : Nat) (h : p < a.size) : bt (joinB a b) ((p : Int) + 1) = bt a ((p : Int) + 1) ∨ bt (joinB a b) ((p : Int) + 1) = 32 ∧ bt a ((p : Int) + 1) = 0 := by
  rw [show (p : Int) + 1 = ((p + 1 : Nat) : Int) by omega]
  by_cases h1 : p + 1 < a.size
  · exact .inl (join_lo a b _ h1)
  · have : p + 1 = a.size := by omega
    rw [this]
    exact .inr ⟨join_at a b, end0 a⟩
theorem runE_lo (f : Int → Bool) (h0 : f 0 = false) (h32 : f 32 = false) (a b : ByteArray) : ∀ d p, a.size - p = d → p ≤ a.size → runE f (joinB a b) p = runE f a p := by
  intro d
  induction d using Nat.strongRecOn with
  | _ d ih =>
    intro p hd hp
    by_cases h : p < a.size
    · have e := join_lo a b p h
      cases hc : f (bt a (p : Int)) with
      | true => rw [runE_t h0 (by rw [e]; exact hc), runE_t h0 hc]; exact ih (a.size - (p + 1)) (by omega) (p + 1) rfl (by omega)
      | false => rw [runE_f (by rw [e]; exact hc), runE_f hc]
    · obtain rfl : p = a.size := by omega
      rw [runE_f (by rw [join_at]; exact h32), runE_f (by rw [end0]; exact h0)]
theorem runA_lo (f : Int → Bool) (g : Int → Int → Int) (h0 : f 0 = false) (h32 : f 32 = false) (a b : ByteArray) : ∀ d p x, a.size - p = d → p ≤ a.size → runA f g (joinB a b) p x = runA f g a p x := by
  intro d
  induction d using Nat.strongRecOn with
  | _ d ih =>
    intro p x hd hp
    by_cases h : p < a.size
    · have e := join_lo a b p h
      cases hc : f (bt a (p : Int)) with
      | true => rw [runA_t h0 (by rw [e]; exact hc), runA_t h0 hc, e]; exact ih (a.size - (p + 1)) (by omega) (p + 1) _ rfl (by omega)
      | false => rw [runA_f (by rw [e]; exact hc), runA_f hc]
    · obtain rfl : p = a.size := by omega
      rw [runA_f (by rw [join_at]; exact h32), runA_f (by rw [end0]; exact h0)]
theorem text_lo (a b : ByteArray) : ∀ d p, a.size - p = d → p ≤ a.size → bt a ((runE inTx a p : Nat) : Int) = 34 → runE inTx (joinB a b) p = runE inTx a p := by
  intro d
  induction d using Nat.strongRecOn with
  | _ d ih =>
    intro p hd hp h34
    by_cases h : p < a.size
    · have e := join_lo a b p h
      cases hc : inTx (bt a (p : Int)) with
      | true =>
        rw [runE_t rfl hc] at h34
        rw [runE_t rfl (by rw [e]; exact hc), runE_t rfl hc]
        exact ih (a.size - (p + 1)) (by omega) (p + 1) rfl (by omega) h34
      | false => rw [runE_f (by rw [e]; exact hc), runE_f hc]
    · obtain rfl : p = a.size := by omega
      rw [runE_f (by rw [end0]; rfl), end0] at h34
      exact absurd h34 (by decide)
theorem blank_lo (a b : ByteArray) : ∀ n p d, a.size - p = n → p ≤ a.size → (blankS a p d).2 = 0 →
    blankS (joinB a b) p d = if (blankS a p d).1 < a.size then blankS a p d else blankS (joinB a b) a.size 0 := by
  intro n
  induction n using Nat.strongRecOn with
  | _ n ih =>
    intro p d hn hp h
    have hsz := join_size a b
    by_cases hlt : p < a.size
    · have e := join_lo a b p hlt
      have e1 := join_next a b p hlt
      rw [blankS, dif_neg (by omega)] at h
      rw [blankS, dif_neg (by omega)]
      rw [show blankS a p d = _ from by rw [blankS, dif_neg (by omega)]]
      have q42 : bt (joinB a b) ((p : Int) + 1) = 42 ↔ bt a ((p : Int) + 1) = 42 := by omega
      have q41 : bt (joinB a b) ((p : Int) + 1) = 41 ↔ bt a ((p : Int) + 1) = 41 := by omega
      simp only [e, q42, q41]
      clear q42 q41 e1 e
      by_cases h1 : bt a (p : Int) = 40 ∧ bt a ((p : Int) + 1) = 42
      · rw [if_pos h1] at h ⊢
        rw [if_pos h1]
        have h2 : p + 1 < a.size := bt_in (p := p + 1) (c := 42) (by decide) (by rw [show ((p + 1 : Nat) : Int) = (p : Int) + 1 by omega]; exact h1.2)
        exact ih (a.size - (p + 2)) (by omega) (p + 2) (d + 1) rfl (by omega) h
      · rw [if_neg h1] at h ⊢
        rw [if_neg h1]
        by_cases h3 : d > 0 ∧ bt a (p : Int) = 42 ∧ bt a ((p : Int) + 1) = 41
        · rw [if_pos h3] at h ⊢
          rw [if_pos h3]
          have h2 : p + 1 < a.size := bt_in (p := p + 1) (c := 41) (by decide) (by rw [show ((p + 1 : Nat) : Int) = (p : Int) + 1 by omega]; exact h3.2.2)
          exact ih (a.size - (p + 2)) (by omega) (p + 2) (d - 1) rfl (by omega) h
        · rw [if_neg h3] at h ⊢
          rw [if_neg h3]
          by_cases h4 : d > 0 ∨ bt a (p : Int) = 32 ∨ bt a (p : Int) = 9 ∨ bt a (p : Int) = 10 ∨ bt a (p : Int) = 13
          · rw [if_pos h4] at h ⊢
            rw [if_pos h4]
            exact ih (a.size - (p + 1)) (by omega) (p + 1) d rfl (by omega) h
          · rw [if_neg h4]
            rw [if_neg h4]
            rw [if_pos hlt]
    · obtain rfl : p = a.size := by omega
      rw [blankS, dif_pos (Nat.le_refl _)] at h
      have hd : d = 0 := by
        rcases Nat.eq_zero_or_pos d with h5 | h5
        · exact h5
        · dsimp only at h
          rw [if_pos h5] at h
          exact absurd h (by decide)
      subst hd
      rw [show blankS a a.size 0 = (a.size, 0) from by rw [blankS, dif_pos (Nat.le_refl _)]; rfl]
      rw [if_neg (by dsimp only; omega)]
theorem one_lo (a b : ByteArray) (p : Nat) (hp : p < a.size) (h : (oneS a p).e = 0) : oneS (joinB a b) p = oneS a p := by
  have e := join_lo a b p hp
  have e1 := join_next a b p hp
  have rE := fun f h0 h32 => runE_lo f h0 h32 a b _ p rfl (by omega)
  have rE1 := fun f h0 h32 => runE_lo f h0 h32 a b _ (p + 1) rfl (by omega)
  have rA := fun f g h0 h32 x => runA_lo f g h0 h32 a b _ p x rfl (by omega)
  have rA1 := fun f g h0 h32 x => runA_lo f g h0 h32 a b _ (p + 1) x rfl (by omega)
  have le := runE_le isAl a p (by omega)
  unfold oneS at h ⊢
  rw [e, rE isAl rfl rfl, ext_lo a b p _ le, rE isDig rfl rfl, rA isDig numG rfl rfl, rE1 isHx rfl rfl, rA1 isHx hexG rfl rfl]
  clear rE rE1 rA rA1 le e
  by_cases c1 : isLet (bt a (p : Int)) = true
  · rw [if_pos c1, if_pos c1]
  · rw [if_neg c1] at h ⊢
    rw [if_neg c1]
    by_cases c2 : isDig (bt a (p : Int)) = true
    · rw [if_pos c2, if_pos c2]
    · rw [if_neg c2] at h ⊢
      rw [if_neg c2]
      by_cases c3 : bt a (p : Int) = 36
      · rw [if_pos c3, if_pos c3]
      · rw [if_neg c3] at h ⊢
        rw [if_neg c3]
        by_cases c4 : bt a (p : Int) = 39
        · rw [if_pos c4] at h ⊢
          rw [if_pos c4]
          by_cases c5 : isPl (bt a ((p : Int) + 1)) = true ∧ bt a ((p : Int) + 2) = 39
          · have h2 : p + 2 < a.size := bt_in (p := p + 2) (c := 39) (by decide) (by rw [show ((p + 2 : Nat) : Int) = (p : Int) + 2 by omega]; exact c5.2)
            have f1 : bt (joinB a b) ((p : Int) + 1) = bt a ((p : Int) + 1) := by
              have := join_lo a b (p + 1) (by omega)
              rwa [show ((p + 1 : Nat) : Int) = (p : Int) + 1 by omega] at this
            have f2 : bt (joinB a b) ((p : Int) + 2) = bt a ((p : Int) + 2) := by
              have := join_lo a b (p + 2) (by omega)
              rwa [show ((p + 2 : Nat) : Int) = (p : Int) + 2 by omega] at this
            rw [f1, f2]
          · rw [if_neg c5] at h
            exact absurd h (by dsimp only; decide)
        · rw [if_neg c4] at h ⊢
          rw [if_neg c4]
          by_cases c6 : bt a (p : Int) = 34
          · rw [if_pos c6] at h ⊢
            rw [if_pos c6]
            by_cases c7 : bt a ((runE inTx a (p + 1) : Nat) : Int) = 34
            · rw [text_lo a b _ (p + 1) rfl (by omega) c7]
              have h3 := bt_in (c := 34) (by decide) c7
              rw [join_lo a b _ h3]
            · rw [if_neg c7] at h
              exact absurd h (by dsimp only; decide)
          · rw [if_neg c6]
            rw [if_neg c6]
            have tw : twoMk (bt a (p : Int)) (bt (joinB a b) ((p : Int) + 1)) = twoMk (bt a (p : Int)) (bt a ((p : Int) + 1)) := by
              unfold twoMk
              rw [decide_eq_decide]
              omega
            rw [tw]
theorem next_lo (a b : ByteArray) (p : Nat) (hp : p ≤ a.size) (h : (nextS a p).e = 0) (k : (nextS a p).kind ≠ 0) : nextS (joinB a b) p = nextS a p := by
  have hsz := join_size a b
  have hbd := blank_bd a _ p 0 rfl hp
  unfold nextS at h k
  by_cases c1 : (blankS a p 0).2 = 0
  · rw [if_neg (show ¬ ((blankS a p 0).2 ≠ 0) from fun q => q c1)] at h k
    by_cases c2 : a.size ≤ (blankS a p 0).1
    · rw [if_pos c2] at k
      exact absurd rfl k
    · rw [if_neg c2] at h k
      have hb := blank_lo a b _ p 0 rfl hp c1
      rw [if_pos (by omega)] at hb
      have ho : (oneS a (blankS a p 0).1).e = 0 := by
        by_cases c3 : (oneS a (blankS a p 0).1).e = 0
        · exact c3
        · rw [if_pos (show (oneS a (blankS a p 0).1).e ≠ 0 from c3)] at h
          exact absurd h c3
      have h1 := one_lo a b (blankS a p 0).1 (by omega) ho
      have h2 := (one_bd a (blankS a p 0).1 (by omega)).2.1
      unfold nextS
      rw [hb, h1, ext_lo a b _ _ (by omega), ext_lo a b _ _ h2]
      rw [if_neg (show ¬ ((joinB a b).size ≤ (blankS a p 0).1) by omega), if_neg (show ¬ (a.size ≤ (blankS a p 0).1) from c2)]
  · rw [if_pos (show (blankS a p 0).2 ≠ 0 from c1)] at h
    exact absurd h c1

/-! ### the second text -/
theorem runE_hi (f : Int → Bool) (h0 : f 0 = false) (a b : ByteArray) : ∀ d p, b.size - p = d → runE f (joinB a b) (a.size + 1 + p) = a.size + 1 + runE f b p := by
  intro d
  induction d using Nat.strongRecOn with
  | _ d ih =>
    intro p hd
    have e := join_hi a b p
    cases hc : f (bt b (p : Int)) with
    | true =>
      have hlt := in_of h0 hc
      rw [runE_t h0 (by rw [e]; exact hc), runE_t h0 hc]
      exact ih (b.size - (p + 1)) (by omega) (p + 1) rfl
    | false => rw [runE_f (by rw [e]; exact hc), runE_f hc]
theorem runA_hi (f : Int → Bool) (g : Int → Int → Int) (h0 : f 0 = false) (a b : ByteArray) : ∀ d p x, b.size - p = d → runA f g (joinB a b) (a.size + 1 + p) x = runA f g b p x := by
  intro d
  induction d using Nat.strongRecOn with
  | _ d ih =>
    intro p x hd
    have e := join_hi a b p
    cases hc : f (bt b (p : Int)) with
    | true =>
      have hlt := in_of h0 hc
      rw [runA_t h0 (by rw [e]; exact hc), runA_t h0 hc, e]
      exact ih (b.size - (p + 1)) (by omega) (p + 1) _ rfl
    | false => rw [runA_f (by rw [e]; exact hc), runA_f hc]
theorem hi1 (a b : ByteArray) (p j : Nat) : bt (joinB a b) (((a.size + 1 + p : Nat) : Int) + (j : Int)) = bt b ((p : Int) + (j : Int)) := by
  have := join_hi a b (p + j)
  rw [show ((a.size + 1 + (p + j) : Nat) : Int) = ((a.size + 1 + p : Nat) : Int) + (j : Int) by omega, show ((p + j : Nat) : Int) = (p : Int) + (j : Int) by omega] at this
  exact this
theorem blank_hi (a b : ByteArray) : ∀ n p d, b.size - p = n → blankS (joinB a b) (a.size + 1 + p) d = (a.size + 1 + (blankS b p d).1, (blankS b p d).2) := by
  intro n
  induction n using Nat.strongRecOn with
  | _ n ih =>
    intro p d hn
    have hsz := join_size a b
    have e := join_hi a b p
    have e1 : bt (joinB a b) (((a.size + 1 + p : Nat) : Int) + 1) = bt b ((p : Int) + 1) := hi1 a b p 1
    rw [blankS]
    rw [show blankS b p d = _ from by rw [blankS]]
    rw [e, e1]
    clear e e1
    by_cases c0 : b.size ≤ p
    · rw [dif_pos (by omega), dif_pos c0]
    · rw [dif_neg (by omega), dif_neg c0]
      by_cases c1 : bt b (p : Int) = 40 ∧ bt b ((p : Int) + 1) = 42
      · rw [if_pos c1, if_pos c1]
        exact ih (b.size - (p + 2)) (by omega) (p + 2) (d + 1) rfl
      · rw [if_neg c1, if_neg c1]
        by_cases c2 : d > 0 ∧ bt b (p : Int) = 42 ∧ bt b ((p : Int) + 1) = 41
        · rw [if_pos c2, if_pos c2]
          exact ih (b.size - (p + 2)) (by omega) (p + 2) (d - 1) rfl
        · rw [if_neg c2, if_neg c2]
          by_cases c3 : d > 0 ∨ bt b (p : Int) = 32 ∨ bt b (p : Int) = 9 ∨ bt b (p : Int) = 10 ∨ bt b (p : Int) = 13
          · rw [if_pos c3, if_pos c3]
            exact ih (b.size - (p + 1)) (by omega) (p + 1) d rfl
          · rw [if_neg c3, if_neg c3]
theorem one_hi (a b : ByteArray) (p : Nat) : oneS (joinB a b) (a.size + 1 + p) = ⟨(oneS b p).kind, (oneS b p).n, (oneS b p).e, a.size + 1 + (oneS b p).to_⟩ := by
  have e := join_hi a b p
  have e1 : bt (joinB a b) (((a.size + 1 + p : Nat) : Int) + 1) = bt b ((p : Int) + 1) := hi1 a b p 1
  have e2 : bt (joinB a b) (((a.size + 1 + p : Nat) : Int) + 2) = bt b ((p : Int) + 2) := hi1 a b p 2
  have rE := fun f h0 => runE_hi f h0 a b _ p rfl
  have rE1 := fun f h0 => runE_hi f h0 a b _ (p + 1) rfl
  have rA := fun f g h0 x => runA_hi f g h0 a b _ p x rfl
  have rA1 := fun f g h0 x => runA_hi f g h0 a b _ (p + 1) x rfl
  unfold oneS
  rw [show a.size + 1 + p + 1 = a.size + 1 + (p + 1) by omega]
  rw [e, e1, e2, rE isAl rfl, ext_hi, rE isDig rfl, rA isDig numG rfl, rE1 isHx rfl, rA1 isHx hexG rfl, rE1 inTx rfl, join_hi]
  clear rE rE1 rA rA1 e e1 e2
  obtain ⟨q1, hq1⟩ : ∃ q, runE isAl b p = q := ⟨_, rfl⟩
  obtain ⟨q2, hq2⟩ : ∃ q, runE isHx b (p + 1) = q := ⟨_, rfl⟩
  rw [hq1, hq2]
  clear hq1 hq2
  rw [show a.size + 1 + q1 - (a.size + 1 + p) = q1 - p by omega]
  have h3 : (a.size + 1 + q2 = a.size + 1 + (p + 1) ∨ a.size + 1 + q2 > a.size + 1 + (p + 1) + 8) ↔ (q2 = p + 1 ∨ q2 > p + 1 + 8) := by omega
  repeat' split
  all_goals first | rfl | (exfalso; omega)
def shiftS (o : Nat) (x : Sg) : Sg := ⟨x.kind, o + x.from_, o + x.to_, x.text, x.n, x.e⟩
theorem next_hi (a b : ByteArray) (p : Nat) (hp : p ≤ b.size) : nextS (joinB a b) (a.size + 1 + p) = shiftS (a.size + 1) (nextS b p) := by
  have hsz := join_size a b
  unfold nextS
  rw [blank_hi a b _ p 0 rfl]
  dsimp only
  rw [one_hi]
  obtain ⟨f, hf⟩ : ∃ f, (blankS b p 0).1 = f := ⟨_, rfl⟩
  rw [hf]
  clear hf
  obtain ⟨o, ho⟩ : ∃ o, oneS b f = o := ⟨_, rfl⟩
  rw [ho]
  by_cases c1 : (blankS b p 0).2 ≠ 0
  · rw [if_pos c1, if_pos c1]
    rfl
  · rw [if_neg c1, if_neg c1]
    by_cases c2 : b.size ≤ f
    · rw [if_pos (by omega), if_pos c2]
      rfl
    · rw [if_neg (by omega), if_neg c2]
      have hone := (one_bd b f (by omega)).1
      rw [ho] at hone
      clear ho
      dsimp only
      by_cases c3 : o.e ≠ 0
      · rw [if_pos c3, if_pos c3]
        rfl
      · rw [if_neg c3, if_neg c3]
        by_cases c4 : o.kind = 4
        · rw [if_pos c4, if_pos c4, show a.size + 1 + f + 1 = a.size + 1 + (f + 1) by omega, show a.size + 1 + o.to_ - 1 = a.size + 1 + (o.to_ - 1) by omega, ext_hi]
          rfl
        · rw [if_neg c4, if_neg c4, ext_hi]
          rfl
theorem next_ok {s : ByteArray} {p : Nat} (h : (nextS s p).e = 0) : (blankS s p 0).2 = 0 := by
  unfold nextS at h
  by_cases c1 : (blankS s p 0).2 = 0
  · exact c1
  · rw [if_pos (show (blankS s p 0).2 ≠ 0 from c1)] at h
    exact absurd h c1
theorem next_same {s : ByteArray} {p q : Nat} (h1 : blankS s p 0 = blankS s q 0) (h2 : (blankS s p 0).2 = 0) : nextS s p = nextS s q := by
  unfold nextS
  rw [← h1]
  rw [if_neg (show ¬ ((blankS s p 0).2 ≠ 0) from fun z => z h2), if_neg (show ¬ ((blankS s p 0).2 ≠ 0) from fun z => z h2)]
/-- Where the first text ends, the second one's first sign comes. -/
theorem next_end (a b : ByteArray) (p : Nat) (hp : p ≤ a.size) (h : (nextS a p).e = 0) (k : (nextS a p).kind = 0) (hb0 : (nextS b 0).e = 0) : nextS (joinB a b) p = shiftS (a.size + 1) (nextS b 0) := by
  have hsz := join_size a b
  have hend := ((next_bd a p hp).2.2.2 h).2.2 k
  have hbd := blank_bd a _ p 0 rfl hp
  have c1 := next_ok h
  have c2 : a.size ≤ (blankS a p 0).1 := by
    rcases Nat.lt_or_ge (blankS a p 0).1 a.size with c2 | c2
    · exfalso
      have hfrom : (nextS a p).from_ = (blankS a p 0).1 := by
        unfold nextS
        rw [if_neg (show ¬ ((blankS a p 0).2 ≠ 0) from fun q => q c1), if_neg (by omega)]
        repeat' split
        all_goals rfl
      omega
    · exact c2
  have hb := blank_lo a b _ p 0 rfl hp c1
  rw [if_neg (by omega)] at hb
  have hst : blankS (joinB a b) a.size 0 = blankS (joinB a b) (a.size + 1 + 0) 0 := by
    rw [blankS, dif_neg (by omega), if_neg (by rw [join_at]; exact fun q => absurd q.1 (by decide)), if_neg (fun q => absurd q.1 (by decide)), if_pos (by rw [join_at]; exact .inr (.inl rfl))]
  rw [hst] at hb
  rw [← next_hi a b 0 (by omega)]
  refine next_same hb ?_
  rw [hb, blank_hi a b _ 0 0 rfl]
  exact next_ok hb0
end Go.Proofs.Ytmalonlbnjiclaa.Pure
