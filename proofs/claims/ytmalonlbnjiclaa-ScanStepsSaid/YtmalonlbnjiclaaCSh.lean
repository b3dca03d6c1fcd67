/- What the document's scanner answers, in plain words: blanks, numbers. No condition beside the text's size. -/
import Derived.Test.YtmalonlbnjiclaaCSg
import Derived.Test.YtmalonlbnjiclaaCPAllx12
import Derived.Test.YtmalonlbnjiclaaCPAllx14
import Derived.Test.YtmalonlbnjiclaaCPAllx15
namespace Go.Proofs.Ytmalonlbnjiclaa.Pure
open Go.RowKit Go.Proofs.Ytmalonlbnjiclaa.PAll Go.Proofs.YtmalonlbnjiclaaW.PrintWords Go.Proofs.YtmalonlbnjiclaaW.PrintLast
set_option linter.unusedVariables false
set_option linter.unusedSimpArgs false
theorem rletT (c : Int) : pascalineref08_letter.f c = some (isLet c) := by
  unfold pascalineref08_letter.f isLet
  repeat' split
  all_goals simp only [Option.some.injEq]
  all_goals first | (rw [eq_comm, decide_eq_true_eq]; omega) | (rw [eq_comm, decide_eq_false_iff_not]; omega) | (rw [decide_eq_decide]; omega)
theorem rdigT (c : Int) : pascalineref08_digit.f c = some (isDig c) := by
  unfold pascalineref08_digit.f isDig
  repeat' split
  all_goals simp only [Option.some.injEq]
  all_goals first | (rw [eq_comm, decide_eq_true_eq]; omega) | (rw [eq_comm, decide_eq_false_iff_not]; omega) | (rw [decide_eq_decide]; omega)
theorem bt_out (s : ByteArray) (i : Int) (h : s.size ≤ i.toNat) : bt s i = 0 := by
  unfold bt
  rw [dif_neg (by omega)]
theorem twoT (s : ByteArray) (p : Nat) (a b : Int) (hp : p ≤ 1000000000000000) (ha : a ≠ 0) (hb : b ≠ 0) : pascalineref08_two.f s (p : Int) a b = some (decide (bt s (p : Int) = a ∧ bt s ((p : Int) + 1) = b)) := by
  unfold pascalineref08_two.f
  rw [show wrap64 ((p : Int) + 1) = (p : Int) + 1 from w64 _ (by omega) (by omega)]
  by_cases h : (p : Int) + 1 < s.size
  · rw [if_pos h, if_pos (by omega), if_pos (by omega)]
    by_cases h1 : bt s (p : Int) = a
    · rw [if_pos h1, if_pos (by omega)]
      by_cases h2 : bt s ((p : Int) + 1) = b
      · rw [decide_eq_true (⟨h1, h2⟩ : _ ∧ _), show (bt s ((p : Int) + 1) == b) = true from beq_iff_eq.mpr h2]
      · rw [decide_eq_false (fun q : _ ∧ _ => h2 q.2), show (bt s ((p : Int) + 1) == b) = false from beq_eq_false_iff_ne.mpr h2]
    · rw [if_neg h1, decide_eq_false (fun q => h1 q.1)]
  · rw [if_neg h, decide_eq_false]
    rintro ⟨_, q⟩
    rw [bt_out s _ (by omega)] at q
    exact hb q.symm
theorem wsuc2 (p : Nat) (hp : p ≤ 1000000000000000) : wrap64 ((p : Int) + 2) = ((p + 2 : Nat) : Int) := by rw [w64 _ (by omega) (by omega)]; omega
/-! ### blanks -/
theorem rblank_ev (s : ByteArray) (hs : s.size ≤ 140737488351232) : ∀ n p d, s.size - p = n → p ≤ s.size → d ≤ p →
    Ev (fun k => pascalineref08_blanks.l0 k s (p : Int) (d : Int)) ((((blankS s p d).1 : Nat) : Int), decide ((blankS s p d).2 = 0)) := by
  intro n
  induction n using Nat.strongRecOn with
  | _ n ih =>
    intro p d hn hp hd
    have w1 := wsuc1 p (by omega)
    have w2 := wsuc2 p (by omega)
    have wd1 := wsuc1 d (by omega)
    have t1 := twoT s p 40 42 (by omega) (by decide) (by decide)
    have t2 := twoT s p 42 41 (by omega) (by decide) (by decide)
    rw [blankS]
    by_cases hlt : s.size ≤ p
    · rw [dif_pos hlt]
      refine ⟨1, fun k hk => ?_⟩
      obtain ⟨m, rfl⟩ : ∃ m, k = m + 1 := ⟨k - 1, by omega⟩
      simp only [pascalineref08_blanks.l0]
      rw [if_neg (by omega)]
      by_cases h0 : d > 0
      · rw [if_pos h0, show ((d : Int) == 0) = false from beq_eq_false_iff_ne.mpr (by omega)]
        rfl
      · rw [if_neg h0, show ((d : Int) == 0) = true from beq_iff_eq.mpr (by omega)]
        rfl
    · rw [dif_neg hlt]
      by_cases h1 : bt s (p : Int) = 40 ∧ bt s ((p : Int) + 1) = 42
      · rw [if_pos h1]
        have hi : p + 1 < s.size := bt_in (p := p + 1) (c := 42) (by decide) (by rw [show ((p + 1 : Nat) : Int) = (p : Int) + 1 by omega]; exact h1.2)
        obtain ⟨K, hK⟩ := ih (s.size - (p + 2)) (by omega) (p + 2) (d + 1) rfl (by omega) (by omega)
        refine ⟨K + 1, fun k hk => ?_⟩
        obtain ⟨m, rfl⟩ : ∃ m, k = m + 1 := ⟨k - 1, by omega⟩
        have h2 := hK m (by omega)
        dsimp only at h2
        rw [decide_eq_true h1] at t1
        simp only [pascalineref08_blanks.l0, t1, Option.bind_some]
        rw [if_pos (by omega), if_pos trivial, w2, wd1]
        exact h2
      · rw [if_neg h1]
        rw [decide_eq_false h1] at t1
        by_cases h2 : d > 0 ∧ bt s (p : Int) = 42 ∧ bt s ((p : Int) + 1) = 41
        · rw [if_pos h2]
          have hi : p + 1 < s.size := bt_in (p := p + 1) (c := 41) (by decide) (by rw [show ((p + 1 : Nat) : Int) = (p : Int) + 1 by omega]; exact h2.2.2)
          obtain ⟨K, hK⟩ := ih (s.size - (p + 2)) (by omega) (p + 2) (d - 1) rfl (by omega) (by omega)
          refine ⟨K + 2, fun k hk => ?_⟩
          obtain ⟨m, rfl⟩ : ∃ m, k = m + 1 + 1 := ⟨k - 2, by omega⟩
          have h3 := hK m (by omega)
          dsimp only at h3
          rw [decide_eq_true h2.2] at t2
          simp only [pascalineref08_blanks.l0, t1, t2, Option.bind_some]
          rw [if_pos (by omega), if_neg (by decide), if_pos (by omega)]
          simp only [pascalineref08_blanks.j1]
          rw [if_pos trivial, w2, wpred d (by omega) (by omega)]
          exact h3
        · rw [if_neg h2]
          -- the way on, for any test that is false
          have on : ∀ m, pascalineref08_blanks.l0 (m + 1 + 1) s (p : Int) (d : Int) = pascalineref08_blanks.j1 (m + 1) s (p : Int) (d : Int) false := by
            intro m
            rw [pascalineref08_blanks.l0]
            rw [if_pos (by omega), t1, Option.bind_some, if_neg (by decide)]
            by_cases h0 : d > 0
            · rw [decide_eq_false (fun q => h2 ⟨h0, q⟩)] at t2
              rw [if_pos (by omega), t2, Option.bind_some]
            · rw [if_neg (by omega)]
          by_cases h3 : d > 0 ∨ bt s (p : Int) = 32 ∨ bt s (p : Int) = 9 ∨ bt s (p : Int) = 10 ∨ bt s (p : Int) = 13
          · rw [if_pos h3]
            obtain ⟨K, hK⟩ := ih (s.size - (p + 1)) (by omega) (p + 1) d rfl (by omega) (by omega)
            refine ⟨K + 2, fun k hk => ?_⟩
            obtain ⟨m, rfl⟩ : ∃ m, k = m + 1 + 1 := ⟨k - 2, by omega⟩
            have h4 := hK m (by omega)
            dsimp only at h4
            dsimp only
            rw [on m, pascalineref08_blanks.j1, if_neg (by decide), w1]
            by_cases h0 : d > 0
            · rw [if_pos (by omega)]
              exact h4
            · rw [if_neg (by omega), if_pos (by omega), if_pos (by omega)]
              by_cases c1 : bt s (p : Int) = 32
              · rw [if_pos c1]; exact h4
              · rw [if_neg c1]
                by_cases c2 : bt s (p : Int) = 9
                · rw [if_pos c2]; exact h4
                · rw [if_neg c2]
                  by_cases c3 : bt s (p : Int) = 10
                  · rw [if_pos c3]; exact h4
                  · rw [if_neg c3, if_pos (by omega)]
                    exact h4
          · rw [if_neg h3]
            refine ⟨2, fun k hk => ?_⟩
            obtain ⟨m, rfl⟩ : ∃ m, k = m + 1 + 1 := ⟨k - 2, by omega⟩
            dsimp only
            rw [on m, pascalineref08_blanks.j1, if_neg (by decide), if_neg (by omega), if_pos (by omega), if_pos (by omega), if_neg (by omega), if_neg (by omega), if_neg (by omega), if_neg (by omega)]
            rfl
/-! ### numbers -/
theorem rnum_ev (s : ByteArray) (hs : s.size ≤ 140737488351232) (f : Nat) : ∀ n p a b, s.size - p = n → p ≤ s.size → f ≤ p → 0 ≤ a → 0 ≤ b → b ≤ 10995116277769 → (a = b ∧ a ≤ 2147483647 ∨ a > 2147483647 ∧ b > 2147483647) →
    Ev (fun k => pascalineref08_number.l0 k s (f : Int) (p : Int) b) (if runA isDig numG s p a > 2147483647 then (7, (f : Int), ((runE isDig s p : Nat) : Int), ⟨#[]⟩, 0, 80) else (2, (f : Int), ((runE isDig s p : Nat) : Int), s.extract f (runE isDig s p), wrap32 (runA isDig numG s p a), 0)) := by
  intro n
  induction n using Nat.strongRecOn with
  | _ n ih =>
    intro p a b hn hp hf ha0 hb0 hb1 hab
    have w1 := wsuc1 p (by omega)
    have hbt := bt_range s (p : Int)
    by_cases hc : isDig (bt s (p : Int)) = true
    · have hlt := in_of (f := isDig) rfl hc
      have hc' := hc
      simp only [isDig, decide_eq_true_eq] at hc'
      rw [runE_t rfl hc, runA_t rfl hc]
      by_cases hB : b < 1099511627776
      · have e1 : wrap64 (wrap64 (b * 10) + (bt s (p : Int) - 48) % 256) = b * 10 + (bt s (p : Int) - 48) := by
          rw [w64 (b * 10) (by omega) (by omega), Int.emod_eq_of_lt (by omega) (by omega), w64 _ (by omega) (by omega)]
        obtain ⟨K, hK⟩ := ih (s.size - (p + 1)) (by omega) (p + 1) (numG a (bt s (p : Int))) (b * 10 + (bt s (p : Int) - 48)) rfl (by omega) (by omega) (by unfold numG; split <;> omega) (by omega) (by omega) (by unfold numG; split <;> omega)
        refine ⟨K + 2, fun k hk => ?_⟩
        obtain ⟨m, rfl⟩ : ∃ m, k = m + 1 + 1 := ⟨k - 2, by omega⟩
        have h4 := hK m (by omega)
        dsimp only at h4
        dsimp only
        rw [pascalineref08_number.l0, if_pos (by omega), if_pos (by omega), rdigT, Option.bind_some, hc, pascalineref08_number.j1, if_pos rfl, if_pos hB, if_pos (by omega), if_pos (by omega), w1, e1]
        exact h4
      · obtain ⟨K, hK⟩ := ih (s.size - (p + 1)) (by omega) (p + 1) (numG a (bt s (p : Int))) b rfl (by omega) (by omega) (by unfold numG; split <;> omega) (by omega) (by omega) (by unfold numG; split <;> omega)
        refine ⟨K + 2, fun k hk => ?_⟩
        obtain ⟨m, rfl⟩ : ∃ m, k = m + 1 + 1 := ⟨k - 2, by omega⟩
        have h4 := hK m (by omega)
        dsimp only at h4
        dsimp only
        rw [pascalineref08_number.l0, if_pos (by omega), if_pos (by omega), rdigT, Option.bind_some, hc, pascalineref08_number.j1, if_pos rfl, if_neg hB, w1]
        exact h4
    · have hc := Bool.eq_false_iff.mpr hc
      rw [runE_f hc, runA_f hc]
      refine ⟨2, fun k hk => ?_⟩
      obtain ⟨m, rfl⟩ : ∃ m, k = m + 1 + 1 := ⟨k - 2, by omega⟩
      have on : pascalineref08_number.l0 (m + 1 + 1) s (f : Int) (p : Int) b = pascalineref08_number.j1 (m + 1) s (f : Int) (p : Int) b false := by
        rw [pascalineref08_number.l0]
        by_cases hlt : p < s.size
        · rw [if_pos (by omega), if_pos (by omega), rdigT, Option.bind_some, hc]
        · rw [if_neg (by omega)]
      dsimp only
      rw [on, pascalineref08_number.j1, if_neg (by decide)]
      rcases hab with ⟨h1, h2⟩ | ⟨h1, h2⟩
      · rw [if_neg (by omega), if_pos (by omega), if_pos (by omega), if_pos (by omega), Int.toNat_natCast, Int.toNat_natCast, if_neg (by omega), h1]
      · rw [if_pos h2, if_pos h1]
        rfl
/-! ### numbers of sixteen -/
def hexB : ByteArray := ⟨#[48, 49, 50, 51, 52, 53, 54, 55, 56, 57, 65, 66, 67, 68, 69, 70]⟩
def find16 (c : Int) : Nat → Nat → Int → Int
  | 0, _, d => d
  | n + 1, i, d => find16 c n (i + 1) (if bt hexB (i : Int) = c then (i : Int) else d)
theorem find_hv : ∀ c : Fin 256, find16 ((c.val : Nat) : Int) 16 0 (-1) = hv ((c.val : Nat) : Int) := by decide +kernel
theorem hex_in (s : ByteArray) (f p : Nat) (w : Int) (hp : p < s.size) : ∀ (n i : Nat) (d : Int) (m : Nat), i + n = 16 →
    pascalineref08_hex.l1 (m + n + 1) s (f : Int) (p : Int) w d (i : Int) = pascalineref08_hex.l1 (m + 1) s (f : Int) (p : Int) w (find16 (bt s (p : Int)) n i d) 16
  | 0, i, d, m, h => by
    obtain rfl : i = 16 := by omega
    rfl
  | n + 1, i, d, m, h => by
    have ih := fun d => hex_in s f p w hp n (i + 1) d m (by omega)
    rw [show m + (n + 1) + 1 = m + n + 1 + 1 by omega, pascalineref08_hex.l1, if_pos (by omega), if_pos (by omega), if_pos (by omega), if_pos (by omega), wsuc1 i (by omega)]
    show (if bt hexB (i : Int) = _ then _ else _) = _
    by_cases he : bt hexB (i : Int) = bt s (p : Int)
    · rw [if_pos he, ih, find16, if_pos he]
    · rw [if_neg he, ih, find16, if_neg he]
def hexEnd (s : ByteArray) (f q : Nat) (w : Int) : Int × Int × Int × ByteArray × Int × Int :=
  if q = f + 1 ∨ q > f + 1 + 8 then (7, (f : Int), (q : Int), ⟨#[]⟩, 0, 80) else (2, (f : Int), (q : Int), s.extract f q, wrap32 w, 0)
theorem rhex_ev (s : ByteArray) (hs : s.size ≤ 140737488351232) (f : Nat) (hf : f < s.size) : ∀ n p a, s.size - p = n → p ≤ s.size → f + 1 ≤ p → 0 ≤ a →
    Ev (fun k => pascalineref08_hex.l0 k s (f : Int) (p : Int) a) (hexEnd s f (runE isHx s p) (runA isHx hexG s p a)) := by
  intro n
  induction n using Nat.strongRecOn with
  | _ n ih =>
    intro p a hn hp hst h0
    have w1 := wsuc1 p (by omega)
    have wf1 := wsuc1 f (by omega)
    have wf9 : wrap64 ((f : Int) + 9) = ((f + 9 : Nat) : Int) := by rw [w64 _ (by omega) (by omega)]; omega
    have hb := bt_range s (p : Int)
    by_cases hlt : p < s.size
    · have hfd : find16 (bt s (p : Int)) 16 0 (-1) = hv (bt s (p : Int)) := by
        have := find_hv ⟨(bt s (p : Int)).toNat, by omega⟩
        dsimp only at this
        rw [Int.toNat_of_nonneg hb.1] at this
        exact this
      have go : ∀ m, pascalineref08_hex.l0 (m + 16 + 1 + 1) s (f : Int) (p : Int) a = pascalineref08_hex.l1 (m + 1) s (f : Int) (p : Int) a (hv (bt s (p : Int))) 16 := by
        intro m
        rw [pascalineref08_hex.l0, if_pos (by omega)]
        have := hex_in s f p a hlt 16 0 (-1) m rfl
        rw [hfd] at this
        exact this
      by_cases hc : isHx (bt s (p : Int)) = true
      · have hc' := hc
        simp only [isHx, decide_eq_true_eq] at hc'
        have hh : hv (bt s (p : Int)) < 16 := by unfold hv; repeat' split <;> omega
        rw [runE_t rfl hc, runA_t rfl hc]
        have e1 : (a * 16 % 4294967296 + hv (bt s (p : Int)) % 4294967296) % 4294967296 = hexG a (bt s (p : Int)) := by unfold hexG; omega
        obtain ⟨K, hK⟩ := ih (s.size - (p + 1)) (by omega) (p + 1) (hexG a (bt s (p : Int))) rfl (by omega) (by omega) (by unfold hexG; omega)
        refine ⟨K + 18, fun k hk => ?_⟩
        obtain ⟨m, rfl⟩ : ∃ m, k = m + 16 + 1 + 1 := ⟨k - 18, by omega⟩
        have h4 := hK m (by omega)
        dsimp only at h4
        dsimp only
        rw [go, pascalineref08_hex.l1, if_neg (by decide), if_neg (by omega), w1, e1]
        exact h4
      · have hc := Bool.eq_false_iff.mpr hc
        have hc' := hc
        simp only [isHx, decide_eq_false_iff_not] at hc'
        rw [runE_f hc, runA_f hc]
        refine ⟨18, fun k hk => ?_⟩
        obtain ⟨m, rfl⟩ : ∃ m, k = m + 16 + 1 + 1 := ⟨k - 18, by omega⟩
        dsimp only
        rw [go, pascalineref08_hex.l1, if_neg (by decide), if_pos (by omega), wf1, wf9]
        unfold hexEnd
        by_cases h3 : p = f + 1
        · rw [if_pos (by omega), if_pos (by omega)]
          rfl
        · rw [if_neg (by omega)]
          by_cases h4 : p > f + 9
          · rw [if_pos (by omega), if_pos (by omega)]
            rfl
          · rw [if_neg (by omega), if_pos (by omega), if_pos (by omega), if_pos (by omega), Int.toNat_natCast, Int.toNat_natCast, if_neg (by omega)]
    · have hz : bt s (p : Int) = 0 := bt_out s _ (by omega)
      have hc : isHx (bt s (p : Int)) = false := by rw [hz]; rfl
      rw [runE_f hc, runA_f hc]
      refine ⟨1, fun k hk => ?_⟩
      obtain ⟨m, rfl⟩ : ∃ m, k = m + 1 := ⟨k - 1, by omega⟩
      dsimp only
      rw [pascalineref08_hex.l0, if_neg (by omega), wf1, wf9]
      unfold hexEnd
      by_cases h3 : p = f + 1
      · rw [if_pos (by omega), if_pos (by omega)]
        rfl
      · rw [if_neg (by omega)]
        by_cases h4 : p > f + 9
        · rw [if_pos (by omega), if_pos (by omega)]
          rfl
        · rw [if_neg (by omega), if_pos (by omega), if_pos (by omega), if_pos (by omega), Int.toNat_natCast, Int.toNat_natCast, if_neg (by omega)]
end Go.Proofs.Ytmalonlbnjiclaa.Pure
