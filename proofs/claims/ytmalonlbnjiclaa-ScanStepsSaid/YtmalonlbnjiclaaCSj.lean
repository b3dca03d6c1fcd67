/- The document's Next and All answer what the scanner's do. No condition beside the text's size. -/
import Derived.Test.YtmalonlbnjiclaaCSi
namespace Go.Proofs.Ytmalonlbnjiclaa.Pure
open Go.RowKit Go.Proofs.Ytmalonlbnjiclaa.PAll Go.Proofs.YtmalonlbnjiclaaW.PrintWords Go.Proofs.YtmalonlbnjiclaaW.PrintLast
set_option linter.unusedVariables false
set_option linter.unusedSimpArgs false
theorem oneR_sign {s : ByteArray} {f : Nat} (h1 : ¬ isLet (bt s (f : Int)) = true) (h2 : ¬ isDig (bt s (f : Int)) = true) (h : bt s (f : Int) = 39) : oneR s f = (if isPl (bt s ((f : Int) + 1)) = true ∧ bt s ((f : Int) + 2) = 39 then (3, (f : Int), ((f + 3 : Nat) : Int), s.extract f (f + 3), wrap32 (bt s ((f : Int) + 1)), 0) else (7, (f : Int), ((f + 1 : Nat) : Int), ⟨#[]⟩, 0, 82)) := by
  unfold oneR oneS
  simp only [if_neg h1, if_neg h2]
  rw [if_neg (by omega : ¬ bt s (f : Int) = 36), if_pos h]
  by_cases h3 : isPl (bt s ((f : Int) + 1)) = true ∧ bt s ((f : Int) + 2) = 39
  · simp only [if_pos h3]
    rfl
  · simp only [if_neg h3]
    rfl
theorem oneR_mark {s : ByteArray} {f : Nat} (h1 : ¬ isLet (bt s (f : Int)) = true) (h2 : ¬ isDig (bt s (f : Int)) = true) (h3 : ¬ bt s (f : Int) = 36) (h4 : ¬ bt s (f : Int) = 39) (h5 : ¬ bt s (f : Int) = 34) :
    oneR s f = (if twoMk (bt s (f : Int)) (bt s ((f : Int) + 1)) = true then (6, (f : Int), ((f + 2 : Nat) : Int), s.extract f (f + 2), 0, 0) else markEnd s f (isMk (bt s (f : Int)))) := by
  unfold oneR oneS markEnd
  simp only [if_neg h1, if_neg h2, if_neg h3, if_neg h4, if_neg h5]
  by_cases h6 : twoMk (bt s (f : Int)) (bt s ((f : Int) + 1)) = true
  · simp only [if_pos h6]
    rfl
  · simp only [if_neg h6]
    by_cases h7 : isMk (bt s (f : Int)) = true
    · simp only [if_pos h7]
      rfl
    · simp only [if_neg h7]
      rfl
theorem next_oneR {s : ByteArray} {p : Nat} (h0 : (blankS s p 0).2 = 0) (h1 : ¬ s.size ≤ (blankS s p 0).1) :
    (((nextS s p).kind, (((nextS s p).from_ : Nat) : Int), (((nextS s p).to_ : Nat) : Int), (nextS s p).text, (nextS s p).n, (nextS s p).e) : R6) = oneR s (blankS s p 0).1 := by
  unfold nextS oneR
  obtain ⟨f, hf⟩ : ∃ f, (blankS s p 0).1 = f := ⟨_, rfl⟩
  rw [hf] at h1 ⊢
  rw [h0]
  simp only [if_neg h1]
  rw [if_neg (by decide)]
  obtain ⟨o, ho⟩ : ∃ o, oneS s f = o := ⟨_, rfl⟩
  rw [ho]
  by_cases h2 : o.e ≠ 0
  · simp only [if_pos h2]
  · simp only [if_neg h2]
    by_cases h3 : o.kind = 4
    · simp only [if_pos h3]
    · simp only [if_neg h3]
theorem rone_ev (s : ByteArray) (hs : s.size ≤ 140737488351232) (p f : Nat) (hf : f < s.size) (b : Int × Bool) (hb1 : b.1 = (f : Int)) (hb2 : b.2 = true) (hB : Ev (fun k => pascalineref08_blanks.f k s (p : Int)) b) :
    Ev (fun k => pascalineref08_Next.f k s (p : Int)) (oneR s f) := by
  obtain ⟨K0, hK0⟩ := hB
  obtain ⟨b1, b2⟩ := b
  dsimp only at hb1 hb2
  subst hb1 hb2
  have go : ∀ {k}, K0 ≤ k → pascalineref08_blanks.f k s (p : Int) = some ((f : Int), true) := fun hk => hK0 _ hk
  clear hK0
  have w1 := wsuc1 f (by omega)
  have w2 := wsuc2 f (by omega)
  have w3 := wsuc3 f (by omega)
  by_cases hl : isLet (bt s (f : Int)) = true
  · rw [oneR_let hl]
    obtain ⟨K, hK⟩ := rname_ev s hs f _ f rfl (by omega) (Nat.le_refl _)
    refine ⟨K0 + K, fun k hk => ?_⟩
    have h2 := hK k (by omega)
    dsimp only at h2
    dsimp only
    unfold pascalineref08_Next.f
    rw [go (by omega), Option.bind_some, if_pos rfl, if_neg (by dsimp only; omega), if_pos (by dsimp only; omega), if_pos (by dsimp only; omega), rletT, Option.bind_some, if_pos hl]
    exact h2
  · by_cases hg : isDig (bt s (f : Int)) = true
    · rw [oneR_dig hl hg]
      obtain ⟨K, hK⟩ := rnum_ev s hs f _ f 0 0 rfl (by omega) (Nat.le_refl _) (by omega) (by omega) (by omega) (by omega)
      refine ⟨K0 + K, fun k hk => ?_⟩
      have h2 := hK k (by omega)
      dsimp only at h2
      dsimp only
      unfold pascalineref08_Next.f
      rw [go (by omega), Option.bind_some, if_pos rfl, if_neg (by dsimp only; omega), if_pos (by dsimp only; omega), if_pos (by dsimp only; omega), rletT, Option.bind_some, if_neg hl, rdigT, Option.bind_some, if_pos hg]
      unfold pascalineref08_number.f
      dsimp only
      rw [h2]
      split <;> rfl
    · by_cases h36 : bt s (f : Int) = 36
      · rw [oneR_hex hl hg h36]
        obtain ⟨K, hK⟩ := rhex_ev s hs f hf _ (f + 1) 0 rfl (by omega) (by omega) (by omega)
        refine ⟨K0 + K, fun k hk => ?_⟩
        have h2 := hK k (by omega)
        dsimp only at h2
        dsimp only
        unfold pascalineref08_Next.f
        rw [go (by omega), Option.bind_some, if_pos rfl, if_neg (by dsimp only; omega), if_pos (by dsimp only; omega), if_pos (by dsimp only; omega), rletT, Option.bind_some, if_neg hl, rdigT, Option.bind_some, if_neg hg, if_pos h36]
        unfold pascalineref08_hex.f
        dsimp only
        rw [w1, h2]
        rfl
      · by_cases h39 : bt s (f : Int) = 39
        · rw [oneR_sign hl hg h39]
          refine ⟨K0, fun k hk => ?_⟩
          dsimp only
          unfold pascalineref08_Next.f
          rw [go (by omega), Option.bind_some, if_pos rfl, if_neg (by dsimp only; omega), if_pos (by dsimp only; omega), if_pos (by dsimp only; omega), rletT, Option.bind_some, if_neg hl, rdigT, Option.bind_some, if_neg hg, if_neg h36, if_pos h39]
          dsimp only
          rw [w1, w2, w3]
          have c1 : (((f + 1 : Nat)) : Int) = (f : Int) + 1 := by omega
          have c2 : (((f + 2 : Nat)) : Int) = (f : Int) + 2 := by omega
          by_cases h2 : f + 2 < s.size
          · rw [if_pos (by omega), if_pos (by omega), if_pos (by omega), c1, c2]
            by_cases h32 : bt s ((f : Int) + 1) ≥ 32
            · rw [if_pos h32]
              by_cases h126 : bt s ((f : Int) + 1) ≤ 126
              · have hpl : isPl (bt s ((f : Int) + 1)) = true := by simp only [isPl, decide_eq_true_eq]; omega
                rw [if_pos h126, if_pos (by omega)]
                by_cases h3 : bt s ((f : Int) + 2) = 39
                · rw [if_pos h3, if_pos (by omega), if_pos (by omega), if_pos ⟨hpl, h3⟩, Int.toNat_natCast, Int.toNat_natCast]
                · rw [if_neg h3, if_neg (fun q => h3 q.2)]
                  rfl
              · have hpl : ¬ isPl (bt s ((f : Int) + 1)) = true := by simp only [isPl, decide_eq_true_eq]; omega
                rw [if_neg h126, if_neg (fun q => hpl q.1)]
                rfl
            · have hpl : ¬ isPl (bt s ((f : Int) + 1)) = true := by simp only [isPl, decide_eq_true_eq]; omega
              rw [if_neg h32, if_neg (fun q => hpl q.1)]
              rfl
          · have h0 : bt s ((f : Int) + 2) = 0 := bt_out s _ (by omega)
            rw [if_neg (by omega), if_neg (fun q => by have := q.2; omega)]
            rfl
        · by_cases h34 : bt s (f : Int) = 34
          · rw [oneR_text hl hg h34]
            obtain ⟨K, hK⟩ := rtext_ev s hs f _ (f + 1) rfl (by omega) (Nat.le_refl _)
            refine ⟨K0 + K, fun k hk => ?_⟩
            have h2 := hK k (by omega)
            dsimp only at h2
            dsimp only
            unfold pascalineref08_Next.f
            rw [go (by omega), Option.bind_some, if_pos rfl, if_neg (by dsimp only; omega), if_pos (by dsimp only; omega), if_pos (by dsimp only; omega), rletT, Option.bind_some, if_neg hl, rdigT, Option.bind_some, if_neg hg, if_neg h36, if_neg h39, if_pos h34]
            dsimp only
            rw [w1]
            exact h2
          · rw [oneR_mark hl hg h36 h39 h34]
            have t1 := twoT s f 58 61 (by omega) (by decide) (by decide)
            have t2 := twoT s f 60 61 (by omega) (by decide) (by decide)
            have t3 := twoT s f 62 61 (by omega) (by decide) (by decide)
            have hin : twoMk (bt s (f : Int)) (bt s ((f : Int) + 1)) = true → f + 1 < s.size := by
              intro h
              simp only [twoMk, decide_eq_true_eq] at h
              exact bt_in (p := f + 1) (c := 61) (by decide) (by rw [show ((f + 1 : Nat) : Int) = (f : Int) + 1 by omega]; exact h.2)
            obtain ⟨K, hK⟩ := rmark_j s hs f hf (bt s (f : Int)) (twoMk (bt s (f : Int)) (bt s ((f : Int) + 1))) hin
            clear hin
            refine ⟨K0 + K, fun k hk => ?_⟩
            have h2 := hK k (by omega)
            dsimp only at h2
            dsimp only
            unfold pascalineref08_Next.f
            rw [go (by omega), Option.bind_some, if_pos rfl, if_neg (by dsimp only; omega), if_pos (by dsimp only; omega), if_pos (by dsimp only; omega), rletT, Option.bind_some, if_neg hl, rdigT, Option.bind_some, if_neg hg, if_neg h36, if_neg h39, if_neg h34]
            dsimp only
            rw [t1, Option.bind_some]
            obtain ⟨c, hc⟩ : ∃ c, bt s (f : Int) = c := ⟨_, rfl⟩
            obtain ⟨d, hd⟩ : ∃ d, bt s ((f : Int) + 1) = d := ⟨_, rfl⟩
            rw [hc, hd] at h2 t2 t3
            rw [hc, hd]
            by_cases h61 : d = 61
            · by_cases a1 : c = 58
              · rw [if_pos (decide_eq_true ⟨a1, h61⟩)]
                rw [show twoMk c d = true by simp only [twoMk, decide_eq_true_eq]; exact ⟨.inl a1, h61⟩] at h2 ⊢
                exact h2
              · rw [if_neg (by rw [decide_eq_true_eq]; exact fun q => a1 q.1), t2, Option.bind_some]
                by_cases a2 : c = 60
                · rw [if_pos (decide_eq_true ⟨a2, h61⟩)]
                  rw [show twoMk c d = true by simp only [twoMk, decide_eq_true_eq]; exact ⟨.inr (.inl a2), h61⟩] at h2 ⊢
                  exact h2
                · rw [if_neg (by rw [decide_eq_true_eq]; exact fun q => a2 q.1), t3, Option.bind_some]
                  rw [show decide (c = 62 ∧ d = 61) = twoMk c d by unfold twoMk; rw [decide_eq_decide]; omega]
                  exact h2
            · rw [if_neg (by rw [decide_eq_true_eq]; exact fun q => h61 q.2), t2, Option.bind_some, if_neg (by rw [decide_eq_true_eq]; exact fun q => h61 q.2), t3, Option.bind_some]
              rw [show decide (c = 62 ∧ d = 61) = twoMk c d by unfold twoMk; rw [decide_eq_decide]; omega]
              exact h2
theorem rnext_ev (s : ByteArray) (hs : s.size ≤ 140737488351232) (p : Nat) (hp : p ≤ s.size) : Ev (fun k => pascalineref08_Next.f k s (p : Int))
    ((nextS s p).kind, (((nextS s p).from_ : Nat) : Int), (((nextS s p).to_ : Nat) : Int), (nextS s p).text, (nextS s p).n, (nextS s p).e) := by
  have hb := blank_bd s _ p 0 rfl hp
  have hB : Ev (fun k => pascalineref08_blanks.f k s (p : Int)) ((((blankS s p 0).1 : Nat) : Int), decide ((blankS s p 0).2 = 0)) := rblank_ev s hs _ p 0 rfl hp (by omega)
  by_cases h0 : (blankS s p 0).2 = 0
  · by_cases h1 : s.size ≤ (blankS s p 0).1
    · obtain ⟨K, hK⟩ := hB
      refine ⟨K, fun k hk => ?_⟩
      have h2 := hK k hk
      unfold nextS
      obtain ⟨f, hf⟩ : ∃ f, (blankS s p 0).1 = f := ⟨_, rfl⟩
      rw [hf] at h1 h2 hb ⊢
      rw [h0] at h2 ⊢
      clear hf hK
      dsimp only at h2
      unfold pascalineref08_Next.f
      dsimp only
      rw [h2, Option.bind_some, if_pos (by dsimp only; decide), if_pos (by dsimp only; omega)]
      simp only [if_pos h1]
      rw [if_neg (by decide)]
    · rw [next_oneR h0 h1]
      exact rone_ev s hs p (blankS s p 0).1 (by omega) _ rfl (decide_eq_true h0) hB
  · obtain ⟨K, hK⟩ := hB
    have h81 := (hb.2.2.resolve_left h0)
    refine ⟨K, fun k hk => ?_⟩
    have h2 := hK k hk
    dsimp only at h2
    unfold nextS
    rw [decide_eq_false h0] at h2
    simp only [if_pos (show (blankS s p 0).2 ≠ 0 from h0)]
    unfold pascalineref08_Next.f
    rw [h2, Option.bind_some, if_neg (by dsimp only; decide), h81.1, h81.2]
    rfl
/-! ### all signs -/
end Go.Proofs.Ytmalonlbnjiclaa.Pure
