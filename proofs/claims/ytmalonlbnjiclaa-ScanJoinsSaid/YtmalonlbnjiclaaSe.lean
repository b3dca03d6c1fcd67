/- What the scanner's Next and All answer, in plain words. No condition beside the text's size. -/
import Derived.Test.YtmalonlbnjiclaaSd
import Derived.Test.YtmalonlbnjiclaaPAllx10
namespace Go.Proofs.Ytmalonlbnjiclaa.Pure
open Go.RowKit Go.Proofs.Ytmalonlbnjiclaa.PAll Go.Proofs.YtmalonlbnjiclaaW.PrintWords Go.Proofs.YtmalonlbnjiclaaW.PrintLast
set_option linter.unusedVariables false
set_option linter.unusedSimpArgs false

theorem wpred (t : Nat) (h1 : 1 ≤ t) (h2 : t ≤ 1000000000000000) : wrap64 ((t : Int) - 1) = ((t - 1 : Nat) : Int) := by rw [w64 _ (by omega) (by omega)]; omega
theorem blank_bd (s : ByteArray) : ∀ n p d, s.size - p = n → p ≤ s.size → p ≤ (blankS s p d).1 ∧ (blankS s p d).1 ≤ s.size ∧ ((blankS s p d).2 = 0 ∨ (blankS s p d).2 = 81 ∧ (blankS s p d).1 = s.size) := by
  intro n
  induction n using Nat.strongRecOn with
  | _ n ih =>
    intro p d hn hp
    rw [blankS]
    split
    · refine ⟨Nat.le_refl _, hp, ?_⟩
      split
      · exact .inr ⟨rfl, by dsimp only; omega⟩
      · exact .inl rfl
    · rename_i hlt
      split
      · rename_i h
        have h1 : p + 1 < s.size := bt_in (p := p + 1) (c := 42) (by decide) (by rw [show ((p + 1 : Nat) : Int) = (p : Int) + 1 by omega]; exact h.2)
        have := ih (s.size - (p + 2)) (by omega) (p + 2) (d + 1) rfl (by omega)
        exact ⟨by omega, this.2.1, this.2.2⟩
      · split
        · rename_i h
          have h1 : p + 1 < s.size := bt_in (p := p + 1) (c := 41) (by decide) (by rw [show ((p + 1 : Nat) : Int) = (p : Int) + 1 by omega]; exact h.2.2)
          have := ih (s.size - (p + 2)) (by omega) (p + 2) (d - 1) rfl (by omega)
          exact ⟨by omega, this.2.1, this.2.2⟩
        · split
          · have := ih (s.size - (p + 1)) (by omega) (p + 1) d rfl (by omega)
            exact ⟨by omega, this.2.1, this.2.2⟩
          · exact ⟨Nat.le_refl _, hp, .inl rfl⟩
theorem blankT (s : ByteArray) (hs : s.size ≤ 140737488351232) (p : Nat) (hp : p ≤ s.size) : scan_Scanner_blank.f s (p : Int) = some ((blankS s p 0).2, s, (((blankS s p 0).1 : Nat) : Int)) := by
  unfold scan_Scanner_blank.f
  rw [if_pos ⟨by omega, by omega, hs⟩, Int.toNat_natCast]
theorem one_bd (s : ByteArray) (p : Nat) (hp : p < s.size) : p < (oneS s p).to_ ∧ (oneS s p).to_ ≤ s.size ∧ ((oneS s p).e = 0 → 1 ≤ (oneS s p).kind ∧ (oneS s p).kind ≤ 6 ∧ ((oneS s p).kind = 4 → p + 2 ≤ (oneS s p).to_)) := by
  unfold oneS
  have big : ∀ f : Int → Bool, f 0 = false → f (bt s (p : Int)) = true → p < runE f s p := by
    intro f hf h
    rw [runE_t hf h]
    have := runE_ge f s (p + 1) (by omega)
    omega
  have le := fun f => runE_le f s p (by omega)
  have ge1 := fun f => runE_ge f s (p + 1) (by omega)
  have le1 := fun f => runE_le f s (p + 1) (by omega)
  split
  · rename_i h
    have hA : isAl (bt s (p : Int)) = true := by unfold isAl; rw [h, Bool.true_or]
    have h1 := big isAl rfl hA
    have h2 := le isAl
    repeat' split
    all_goals exact ⟨h1, h2, by dsimp only; omega⟩
  · split
    · rename_i h
      have h1 := big isDig rfl h
      have h2 := le isDig
      split
      all_goals exact ⟨h1, h2, by dsimp only; omega⟩
    · split
      · have h1 := ge1 isHx
        have h2 := le1 isHx
        split
        all_goals exact ⟨by dsimp only; omega, h2, by dsimp only; omega⟩
      · split
        · split
          · rename_i h
            have h1 : p + 2 < s.size := bt_in (p := p + 2) (c := 39) (by decide) (by rw [show ((p + 2 : Nat) : Int) = (p : Int) + 2 by omega]; exact h.2)
            exact ⟨by dsimp only; omega, by dsimp only; omega, by dsimp only; omega⟩
          · exact ⟨by dsimp only; omega, by dsimp only; omega, by dsimp only; omega⟩
        · split
          · have h1 := ge1 inTx
            have h2 := le1 inTx
            split
            · rename_i h
              have h3 := bt_in (c := 34) (by decide) h
              refine ⟨by dsimp only; omega, by dsimp only; omega, fun _ => ⟨by dsimp only; omega, by dsimp only; omega, fun _ => ?_⟩⟩
              dsimp only
              omega
            · exact ⟨by dsimp only; omega, h2, by dsimp only; omega⟩
          · split
            · rename_i h
              simp only [twoMk, decide_eq_true_eq] at h
              have h1 : p + 1 < s.size := bt_in (p := p + 1) (c := 61) (by decide) (by rw [show ((p + 1 : Nat) : Int) = (p : Int) + 1 by omega]; exact h.2)
              exact ⟨by dsimp only; omega, by dsimp only; omega, by dsimp only; omega⟩
            · split
              all_goals exact ⟨by dsimp only; omega, by dsimp only; omega, by dsimp only; omega⟩

structure Sg where
  kind : Int
  from_ : Nat
  to_ : Nat
  text : ByteArray
  n : Int
  e : Int
/-- The sign behind a place. -/
def nextS (s : ByteArray) (p : Nat) : Sg :=
  if (blankS s p 0).2 ≠ 0 then ⟨7, p, (blankS s p 0).1, ⟨#[]⟩, 0, (blankS s p 0).2⟩
  else if s.size ≤ (blankS s p 0).1 then ⟨0, (blankS s p 0).1, (blankS s p 0).1, ⟨#[]⟩, 0, 0⟩
  else if (oneS s (blankS s p 0).1).e ≠ 0 then ⟨7, (blankS s p 0).1, (oneS s (blankS s p 0).1).to_, ⟨#[]⟩, 0, (oneS s (blankS s p 0).1).e⟩
  else if (oneS s (blankS s p 0).1).kind = 4 then ⟨4, (blankS s p 0).1, (oneS s (blankS s p 0).1).to_, s.extract ((blankS s p 0).1 + 1) ((oneS s (blankS s p 0).1).to_ - 1), (oneS s (blankS s p 0).1).n, 0⟩
  else ⟨(oneS s (blankS s p 0).1).kind, (blankS s p 0).1, (oneS s (blankS s p 0).1).to_, s.extract (blankS s p 0).1 (oneS s (blankS s p 0).1).to_, (oneS s (blankS s p 0).1).n, 0⟩
theorem next_ev (s : ByteArray) (hs : s.size ≤ 140737488351232) (p : Nat) (hp : p ≤ s.size) : Ev (fun k => scan_Scanner_Next.f k s (p : Int))
    ((nextS s p).kind, (((nextS s p).from_ : Nat) : Int), (((nextS s p).to_ : Nat) : Int), (nextS s p).text, (nextS s p).n, (nextS s p).e, s, (((nextS s p).to_ : Nat) : Int)) := by
  have hb := blank_bd s _ p 0 rfl hp
  have hB := blankT s hs p hp
  unfold nextS
  obtain ⟨f, hf⟩ : ∃ f, (blankS s p 0).1 = f := ⟨_, rfl⟩
  obtain ⟨e, he⟩ : ∃ e, (blankS s p 0).2 = e := ⟨_, rfl⟩
  rw [hf, he] at hB hb
  rw [hf, he]
  clear hf he
  by_cases h0 : e = 0
  · rw [if_neg (by simpa using h0)]
    by_cases h1 : s.size ≤ f
    · rw [if_pos h1]
      refine ⟨0, fun k hk => ?_⟩
      simp only [scan_Scanner_Next.f, hB, Option.bind_some]
      rw [if_pos h0, if_pos (by omega)]
    · rw [if_neg h1]
      have ho := one_bd s f (by omega)
      obtain ⟨K, hK⟩ := one_ev s hs f (by omega)
      refine ⟨K, fun k hk => ?_⟩
      have h2 := hK k hk
      dsimp only at h2
      obtain ⟨o, hoo⟩ : ∃ o, oneS s f = o := ⟨_, rfl⟩
      rw [hoo] at h2 ho
      rw [hoo]
      clear hoo hK
      show scan_Scanner_Next.f k s (p : Int) = _
      unfold scan_Scanner_Next.f
      rw [hB, Option.bind_some]
      dsimp only
      rw [if_pos h0, if_neg (by omega), h2, Option.bind_some]
      dsimp only
      by_cases h3 : o.e = 0
      · rw [if_pos h3, if_neg (show ¬ (o.e ≠ 0) from fun q => q h3), if_pos (by omega), if_pos (by omega), if_pos (by omega)]
        have h6 := (ho.2.2 h3).2.2
        by_cases h4 : o.kind = 4
        · have h5 := h6 h4
          have e1 : wrap64 ((f : Int) + 1) = ((f + 1 : Nat) : Int) := wsuc1 f (by omega)
          have e2 : wrap64 ((o.to_ : Int) - 1) = ((o.to_ - 1 : Nat) : Int) := wpred o.to_ (by omega) (by omega)
          rw [if_pos h4, if_pos h4, e1, e2, if_pos (by omega), if_pos (by omega), if_pos (by omega), Int.toNat_natCast, Int.toNat_natCast, h4]
        · rw [if_neg h4, if_neg h4, Int.toNat_natCast, Int.toNat_natCast]
      · rw [if_neg h3, if_pos (show o.e ≠ 0 from h3)]
  · rw [if_pos (by simpa using h0)]
    refine ⟨0, fun k hk => ?_⟩
    simp only [scan_Scanner_Next.f, hB, Option.bind_some]
    rw [if_neg h0]
theorem next_bd (s : ByteArray) (p : Nat) (hp : p ≤ s.size) : p ≤ (nextS s p).from_ ∧ (nextS s p).from_ ≤ (nextS s p).to_ ∧ (nextS s p).to_ ≤ s.size ∧
    ((nextS s p).e = 0 → (nextS s p).kind ≠ 7 ∧ ((nextS s p).kind ≠ 0 → (nextS s p).from_ < (nextS s p).to_ ∧ ((nextS s p).kind = 4 → (nextS s p).from_ + 2 ≤ (nextS s p).to_ ∧ (nextS s p).text = s.extract ((nextS s p).from_ + 1) ((nextS s p).to_ - 1)) ∧ ((nextS s p).kind ≠ 4 → (nextS s p).text = s.extract (nextS s p).from_ (nextS s p).to_)) ∧
      ((nextS s p).kind = 0 → (nextS s p).from_ = s.size ∧ (nextS s p).to_ = s.size ∧ (nextS s p).text = ⟨#[]⟩ ∧ (nextS s p).n = 0)) := by
  have hb := blank_bd s _ p 0 rfl hp
  unfold nextS
  obtain ⟨f, hf⟩ : ∃ f, (blankS s p 0).1 = f := ⟨_, rfl⟩
  obtain ⟨e, he⟩ : ∃ e, (blankS s p 0).2 = e := ⟨_, rfl⟩
  rw [hf, he] at hb
  rw [hf, he]
  clear hf he
  split
  · rename_i h
    dsimp only
    exact ⟨Nat.le_refl _, hb.1, hb.2.1, fun q => absurd q h⟩
  · split
    · dsimp only
      exact ⟨hb.1, Nat.le_refl _, hb.2.1, fun _ => ⟨by decide, fun q => absurd rfl q, fun _ => ⟨by omega, by omega, rfl, rfl⟩⟩⟩
    · have ho := one_bd s f (by omega)
      obtain ⟨o, hoo⟩ : ∃ o, oneS s f = o := ⟨_, rfl⟩
      rw [hoo] at ho
      rw [hoo]
      clear hoo
      split
      · rename_i h
        dsimp only
        exact ⟨hb.1, by omega, ho.2.1, fun q => absurd q h⟩
      · rename_i h
        have h3 : o.e = 0 := by simpa using h
        have h6 := ho.2.2 h3
        split
        · rename_i h4
          dsimp only
          exact ⟨hb.1, by omega, ho.2.1, fun _ => ⟨by decide, fun _ => ⟨ho.1, fun _ => ⟨h6.2.2 h4, rfl⟩, fun q => absurd rfl q⟩, fun q => absurd q (by decide)⟩⟩
        · rename_i h4
          dsimp only
          exact ⟨hb.1, by omega, ho.2.1, fun _ => ⟨by omega, fun _ => ⟨ho.1, fun q => absurd q h4, fun _ => rfl⟩, fun q => absurd q (by omega)⟩⟩

/-! ### all signs -/
def sgn (x : Sg) : S32 := ⟨x.kind, (x.from_ : Int), (x.to_ : Int), x.text, x.n⟩
/-- All signs from a place on; where the first that is wrong begins, and what is wrong. -/
inductive Reads (s : ByteArray) : Nat → List Sg → Int → Int → Prop
  | bad (p : Nat) (h : (nextS s p).e ≠ 0) : Reads s p [] ((nextS s p).from_ : Int) (nextS s p).e
  | last (p : Nat) (h : (nextS s p).e = 0) (k : (nextS s p).kind = 0) : Reads s p [nextS s p] 0 0
  | more (p : Nat) (l : List Sg) (at_ e : Int) (h : (nextS s p).e = 0) (k : (nextS s p).kind ≠ 0) (r : Reads s (nextS s p).to_ l at_ e) : Reads s p (if e = 0 then nextS s p :: l else []) at_ e
theorem reads_ex (s : ByteArray) : ∀ d p, s.size - p = d → p ≤ s.size → ∃ l at_ e, Reads s p l at_ e := by
  intro d
  induction d using Nat.strongRecOn with
  | _ d ih =>
    intro p hd hp
    have hb := next_bd s p hp
    by_cases h : (nextS s p).e = 0
    · by_cases k : (nextS s p).kind = 0
      · exact ⟨_, _, _, .last p h k⟩
      · have h1 := ((hb.2.2.2 h).2.1 k).1
        obtain ⟨l, at_, e, r⟩ := ih (s.size - (nextS s p).to_) (by omega) (nextS s p).to_ rfl hb.2.2.1
        exact ⟨_, _, _, .more p l at_ e h k r⟩
    · exact ⟨_, _, _, .bad p h⟩
theorem reads_err {s : ByteArray} {p : Nat} {l : List Sg} {at_ e : Int} (h : Reads s p l at_ e) : (e ≠ 0 → l = []) ∧ (e = 0 → at_ = 0 ∧ l ≠ []) := by
  induction h with
  | bad p h => exact ⟨fun _ => rfl, fun q => absurd q h⟩
  | last p h k => exact ⟨fun q => absurd rfl q, fun _ => ⟨rfl, by simp⟩⟩
  | more p l at_ e h k r ih =>
    refine ⟨fun q => by rw [if_neg q], fun q => ⟨(ih.2 q).1, by rw [if_pos q]; simp⟩⟩
theorem all_loop {s : ByteArray} (hs : s.size ≤ 65536) {p : Nat} {l : List Sg} {at_ e : Int} (h : Reads s p l at_ e) : p ≤ s.size → ∀ acc : List S32, acc.length ≤ p →
    Ev (fun k => scan_All.l0 k acc s (p : Int)) (if e = 0 then acc ++ l.map sgn else [], at_, e) := by
  induction h with
  | bad p h =>
    intro hp acc ha
    obtain ⟨K, hK⟩ := next_ev s (by omega) p hp
    refine ⟨K + 1, fun k hk => ?_⟩
    obtain ⟨m, rfl⟩ : ∃ m, k = m + 1 := ⟨k - 1, by omega⟩
    have h2 := hK m (by omega)
    dsimp only at h2
    simp only [scan_All.l0, h2, Option.bind_some]
    rw [if_neg h, if_neg h]
  | last p h k =>
    intro hp acc ha
    obtain ⟨K, hK⟩ := next_ev s (by omega) p hp
    refine ⟨K + 1, fun k hk => ?_⟩
    obtain ⟨m, rfl⟩ : ∃ m, k = m + 1 := ⟨k - 1, by omega⟩
    have h2 := hK m (by omega)
    dsimp only at h2
    simp only [scan_All.l0, h2, Option.bind_some]
    rw [if_pos h, if_pos (by omega), if_pos (by assumption)]
    simp [sgn]
  | more p l at_ e h k r ih =>
    intro hp acc ha
    have hb := next_bd s p hp
    have h1 := ((hb.2.2.2 h).2.1 k).1
    obtain ⟨K, hK⟩ := next_ev s (by omega) p hp
    obtain ⟨K', hK'⟩ := ih hb.2.2.1 (acc ++ [sgn (nextS s p)]) (by simp; omega)
    refine ⟨K + K' + 1, fun k hk => ?_⟩
    obtain ⟨m, rfl⟩ : ∃ m, k = m + 1 := ⟨k - 1, by omega⟩
    have h2 := hK m (by omega)
    have h3 := hK' m (by omega)
    dsimp only at h2 h3
    simp only [scan_All.l0, h2, Option.bind_some]
    rw [if_pos h, if_pos (by omega), if_neg (by assumption)]
    refine Eq.trans h3 ?_
    by_cases he : e = 0
    · rw [if_pos he, if_pos he, if_pos he]
      simp
    · rw [if_neg he, if_neg he]
theorem all_ev {s : ByteArray} (hs : s.size ≤ 65536) {l : List Sg} {at_ e : Int} (h : Reads s 0 l at_ e) : Ev (fun k => scan_All.f k s) (l.map sgn, at_, e) := by
  obtain ⟨K, hK⟩ := all_loop hs h (by omega) [] (Nat.le_refl _)
  refine ⟨K, fun k hk => ?_⟩
  have h2 := hK k hk
  dsimp only at h2
  simp only [scan_All.f, scan_New.f, Option.bind_some]
  rw [if_neg (by omega)]
  refine Eq.trans h2 ?_
  by_cases he : e = 0
  · rw [if_pos he]
    simp
  · rw [if_neg he, (reads_err h).1 he]
    rfl
theorem all_long {s : ByteArray} (hs : 65536 < s.size) : Ev (fun k => scan_All.f k s) ([], 0, 242) := by
  refine ⟨0, fun k hk => ?_⟩
  simp only [scan_All.f]
  rw [if_pos (by omega)]
end Go.Proofs.Ytmalonlbnjiclaa.Pure
