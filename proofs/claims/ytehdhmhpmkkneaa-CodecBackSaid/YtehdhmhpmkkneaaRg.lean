/- The document's Count, Number, Text, Bytes and Same as contracts over rows of the call's own. -/
import Derived.Test.YtehdhmhpmkkneaaRf
namespace Go.Proofs.Ytehdhmhpmkkneaa
open Go.RowKit Go.Proofs.YtehdhmhpmkkneaaW.PrintWords Go.Proofs.Ytehdhmhpmkkneaa.PAll

theorem rcount (n : Int) (w : World) (h : n ≤ 9223372036854775807) : Calls Try.prog 75 #[.int .i64 n] w (Got w (cnt n.toNat)) :=
  (pascalineref12_Count.calls 10 n _ w (refCount n h)).mono fun _ _ ⟨v, he, hr, hb⟩ => ⟨v, he, Kd.own_of_R hr, hb⟩
theorem rnumber (n : Int) (w : World) (h0 : -2147483648 ≤ n) (h1 : n ≤ 2147483647) : Calls Try.prog 76 #[.int .i32 n] w (Got w (cnt (sgn n))) :=
  (pascalineref12_Number.calls 10 n _ w (refNumber n h0 h1)).mono fun _ _ ⟨v, he, hr, hb⟩ => ⟨v, he, Kd.own_of_R hr, hb⟩
theorem rtext (s : ByteArray) (w : World) (h : s.size ≤ 1000000000) : Calls Try.prog 79 #[.string s] w (Got w (cnt s.size ++ bytesOf s)) :=
  (pascalineref12_Text.calls 10 s _ w (refText s h)).mono fun _ _ ⟨v, he, hr, hb⟩ => ⟨v, he, Kd.own_of_R hr, hb⟩
theorem rword (n : Int) (w : World) (h0 : 0 ≤ n) (h1 : n ≤ 4294967295) : Calls Try.prog 78 #[.int .u32 n] w (Got w (wrd n)) :=
  (pascalineref01_Bytes.calls 5 n _ w (refBytes n h0 h1)).mono fun _ _ ⟨v, he, hr, hb⟩ => ⟨v, he, Kd.own_of_R hr, hb⟩

theorem refSame_loop (xs ys : List Int) (hl : xs.length = ys.length) (hm : xs.length ≤ 1000000000000) : ∀ (d k : Nat) (i : Nat), i + d = xs.length → d < k → pascalineref01_Same.l0 k xs ys (i : Int) = some (decide (xs.drop i = ys.drop i)) := by
  intro d
  induction d with
  | zero =>
    intro k i hi hk
    obtain ⟨k, rfl⟩ : ∃ m, k = m + 1 := ⟨k - 1, by omega⟩
    rw [pascalineref01_Same.l0, if_neg (by omega), List.drop_of_length_le (by omega), List.drop_of_length_le (by omega)]
    rfl
  | succ d ih =>
    intro k i hi hk
    obtain ⟨k, rfl⟩ : ∃ m, k = m + 1 := ⟨k - 1, by omega⟩
    have w1 : wrap64 ((i : Int) + 1) = ((i + 1 : Nat) : Int) := by unfold wrap64; omega
    have hx : i < xs.length := by omega
    have hy : i < ys.length := by omega
    rw [pascalineref01_Same.l0, if_pos (by omega), if_pos (by omega), if_pos (by omega), w1, ih k (i + 1) (by omega) (by omega)]
    have e1 : rd xs (i : Int) = xs[i] := by simp [rd, hx]
    have e2 : rd ys (i : Int) = ys[i] := by simp [rd, hy]
    rw [e1, e2, List.drop_eq_getElem_cons hx, List.drop_eq_getElem_cons hy]
    by_cases h : xs[i] = ys[i]
    · rw [if_pos h]; simp only [List.cons.injEq, h, true_and]
    · rw [if_neg h]; simp only [List.cons.injEq, h, false_and, decide_false]

theorem refSame (xs ys : List Int) (hm : xs.length ≤ 1000000000000) : pascalineref01_Same.f (xs.length + 1) xs ys = some (decide (xs = ys)) := by
  unfold pascalineref01_Same.f
  by_cases h : xs.length = ys.length
  · rw [if_pos (by omega)]
    have := refSame_loop xs ys h hm xs.length (xs.length + 1) 0 (by omega) (by omega)
    simpa using this
  · rw [if_neg (by omega)]
    have : ¬ xs = ys := fun e => h (by rw [e])
    simp [this]

/-- What is owned is read. -/
theorem reads_own {w : World} {B : Nat} {v : Value} {xs : List Int} (h : w.ownsRow B 5 1 v xs.length (nums .u8 xs)) : ∃ A c, v = .slice A xs.length c ∧ xs.length ≤ c ∧ Kd.C (Kd.int .u8) w A xs.length xs := by
  obtain ⟨A, c, rfl, hr⟩ := own_reads h
  exact ⟨A, c, rfl, own_le h, Kd.C_of_reads (d := (0 : Int)) (h1 := fun _ => rfl) hr⟩

theorem rsame (B B' : Nat) (v u : Value) (xs ys : List Int) (w : World) (hm : xs.length ≤ 1000000000) (hx : w.ownsRow B 5 1 v xs.length (nums .u8 xs)) (hy : w.ownsRow B' 5 1 u ys.length (nums .u8 ys)) :
    Calls Try.prog 17 #[v, u] w fun e w' => e = .returned (.bool (decide (xs = ys))) ∧ Drawn0 w w' := by
  obtain ⟨A, c, rfl, hc, hr⟩ := reads_own hx
  obtain ⟨A', c', rfl, hc', hr'⟩ := reads_own hy
  exact pascalineref01_Same.calls (xs.length + 1) A c xs A' c' ys _ w hr hc hr' hc' (refSame xs ys (by omega))

end Go.Proofs.Ytehdhmhpmkkneaa
