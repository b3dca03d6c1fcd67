/- Layer 13: the document's Bytes, More and Key (printed), and finger.More, Sum: what they answer, in plain words. -/
import Derived.Test.YtehdhmhpmkkneaaRg
import Derived.Test.YtehdhmhpmkkneaaFw
import Derived.Test.YtehdhmhpmkkneaaPAllx8
import Derived.Test.YtehdhmhpmkkneaaPAllx10
import Derived.Test.YtehdhmhpmkkneaaPAllx11
namespace Go.Proofs.Ytehdhmhpmkkneaa
open Go.RowKit Go.Proofs.YtehdhmhpmkkneaaW.PrintWords Go.Proofs.Ytehdhmhpmkkneaa.PAll

theorem refCountK {k : Nat} (hk : 10 ≤ k) (n : Int) (h : n ≤ 9223372036854775807) : pascalineref12_Count.f k n = some (cnt n.toNat) := at_rounds (g := fun k => pascalineref12_Count.f k n) (fun j => pascalineref12_Count.mono n j) hk (refCount n h)
theorem refNumberK {k : Nat} (hk : 10 ≤ k) (n : Int) (h0 : -2147483648 ≤ n) (h1 : n ≤ 2147483647) : pascalineref12_Number.f k n = some (cnt (sgn n)) := at_rounds (g := fun k => pascalineref12_Number.f k n) (fun j => pascalineref12_Number.mono n j) hk (refNumber n h0 h1)
theorem refTextK {k : Nat} (hk : 10 ≤ k) (s : ByteArray) (h : s.size ≤ 1000000000) : pascalineref12_Text.f k s = some (cnt s.size ++ bytesOf s) := at_rounds (g := fun k => pascalineref12_Text.f k s) (fun j => pascalineref12_Text.mono s j) hk (refText s h)

theorem wrap_succ (i : Nat) (h : i < 9223372036854775807) : wrap64 ((i : Int) + 1) = ((i + 1 : Nat) : Int) := by unfold wrap64; omega

theorem refPars (l : List S80) (i : Nat) (s : ByteArray) (f1 f2 f3 : Int) (ps : List S119) (hi : i < 9223372036854775807) (hp : ps.length ≤ 9223372036854775807) (ok : ∀ p ∈ ps, Ok119 p) : ∀ (d k j : Nat) (acc : List Int), j + d = ps.length → 10 ≤ k → acc.length + (ps.flatMap parB).length ≤ 10000000000 + ((ps.take j).flatMap parB).length →
    pascalineref13_Bytes.l1 (k + d + 1) l acc (i : Int) (j : Int) s f1 f2 f3 ps = pascalineref13_Bytes.l0 k l (acc ++ (ps.drop j).flatMap parB) ((i + 1 : Nat) : Int) := by
  intro d
  induction d with
  | zero =>
    intro k j acc hj hk hl
    rw [pascalineref13_Bytes.l1, if_neg (by omega), wrap_succ i hi, List.drop_of_length_le (by omega)]
    simp
  | succ d ih =>
    intro k j acc hj hk hl
    have hjl : j < ps.length := by omega
    have ft := flat_take parB ps j hjl
    have fs := flat_snoc parB ps j hjl
    have e1 : rd_T119 ps (j : Int) = ps[j] := by simp [rd_T119, hjl]
    have okp : Ok119 ps[j] := ok _ (List.getElem_mem hjl)
    have eB : parB ps[j] = cnt ps[j].f0.toNat ++ cnt (if ps[j].f1 = true then 1 else 0) := rfl
    have lB : (parB ps[j]).length = (cnt ps[j].f0.toNat).length + 1 := by
      rw [eB, List.length_append]
      split
      · rw [cnt_low (n := 1) (by omega)]; rfl
      · rw [cnt_low (n := 0) (by omega)]; rfl
    rw [pascalineref13_Bytes.l1, if_pos (by omega), if_pos (by omega), e1, refCountK (by omega) _ (bd64 okp).2]
    simp only [Option.bind_some]
    rw [if_pos (by omega), wrap_succ j (by omega)]
    have hd : (ps.drop j).flatMap parB = parB ps[j] ++ (ps.drop (j + 1)).flatMap parB := by
      rw [List.drop_eq_getElem_cons hjl, List.flatMap_cons]
    rw [hd]
    have hl2 : ∀ z : Int, (acc ++ cnt ps[j].f0.toNat ++ [z]).length + (ps.flatMap parB).length ≤ 10000000000 + ((ps.take (j + 1)).flatMap parB).length := by
      intro z
      rw [fs]
      simp only [List.length_append, List.length_cons, List.length_nil]
      omega
    by_cases hb : ps[j].f1 = true
    · rw [if_pos hb, if_pos (by simp only [List.length_append]; omega), show k + (d + 1) = k + d + 1 from rfl, ih k (j + 1) _ (by omega) hk (hl2 1), eB, if_pos hb, cnt_low (n := 1) (by omega)]
      simp only [List.append_assoc]
      rfl
    · rw [if_neg hb, if_pos (by simp only [List.length_append]; omega), show k + (d + 1) = k + d + 1 from rfl, ih k (j + 1) _ (by omega) hk (hl2 0), eB, if_neg hb, cnt_low (n := 0) (by omega)]
      simp only [List.append_assoc]
      rfl

/-- The rounds that a list takes. -/
def rounds80 : List S80 → Nat
  | [] => 11
  | x :: r => x.f4.length + 2 + rounds80 r
theorem rounds80_ge : ∀ l : List S80, 11 ≤ rounds80 l
  | [] => Nat.le_refl _
  | _ :: r => by have := rounds80_ge r; simp only [rounds80]; omega

theorem refExps (l : List S80) (hl : l.length < 9223372036854775807) (ok : ∀ x ∈ l, Ok80 x) (hs : ∀ x ∈ l, x.f0.size ≤ 1000000000) : ∀ (r i : Nat) (acc : List Int), i + r = l.length → acc.length + (l.flatMap expB).length ≤ 1000000000 + ((l.take i).flatMap expB).length →
    pascalineref13_Bytes.l0 (rounds80 (l.drop i)) l acc (i : Int) = some (acc ++ (l.drop i).flatMap expB) := by
  intro r
  induction r with
  | zero =>
    intro i acc hi ha
    have e : l.drop i = [] := List.drop_of_length_le (by omega)
    rw [e]
    show pascalineref13_Bytes.l0 (10 + 1) l acc (i : Int) = _
    rw [pascalineref13_Bytes.l0, if_neg (by omega)]
    simp
  | succ r ih =>
    intro i acc hi ha
    have hil : i < l.length := by omega
    have ft := flat_take expB l i hil
    have fs := flat_snoc expB l i hil
    have e1 : rd_T80 l (i : Int) = l[i] := by simp [rd_T80, hil]
    have hd : l.drop i = l[i] :: l.drop (i + 1) := List.drop_eq_getElem_cons hil
    have hr := rounds80_ge (l.drop (i + 1))
    obtain ⟨o0, o1, o2, o3, o4, o5⟩ := ok _ (List.getElem_mem hil)
    have hs0 := hs _ (List.getElem_mem hil)
    rw [hd]
    have eB : expB l[i] = headB l[i] ++ l[i].f4.flatMap parB := rfl
    have eH : headB l[i] = (cnt l[i].f0.size ++ bytesOf l[i].f0) ++ cnt l[i].f1.toNat ++ cnt l[i].f2.toNat ++ cnt (sgn l[i].f3) ++ cnt l[i].f4.length := rfl
    have lB := congrArg List.length eB
    have lH := congrArg List.length eH
    simp only [List.length_append] at lB lH
    have o4' : l[i].f4.length ≤ 9223372036854775807 := by have := o4; unfold maxLen at this; omega
    show pascalineref13_Bytes.l0 (l[i].f4.length + 2 + rounds80 (l.drop (i + 1))) l acc (i : Int) = _
    rw [show l[i].f4.length + 2 + rounds80 (l.drop (i + 1)) = (rounds80 (l.drop (i + 1)) + l[i].f4.length + 1) + 1 by omega]
    rw [pascalineref13_Bytes.l0, if_pos (by omega), if_pos (by omega), e1, refTextK (by omega) _ hs0]
    simp only [Option.bind_some]
    rw [if_pos (by simp only [List.length_append] at *; omega), refCountK (by omega) _ (bd64 o1).2]
    simp only [Option.bind_some]
    rw [if_pos (by simp only [List.length_append] at *; omega), refCountK (by omega) _ (bd64 o2).2]
    simp only [Option.bind_some]
    rw [if_pos (by simp only [List.length_append] at *; omega), refNumberK (by omega) _ (bd32 o3).1 (bd32 o3).2]
    simp only [Option.bind_some]
    rw [if_pos (by simp only [List.length_append] at *; omega), refCountK (by omega) _ (by omega)]
    simp only [Option.bind_some, Int.toNat_natCast]
    rw [if_pos (by simp only [List.length_append] at *; omega)]
    have hp := refPars l i l[i].f0 l[i].f1 l[i].f2 l[i].f3 l[i].f4 (by omega) o4' o5 l[i].f4.length (rounds80 (l.drop (i + 1))) 0 (acc ++ (cnt l[i].f0.size ++ bytesOf l[i].f0) ++ cnt l[i].f1.toNat ++ cnt l[i].f2.toNat ++ cnt (sgn l[i].f3) ++ cnt l[i].f4.length) (by omega) (by omega) (by simp only [List.length_append] at *; simp only [List.take_zero, List.flatMap_nil, List.length_nil]; omega)
    rw [Int.natCast_zero] at hp
    rw [hp, List.drop_zero, ih (i + 1) _ (by omega) (by rw [fs]; simp only [List.length_append] at *; omega), List.flatMap_cons, eB, eH]
    simp only [List.append_assoc]

theorem refBytes13 (l : List S80) (ok : ∀ x ∈ l, Ok80 x) (hl : l.length < 9223372036854775807) (hT : (expsB l).length ≤ 1000000000) (hs : ∀ x ∈ l, x.f0.size ≤ 1000000000) : pascalineref13_Bytes.f (rounds80 l) l = some (expsB l) := by
  unfold pascalineref13_Bytes.f
  have hr := rounds80_ge l
  rw [refCountK (by omega) _ (by omega)]
  simp only [Option.bind_some, Int.toNat_natCast]
  unfold expsB at hT
  rw [List.length_append] at hT
  have h := refExps l hl ok hs l.length 0 (cnt l.length) (by omega) (by simp only [List.take_zero, List.flatMap_nil, List.length_nil]; omega)
  rw [Int.natCast_zero, List.drop_zero] at h
  exact h
end Go.Proofs.Ytehdhmhpmkkneaa
