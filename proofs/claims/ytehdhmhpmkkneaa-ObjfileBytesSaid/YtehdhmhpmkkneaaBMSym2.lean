/- MSym2. -/
import Derived.Test.YtehdhmhpmkkneaaBMKey
import Derived.Laws.Strings
import Derived.Test.YtehdhmhpmkkneaaBMa
import Derived.Test.YtehdhmhpmkkneaaBPAlly26
import Derived.Test.YtehdhmhpmkkneaaBPAlly31
import Derived.Test.YtehdhmhpmkkneaaBPAlly35
import Derived.Test.YtehdhmhpmkkneaaBPAlly36
import Derived.Test.YtehdhmhpmkkneaaBPAlly33
import Derived.Test.YtehdhmhpmkkneaaBOp2
/- The texts Mp, Na, Nb, Nc, Nd, Ne, Or, one behind the other. -/
/- Plain laws of names, imports and objects: what the two sides compute is one. -/
namespace Go.Proofs.Ytehdhmhpmkkneaa
open Go.RowKit Go.Proofs.YtehdhmhpmkkneaaW.PrintWords Go.Proofs.YtehdhmhpmkkneaaW.PrintLast Go.Proofs.Ytehdhmhpmkkneaa.PAll
def Ev {α : Type} (F : Nat → Option α) (r : α) : Prop := ∃ k0, ∀ k, k0 ≤ k → F k = some r
theorem Ev.const {α : Type} (r : α) : Ev (fun _ => some r) r := ⟨0, fun _ _ => rfl⟩
theorem Ev.step {α : Type} {F G : Nat → Option α} {r : α} (h : ∀ k, F (k + 1) = G k) (hG : Ev G r) : Ev F r := by
  obtain ⟨k0, h0⟩ := hG
  refine ⟨k0 + 1, fun k hk => ?_⟩
  obtain ⟨j, rfl⟩ : ∃ j, k = j + 1 := ⟨k - 1, by omega⟩
  rw [h j]
  exact h0 j (by omega)
theorem Ev.bind {α β : Type} {F : Nat → Option α} {G : Nat → α → Option β} {t : α} {r : β} (h : Ev F t) (hG : Ev (fun k => G k t) r) : Ev (fun k => (F k).bind (G k)) r := by
  obtain ⟨k0, h0⟩ := h
  obtain ⟨k1, h1⟩ := hG
  refine ⟨k0 + k1, fun k hk => ?_⟩
  show (F k).bind (G k) = some r
  rw [h0 k (by omega)]
  exact h1 k (by omega)
theorem Ev.congr {α : Type} {F G : Nat → Option α} {r : α} (h : ∀ k, F k = G k) (hG : Ev G r) : Ev F r := by
  obtain ⟨k0, h0⟩ := hG
  exact ⟨k0, fun k hk => (h k).trans (h0 k hk)⟩
theorem Ev.one {α : Type} {F : Nat → Option α} {r : α} (h : Ev F r) : ∃ k, F k = some r := by
  obtain ⟨k0, h0⟩ := h
  exact ⟨k0, h0 _ (by omega)⟩
/-! ### names -/
def okc (s : ByteArray) (i : Nat) : Bool :=
  decide ((97 ≤ bt s i ∧ bt s i ≤ 122) ∨ (65 ≤ bt s i ∧ bt s i ≤ 90) ∨ (i ≠ 0 ∧ 48 ≤ bt s i ∧ bt s i ≤ 57))
def allc (s : ByteArray) : Nat → Nat → Bool
  | 0, _ => true
  | n + 1, i => okc s i && allc s n (i + 1)
def nameB (s : ByteArray) : Bool := decide (1 ≤ s.size ∧ s.size ≤ 32) && allc s s.size 0
theorem wrap64_nat (i : Nat) (h : i < 9223372036854775807) : wrap64 ((i : Int) + 1) = ((i + 1 : Nat) : Int) := by unfold wrap64; omega
theorem name_code (s : ByteArray) (hs : s.size ≤ 9223372036854775807) : ∀ n i, i + n = s.size → Ev (fun k => symfile_Name.l0 k s (s.size : Int) (i : Int)) (allc s n i)
  | 0, i, h => Ev.step (G := fun _ => some true) (fun k => by
      simp only [symfile_Name.l0]
      rw [if_neg (by omega)]) (Ev.const true)
  | n + 1, i, h => by
    have ih := name_code s hs n (i + 1) (by omega)
    rw [allc]
    cases ho : okc s i
    · refine Ev.step (G := fun _ => some false) (fun k => ?_) (Ev.const false)
      have ho' := of_decide_eq_false ho
      simp only [symfile_Name.l0]
      rw [if_pos (by omega), if_pos (by omega), if_pos (by omega)]
      repeat' split
      all_goals first | rfl | (exfalso; omega)
    · refine Ev.step (G := fun k => symfile_Name.l0 k s (s.size : Int) ((i + 1 : Nat) : Int)) (fun k => ?_) (by simpa using ih)
      have ho' := of_decide_eq_true ho
      simp only [symfile_Name.l0]
      rw [if_pos (by omega), if_pos (by omega), if_pos (by omega), wrap64_nat i (by omega)]
      repeat' split
      all_goals first | rfl | (exfalso; omega)
theorem name_code_f (s : ByteArray) (hs : s.size ≤ 9223372036854775807) : Ev (fun k => symfile_Name.f k s) (nameB s) := by
  have hz : s.toList = ([] : List UInt8) ↔ s.size = 0 := by
    rw [ByteArray.toList_eq]
    constructor
    · intro h
      have := congrArg List.length h
      simpa using this
    · intro h
      apply List.eq_nil_of_length_eq_zero
      simpa using h
  unfold nameB
  by_cases h0 : s.size = 0
  · refine Ev.congr (G := fun k => symfile_Name.j0 k s true) (fun k => by unfold symfile_Name.f; rw [if_pos (hz.2 h0)]) ?_
    refine Ev.step (G := fun _ => some false) (fun k => by simp only [symfile_Name.j0]; rfl) ?_
    rw [decide_eq_false (by omega)]
    exact Ev.const false
  by_cases h1 : s.size ≤ 32
  · refine Ev.congr (G := fun k => symfile_Name.j0 k s false) (fun k => by unfold symfile_Name.f; rw [if_neg (fun h => h0 (hz.1 h)), decide_eq_false (by omega)]) ?_
    refine Ev.step (G := fun k => symfile_Name.l0 k s (s.size : Int) ((0 : Nat) : Int)) (fun k => by simp only [symfile_Name.j0]; rfl) ?_
    rw [decide_eq_true (by omega), Bool.true_and]
    exact name_code s hs s.size 0 (by omega)
  · refine Ev.congr (G := fun k => symfile_Name.j0 k s true) (fun k => by unfold symfile_Name.f; rw [if_neg (fun h => h0 (hz.1 h)), decide_eq_true (by omega)]) ?_
    refine Ev.step (G := fun _ => some false) (fun k => by simp only [symfile_Name.j0]; rfl) ?_
    rw [decide_eq_false (by omega)]
    exact Ev.const false
theorem name_ref (s : ByteArray) (hs : s.size ≤ 9223372036854775807) : ∀ n i, i + n = s.size → Ev (fun k => pascalineref14_Name.l0 k s (i : Int)) (decide (1 ≤ s.size ∧ s.size ≤ 32) && allc s n i)
  | 0, i, h => Ev.step (G := fun _ => some (decide (1 ≤ s.size ∧ s.size ≤ 32) && allc s 0 i)) (fun k => by
      simp only [pascalineref14_Name.l0]
      rw [if_neg (by omega), allc, Bool.and_true]
      split
      · congr 1
        rw [decide_eq_decide]
        omega
      · rw [decide_eq_false (by omega)]) (Ev.const _)
  | n + 1, i, h => by
    have ih := name_ref s hs n (i + 1) (by omega)
    rw [allc]
    cases ho : okc s i
    · refine Ev.step (G := fun _ => some false) (fun k => ?_) (by rw [Bool.false_and, Bool.and_false]; exact Ev.const false)
      have ho' := of_decide_eq_false ho
      simp only [pascalineref14_Name.l0]
      rw [if_pos (by omega), if_pos (by omega)]
      repeat' split
      all_goals first | rfl | (exfalso; omega)
    · refine Ev.step (G := fun k => pascalineref14_Name.l0 k s ((i + 1 : Nat) : Int)) (fun k => ?_) (by simpa using ih)
      have ho' := of_decide_eq_true ho
      simp only [pascalineref14_Name.l0]
      rw [if_pos (by omega), if_pos (by omega), wrap64_nat i (by omega)]
      repeat' split
      all_goals first | rfl | (exfalso; omega)
theorem name_ref_f (s : ByteArray) (hs : s.size ≤ 9223372036854775807) : Ev (fun k => pascalineref14_Name.f k s) (nameB s) :=
  name_ref s hs s.size 0 (by omega)
/-! ### imports -/
def impS : List (List UInt8) → List S93 → Int
  | _, [] => 0
  | seen, x :: xs => if nameB x.f0 = true then (if seen.contains x.f0.data.toList = true then 51 else impS (x.f0.data.toList :: seen) xs) else 140
def impsS (m : ByteArray) (l : List S93) : Int := if l.length > 64 then 243 else impS [m.data.toList] l
theorem nameB_size {s : ByteArray} (h : nameB s = true) : s.size ≤ 32 := by
  unfold nameB at h
  rw [Bool.and_eq_true] at h
  exact (of_decide_eq_true h.1).2
theorem imp_code : ∀ (l : List S93) (seen : List (List UInt8)), (∀ x ∈ l, x.f0.size ≤ 9223372036854775807) → Ev (fun k => symfile_imports.go k l seen) (impS seen l)
  | [], _, _ => by unfold impS; exact Ev.congr (fun k => by rw [symfile_imports.go]) (Ev.const 0)
  | x :: xs, seen, h => by
    have hn := name_code_f x.f0 (h x (List.mem_cons_self ..))
    refine Ev.congr (G := fun k => (symfile_Name.f k x.f0).bind ((fun (k : Nat) (t : Bool) => if t = true then (if x.f0.size ≤ maxLen then (if seen.contains x.f0.data.toList then some 51 else symfile_imports.go k xs (x.f0.data.toList :: seen)) else none) else some 140) k)) (fun k => by rw [symfile_imports.go]) (Ev.bind hn ?_)
    unfold impS
    by_cases hb : nameB x.f0 = true
    · have := nameB_size hb
      by_cases hc : seen.contains x.f0.data.toList = true
      · rw [if_pos hb, if_pos hc]
        exact Ev.congr (fun k => by dsimp only; rw [if_pos hb, if_pos (by unfold maxLen; omega), if_pos hc]) (Ev.const 51)
      · rw [if_pos hb, if_neg hc]
        exact Ev.congr (fun k => by dsimp only; rw [if_pos hb, if_pos (by unfold maxLen; omega), if_neg hc]) (imp_code xs _ (fun y hy => h y (List.mem_cons_of_mem _ hy)))
    · rw [if_neg hb]
      exact Ev.congr (fun k => by dsimp only; rw [if_neg hb]) (Ev.const 140)
theorem imp_code_f (m : ByteArray) (hm : m.size ≤ 32) (l : List S93) (h : ∀ x ∈ l, x.f0.size ≤ 9223372036854775807) : Ev (fun k => symfile_imports.f k m l) (impsS m l) := by
  unfold impsS
  by_cases hl : l.length > 64
  · rw [if_pos hl]
    exact Ev.congr (fun k => by unfold symfile_imports.f; rw [if_pos (by omega)]) (Ev.const 243)
  · rw [if_neg hl]
    exact Ev.congr (fun k => by unfold symfile_imports.f; rw [if_neg (by omega), if_pos (by unfold maxLen; omega)]) (imp_code l _ h)
def amongB (l : List S93) (i : Nat) : Nat → Nat → Bool
  | 0, _ => false
  | n + 1, j => ((rd_T93 l j).f0.data.toList == (rd_T93 l i).f0.data.toList) || amongB l i n (j + 1)
theorem imp_in (m : ByteArray) (l : List S93) (i : Nat) (hi : i < l.length) (h63 : l.length ≤ 9223372036854775807) (r : Int) (hr : Ev (fun k => pascalineref14_Imports.l0 k m l ((i + 1 : Nat) : Int)) r) :
    ∀ n j b, j + n = i → Ev (fun k => pascalineref14_Imports.l1 k m l (i : Int) b (j : Int)) (if (b || amongB l i n j) = true then 51 else r)
  | 0, j, b, h => by
    cases b
    · refine Ev.step (fun k => ?_) hr
      simp only [pascalineref14_Imports.l1]
      rw [if_neg (by omega), if_neg (by decide), wrap64_nat i (by omega)]
    · refine Ev.step (G := fun _ => some 51) (fun k => ?_) (Ev.const 51)
      simp only [pascalineref14_Imports.l1]
      rw [if_neg (by omega), if_pos trivial]
  | n + 1, j, b, h => by
    cases b
    · have ih := imp_in m l i hi h63 r hr n (j + 1) ((rd_T93 l j).f0.data.toList == (rd_T93 l i).f0.data.toList) (by omega)
      rw [Bool.false_or, amongB]
      refine Ev.step (fun k => ?_) ih
      simp only [pascalineref14_Imports.l1]
      rw [if_pos (by omega), if_neg (by decide), if_pos (by omega), if_pos (by omega), if_pos (by omega), if_pos (by omega), wrap64_nat j (by omega), ByteArray.toList_eq, ByteArray.toList_eq]
    · have ih := imp_in m l i hi h63 r hr n (j + 1) true (by omega)
      rw [Bool.true_or] at ih ⊢
      refine Ev.step (fun k => ?_) ih
      simp only [pascalineref14_Imports.l1]
      rw [if_pos (by omega), if_pos trivial, wrap64_nat j (by omega)]
theorem rd93 (l : List S93) (i : Nat) (h : i < l.length) : rd_T93 l (i : Int) = l[i] := by simp [rd_T93, List.getD, h]
def ahead (m : ByteArray) (l : List S93) (i : Nat) : List (List UInt8) := ((l.take i).map (fun x => x.f0.data.toList)).reverse ++ [m.data.toList]
theorem ahead_succ (m : ByteArray) (l : List S93) (i : Nat) (h : i < l.length) : ahead m l (i + 1) = l[i].f0.data.toList :: ahead m l i := by
  unfold ahead
  rw [List.take_succ_eq_append_getElem h, List.map_append, List.reverse_append]
  rfl
theorem among_any (l : List S93) (i : Nat) (hi : i < l.length) : ∀ n j, j + n = i → amongB l i n j = ((l.drop j).take n).any (fun x => x.f0.data.toList == l[i].f0.data.toList)
  | 0, j, _ => by simp [amongB]
  | n + 1, j, h => by
    rw [amongB, among_any l i hi n (j + 1) (by omega), rd93 l j (by omega), rd93 l i hi, List.drop_eq_getElem_cons (by omega : j < l.length), List.take_succ_cons, List.any_cons]
theorem ahead_has (m : ByteArray) (l : List S93) (i : Nat) (hi : i < l.length) : (ahead m l i).contains l[i].f0.data.toList = ((l[i].f0.data.toList == m.data.toList) || amongB l i i 0) := by
  rw [among_any l i hi i 0 (by omega), List.drop_zero, Bool.eq_iff_iff]
  unfold ahead
  simp only [List.contains_iff_mem, List.mem_append, List.mem_reverse, List.mem_map, List.mem_singleton, Bool.or_eq_true, beq_iff_eq, List.any_eq_true]
  constructor
  · rintro (⟨x, h1, h2⟩ | h)
    · exact .inr ⟨x, h1, h2⟩
    · exact .inl h
  · rintro (h | ⟨x, h1, h2⟩)
    · exact .inr h
    · exact .inl ⟨x, h1, h2⟩
theorem imp_ref (m : ByteArray) (l : List S93) (h63 : l.length ≤ 9223372036854775807) (hs : ∀ x ∈ l, x.f0.size ≤ 9223372036854775807) :
    ∀ n i, i + n = l.length → Ev (fun k => pascalineref14_Imports.l0 k m l (i : Int)) (impS (ahead m l i) (l.drop i))
  | 0, i, h => by
    rw [List.drop_of_length_le (by omega), impS]
    refine Ev.step (G := fun _ => some 0) (fun k => ?_) (Ev.const 0)
    simp only [pascalineref14_Imports.l0]
    rw [if_neg (by omega)]
  | n + 1, i, h => by
    have hi : i < l.length := by omega
    have ih := imp_ref m l h63 hs n (i + 1) (by omega)
    rw [ahead_succ m l i hi] at ih
    rw [List.drop_eq_getElem_cons hi, impS]
    refine Ev.step (G := fun k => (pascalineref14_Name.f k l[i].f0).bind ((fun (k : Nat) (t : Bool) => if t = true then pascalineref14_Imports.l1 k m l (i : Int) (l[i].f0.data.toList == m.data.toList) 0 else some 140) k)) (fun k => ?_) (Ev.bind (name_ref_f _ (hs _ (List.getElem_mem hi))) ?_)
    · simp only [pascalineref14_Imports.l0]
      rw [if_pos (by omega), if_pos (by omega), rd93 l i hi, ByteArray.toList_eq, ByteArray.toList_eq]
    · by_cases hb : nameB l[i].f0 = true
      · rw [if_pos hb, ahead_has m l i hi]
        refine Ev.congr (G := fun k => pascalineref14_Imports.l1 k m l (i : Int) (l[i].f0.data.toList == m.data.toList) ((0 : Nat) : Int)) (fun k => by dsimp only; rw [if_pos hb]; rfl) ?_
        exact imp_in m l i hi h63 _ ih i 0 _ (by omega)
      · rw [if_neg hb]
        exact Ev.congr (fun k => by dsimp only; rw [if_neg hb]) (Ev.const 140)
theorem imp_ref_f (m : ByteArray) (l : List S93) (h63 : l.length ≤ 9223372036854775807) (hs : ∀ x ∈ l, x.f0.size ≤ 9223372036854775807) : Ev (fun k => pascalineref14_Imports.f k m l) (impsS m l) := by
  unfold impsS
  by_cases hl : l.length > 64
  · rw [if_pos hl]
    exact Ev.congr (fun k => by unfold pascalineref14_Imports.f; rw [if_pos (by omega)]) (Ev.const 243)
  · rw [if_neg hl]
    refine Ev.congr (G := fun k => pascalineref14_Imports.l0 k m l ((0 : Nat) : Int)) (fun k => by unfold pascalineref14_Imports.f; rw [if_neg (by omega)]; rfl) ?_
    exact imp_ref m l h63 hs l.length 0 (by omega)
end Go.Proofs.Ytehdhmhpmkkneaa
/- Plain laws of exports: whether one may be: what the two sides compute is one. -/
namespace Go.Proofs.Ytehdhmhpmkkneaa
open Go.RowKit Go.Proofs.YtehdhmhpmkkneaaW.PrintWords Go.Proofs.YtehdhmhpmkkneaaW.PrintLast Go.Proofs.Ytehdhmhpmkkneaa.PAll
section
variable (b0 : ByteArray) (d e y : Int) (l4 : List S119)
end
end Go.Proofs.Ytehdhmhpmkkneaa
/- Plain laws of files: what is wrong with one: what the two sides compute is one. -/
namespace Go.Proofs.Ytehdhmhpmkkneaa
open Go.RowKit Go.Proofs.YtehdhmhpmkkneaaW.PrintWords Go.Proofs.YtehdhmhpmkkneaaW.PrintLast Go.Proofs.Ytehdhmhpmkkneaa.PAll
section
variable (m : ByteArray) (z : Int) (l2 : List S93) (l3 : List S80)
end
end Go.Proofs.Ytehdhmhpmkkneaa
/- symfile.Check, walked. -/
namespace Go.Proofs.Ytehdhmhpmkkneaa
open Go.RowKit Go.Proofs.YtehdhmhpmkkneaaW.PrintWords Go.Proofs.YtehdhmhpmkkneaaW.PrintLast Go.Proofs.YtehdhmhpmkkneaaW.PrintMore Go.Proofs.Ytehdhmhpmkkneaa.PAll
abbrev fileV (m : ByteArray) (z : Int) (A2 A3 : Option Addr) (n2 n3 c2 c3 : Nat) : Value := .agg #[.string m, .int .u32 z, .slice A2 n2 c2, .slice A3 n3 c3]
structure FileAt (A2 A3 : Option Addr) (c2 c3 : Nat) (l2 : List S93) (l3 : List S80) (w : World) : Prop where
  r2 : Kd.C k93 w A2 l2.length l2
  h2 : l2.length ≤ c2
  r3 : Kd.C k80 w A3 l3.length l3
  h3 : l3.length ≤ c3
theorem FileAt.below {A2 A3 : Option Addr} {c2 c3 : Nat} {l2 : List S93} {l3 : List S80} {w w' : World} (h : FileAt A2 A3 c2 c3 l2 l3 w) (hb : Below w.heap.size w w') : FileAt A2 A3 c2 c3 l2 l3 w' :=
  ⟨Kd.C_below h.r2 hb, h.h2, Kd.C_below h.r3 hb, h.h3⟩
structure OkFile (m : ByteArray) (l2 : List S93) (l3 : List S80) : Prop where
  sm : m.size ≤ 1000000000
  s2 : ∀ x ∈ l2, x.f0.size ≤ 9223372036854775807
  n2 : l2.length ≤ 9223372036854775807
  ok : ∀ x ∈ l3, Ok80 x
  s3 : ∀ x ∈ l3, x.f0.size ≤ 1000000000
  n3 : l3.length < 9223372036854775807
  sk : (keyB m l3).length ≤ 1000000000
end Go.Proofs.Ytehdhmhpmkkneaa
/- A row that is read, appended whole to a new empty one: what comes back reads as it did. -/
namespace Go.Proofs.Ytehdhmhpmkkneaa
open Go.RowKit Go.Proofs.YtehdhmhpmkkneaaW.PrintWords Go.Proofs.YtehdhmhpmkkneaaW.PrintLast Go.Proofs.YtehdhmhpmkkneaaW.PrintMore Go.Proofs.Ytehdhmhpmkkneaa.PAll
end Go.Proofs.Ytehdhmhpmkkneaa
/- Layer 14: which files are tried, the page's example, a file as the document's. -/
namespace Go.Proofs.Ytehdhmhpmkkneaa
open Go.RowKit Go.Proofs.YtehdhmhpmkkneaaW.PrintWords Go.Proofs.YtehdhmhpmkkneaaW.PrintLast Go.Proofs.YtehdhmhpmkkneaaW.PrintMore Go.Proofs.Ytehdhmhpmkkneaa.PAll
structure SmallFile (m : ByteArray) (l2 : List S93) (l3 : List S80) : Prop where
  sm : m.size ≤ 200
  s2 : l2.length ≤ 80
  s3 : Small l3
section
variable (m : ByteArray) (z : Int) (l2 : List S93) (l3 : List S80)
variable {m l2 l3}
theorem SmallFile.ok (h : SmallFile m l2 l3) (h2 : ∀ x ∈ l2, x.f0.size ≤ 9223372036854775807) (h3 : ∀ x ∈ l3, Ok80 x) : OkFile m l2 l3 :=
  ⟨by have := h.sm; omega, h2, by have := h.s2; omega, h3, fun x hx => by have := (h.s3.2 x hx).1; omega, by have := h.s3.1; omega, by have := keyB_len m l3 h3 h.s3 h.sm; omega⟩
end
variable {A2 A3 : Option Addr} {c2 c3 : Nat} {m : ByteArray} {l2 : List S93} {l3 : List S80}
end Go.Proofs.Ytehdhmhpmkkneaa
/- A file that comes in, opened. -/
namespace Go.Proofs.Ytehdhmhpmkkneaa
open Go.RowKit Go.Proofs.YtehdhmhpmkkneaaW.PrintWords Go.Proofs.Ytehdhmhpmkkneaa.PAll
structure WfFile (m : ByteArray) (z : Int) (l2 : List S93) (l3 : List S80) : Prop where
  sm : m.size ≤ maxLen
  sz : (Lit.int .u32 z).wf = true
  n2 : l2.length ≤ maxLen
  o2 : ∀ x ∈ l2, Ok93 x
  n3 : l3.length ≤ maxLen
  o3 : ∀ x ∈ l3, Ok80 x
theorem WfFile.s2 {m : ByteArray} {z : Int} {l2 : List S93} {l3 : List S80} (h : WfFile m z l2 l3) : ∀ x ∈ l2, x.f0.size ≤ 9223372036854775807 := fun x hx => by
  have := (h.o2 x hx).1
  unfold maxLen at this
  omega
end Go.Proofs.Ytehdhmhpmkkneaa
