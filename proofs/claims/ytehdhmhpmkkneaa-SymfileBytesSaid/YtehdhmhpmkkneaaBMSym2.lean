/- The texts Mp, Na, Nb, Nc, Nd, Ne, Or, one behind the other. -/
import Derived.Test.YtehdhmhpmkkneaaBMKey
import Derived.Laws.Strings
import Derived.Test.YtehdhmhpmkkneaaBMa
import Derived.Test.YtehdhmhpmkkneaaBPAlly26
import Derived.Test.YtehdhmhpmkkneaaBPAlly31
import Derived.Test.YtehdhmhpmkkneaaBPAlly35
import Derived.Test.YtehdhmhpmkkneaaBPAlly36
import Derived.Test.YtehdhmhpmkkneaaBPAlly33
import Derived.Test.YtehdhmhpmkkneaaBOp2
/- Plain laws of names, imports and objects: what the two sides compute is one. -/
namespace Go.Proofs.Ytehdhmhpmkkneaa
open Go.RowKit Go.Proofs.YtehdhmhpmkkneaaW.PrintWords Go.Proofs.YtehdhmhpmkkneaaW.PrintLast Go.Proofs.Ytehdhmhpmkkneaa.PAll
/-- With enough rounds it tells r. -/
def Ev {α : Type} (F : Nat → Option α) (r : α) : Prop := ∃ k0, ∀ k, k0 ≤ k → F k = some r
theorem Ev.const {α : Type} (r : α) : Ev (fun _ => some r) r := ⟨0, fun _ _ => rfl⟩
theorem Ev.step {α : Type} {F G : Nat → Option α} {r : α} (h : ∀ k, F (k + 1) = G k) (hG : Ev G r) : Ev F r := by
  obtain ⟨k0, h0⟩ := hG
  refine ⟨k0 + 1, fun k hk => ?_⟩
  obtain ⟨j, rfl⟩ : ∃ j, k = j + 1 := ⟨k - 1, by omega⟩
  rw [h j]
  exact h0 j (by omega)
theorem Ev.bind {α β : Type} {F : Nat → Option α} {G : Nat → α → Option β} {t : α} {r : β} (h : Ev F t) (hG : Ev (fun k => G k t) r) : Ev (fun k => (F k).bind (G k)) r := by
  obtain ⟨k0, h0⟩ := h
  obtain ⟨k1, h1⟩ := hG
  refine ⟨k0 + k1, fun k hk => ?_⟩
  show (F k).bind (G k) = some r
  rw [h0 k (by omega)]
  exact h1 k (by omega)
theorem Ev.congr {α : Type} {F G : Nat → Option α} {r : α} (h : ∀ k, F k = G k) (hG : Ev G r) : Ev F r := by
  obtain ⟨k0, h0⟩ := hG
  exact ⟨k0, fun k hk => (h k).trans (h0 k hk)⟩
theorem Ev.one {α : Type} {F : Nat → Option α} {r : α} (h : Ev F r) : ∃ k, F k = some r := by
  obtain ⟨k0, h0⟩ := h
  exact ⟨k0, h0 _ (by omega)⟩
/-! ### names -/
/-- A sign of a name, at place i. -/
def okc (s : ByteArray) (i : Nat) : Bool :=
  decide ((97 ≤ bt s i ∧ bt s i ≤ 122) ∨ (65 ≤ bt s i ∧ bt s i ≤ 90) ∨ (i ≠ 0 ∧ 48 ≤ bt s i ∧ bt s i ≤ 57))
/-- n signs from place i on. -/
def allc (s : ByteArray) : Nat → Nat → Bool
  | 0, _ => true
  | n + 1, i => okc s i && allc s n (i + 1)
def nameB (s : ByteArray) : Bool := decide (1 ≤ s.size ∧ s.size ≤ 32) && allc s s.size 0
theorem wrap64_nat (i : Nat) (h : i < 9223372036854775807) : wrap64 ((i : Int) + 1) = ((i + 1 : Nat) : Int) := by unfold wrap64; omega
theorem name_code (s : ByteArray) (hs : s.size ≤ 9223372036854775807) : ∀ n i, i + n = s.size → Ev (fun k => symfile_Name.l0 k s (s.size : Int) (i : Int)) (allc s n i)
  | 0, i, h => Ev.step (G := fun _ => some true) (fun k => by
      simp only [symfile_Name.l0]
      rw [if_neg (by omega)]) (Ev.const true)
  | n + 1, i, h => by
    have ih := name_code s hs n (i + 1) (by omega)
    rw [allc]
    cases ho : okc s i
    · refine Ev.step (G := fun _ => some false) (fun k => ?_) (Ev.const false)
      have ho' := of_decide_eq_false ho
      simp only [symfile_Name.l0]
      rw [if_pos (by omega), if_pos (by omega), if_pos (by omega)]
      repeat' split
      all_goals first | rfl | (exfalso; omega)
    · refine Ev.step (G := fun k => symfile_Name.l0 k s (s.size : Int) ((i + 1 : Nat) : Int)) (fun k => ?_) (by simpa using ih)
      have ho' := of_decide_eq_true ho
      simp only [symfile_Name.l0]
      rw [if_pos (by omega), if_pos (by omega), if_pos (by omega), wrap64_nat i (by omega)]
      repeat' split
      all_goals first | rfl | (exfalso; omega)
theorem name_code_f (s : ByteArray) (hs : s.size ≤ 9223372036854775807) : Ev (fun k => symfile_Name.f k s) (nameB s) := by
  have hz : s.toList = ([] : List UInt8) ↔ s.size = 0 := by
    rw [ByteArray.toList_eq]
    constructor
    · intro h
      have := congrArg List.length h
      simpa using this
    · intro h
      apply List.eq_nil_of_length_eq_zero
      simpa using h
  unfold nameB
  by_cases h0 : s.size = 0
  · refine Ev.congr (G := fun k => symfile_Name.j0 k s true) (fun k => by unfold symfile_Name.f; rw [if_pos (hz.2 h0)]) ?_
    refine Ev.step (G := fun _ => some false) (fun k => by simp only [symfile_Name.j0]; rfl) ?_
    rw [decide_eq_false (by omega)]
    exact Ev.const false
  by_cases h1 : s.size ≤ 32
  · refine Ev.congr (G := fun k => symfile_Name.j0 k s false) (fun k => by unfold symfile_Name.f; rw [if_neg (fun h => h0 (hz.1 h)), decide_eq_false (by omega)]) ?_
    refine Ev.step (G := fun k => symfile_Name.l0 k s (s.size : Int) ((0 : Nat) : Int)) (fun k => by simp only [symfile_Name.j0]; rfl) ?_
    rw [decide_eq_true (by omega), Bool.true_and]
    exact name_code s hs s.size 0 (by omega)
  · refine Ev.congr (G := fun k => symfile_Name.j0 k s true) (fun k => by unfold symfile_Name.f; rw [if_neg (fun h => h0 (hz.1 h)), decide_eq_true (by omega)]) ?_
    refine Ev.step (G := fun _ => some false) (fun k => by simp only [symfile_Name.j0]; rfl) ?_
    rw [decide_eq_false (by omega)]
    exact Ev.const false
theorem name_ref (s : ByteArray) (hs : s.size ≤ 9223372036854775807) : ∀ n i, i + n = s.size → Ev (fun k => pascalineref14_Name.l0 k s (i : Int)) (decide (1 ≤ s.size ∧ s.size ≤ 32) && allc s n i)
  | 0, i, h => Ev.step (G := fun _ => some (decide (1 ≤ s.size ∧ s.size ≤ 32) && allc s 0 i)) (fun k => by
      simp only [pascalineref14_Name.l0]
      rw [if_neg (by omega), allc, Bool.and_true]
      split
      · congr 1
        rw [decide_eq_decide]
        omega
      · rw [decide_eq_false (by omega)]) (Ev.const _)
  | n + 1, i, h => by
    have ih := name_ref s hs n (i + 1) (by omega)
    rw [allc]
    cases ho : okc s i
    · refine Ev.step (G := fun _ => some false) (fun k => ?_) (by rw [Bool.false_and, Bool.and_false]; exact Ev.const false)
      have ho' := of_decide_eq_false ho
      simp only [pascalineref14_Name.l0]
      rw [if_pos (by omega), if_pos (by omega)]
      repeat' split
      all_goals first | rfl | (exfalso; omega)
    · refine Ev.step (G := fun k => pascalineref14_Name.l0 k s ((i + 1 : Nat) : Int)) (fun k => ?_) (by simpa using ih)
      have ho' := of_decide_eq_true ho
      simp only [pascalineref14_Name.l0]
      rw [if_pos (by omega), if_pos (by omega), wrap64_nat i (by omega)]
      repeat' split
      all_goals first | rfl | (exfalso; omega)
theorem name_ref_f (s : ByteArray) (hs : s.size ≤ 9223372036854775807) : Ev (fun k => pascalineref14_Name.f k s) (nameB s) :=
  name_ref s hs s.size 0 (by omega)
/-! ### imports -/
/-- What is wrong with imports, whose names may be none of 'seen'. -/
def impS : List (List UInt8) → List S93 → Int
  | _, [] => 0
  | seen, x :: xs => if nameB x.f0 = true then (if seen.contains x.f0.data.toList = true then 51 else impS (x.f0.data.toList :: seen) xs) else 140
def impsS (m : ByteArray) (l : List S93) : Int := if l.length > 64 then 243 else impS [m.data.toList] l
theorem nameB_size {s : ByteArray} (h : nameB s = true) : s.size ≤ 32 := by
  unfold nameB at h
  rw [Bool.and_eq_true] at h
  exact (of_decide_eq_true h.1).2
theorem imp_code : ∀ (l : List S93) (seen : List (List UInt8)), (∀ x ∈ l, x.f0.size ≤ 9223372036854775807) → Ev (fun k => symfile_imports.go k l seen) (impS seen l)
  | [], _, _ => by unfold impS; exact Ev.congr (fun k => by rw [symfile_imports.go]) (Ev.const 0)
  | x :: xs, seen, h => by
    have hn := name_code_f x.f0 (h x (List.mem_cons_self ..))
    refine Ev.congr (G := fun k => (symfile_Name.f k x.f0).bind ((fun (k : Nat) (t : Bool) => if t = true then (if x.f0.size ≤ maxLen then (if seen.contains x.f0.data.toList then some 51 else symfile_imports.go k xs (x.f0.data.toList :: seen)) else none) else some 140) k)) (fun k => by rw [symfile_imports.go]) (Ev.bind hn ?_)
    unfold impS
    by_cases hb : nameB x.f0 = true
    · have := nameB_size hb
      by_cases hc : seen.contains x.f0.data.toList = true
      · rw [if_pos hb, if_pos hc]
        exact Ev.congr (fun k => by dsimp only; rw [if_pos hb, if_pos (by unfold maxLen; omega), if_pos hc]) (Ev.const 51)
      · rw [if_pos hb, if_neg hc]
        exact Ev.congr (fun k => by dsimp only; rw [if_pos hb, if_pos (by unfold maxLen; omega), if_neg hc]) (imp_code xs _ (fun y hy => h y (List.mem_cons_of_mem _ hy)))
    · rw [if_neg hb]
      exact Ev.congr (fun k => by dsimp only; rw [if_neg hb]) (Ev.const 140)
theorem imp_code_f (m : ByteArray) (hm : m.size ≤ 32) (l : List S93) (h : ∀ x ∈ l, x.f0.size ≤ 9223372036854775807) : Ev (fun k => symfile_imports.f k m l) (impsS m l) := by
  unfold impsS
  by_cases hl : l.length > 64
  · rw [if_pos hl]
    exact Ev.congr (fun k => by unfold symfile_imports.f; rw [if_pos (by omega)]) (Ev.const 243)
  · rw [if_neg hl]
    exact Ev.congr (fun k => by unfold symfile_imports.f; rw [if_neg (by omega), if_pos (by unfold maxLen; omega)]) (imp_code l _ h)
/-- The page's inner loop: does the name stand among the j-th to the i-th? -/
def amongB (l : List S93) (i : Nat) : Nat → Nat → Bool
  | 0, _ => false
  | n + 1, j => ((rd_T93 l j).f0.data.toList == (rd_T93 l i).f0.data.toList) || amongB l i n (j + 1)
theorem imp_in (m : ByteArray) (l : List S93) (i : Nat) (hi : i < l.length) (h63 : l.length ≤ 9223372036854775807) (r : Int) (hr : Ev (fun k => pascalineref14_Imports.l0 k m l ((i + 1 : Nat) : Int)) r) :
    ∀ n j b, j + n = i → Ev (fun k => pascalineref14_Imports.l1 k m l (i : Int) b (j : Int)) (if (b || amongB l i n j) = true then 51 else r)
  | 0, j, b, h => by
    cases b
    · refine Ev.step (fun k => ?_) hr
      simp only [pascalineref14_Imports.l1]
      rw [if_neg (by omega), if_neg (by decide), wrap64_nat i (by omega)]
    · refine Ev.step (G := fun _ => some 51) (fun k => ?_) (Ev.const 51)
      simp only [pascalineref14_Imports.l1]
      rw [if_neg (by omega), if_pos trivial]
  | n + 1, j, b, h => by
    cases b
    · have ih := imp_in m l i hi h63 r hr n (j + 1) ((rd_T93 l j).f0.data.toList == (rd_T93 l i).f0.data.toList) (by omega)
      rw [Bool.false_or, amongB]
      refine Ev.step (fun k => ?_) ih
      simp only [pascalineref14_Imports.l1]
      rw [if_pos (by omega), if_neg (by decide), if_pos (by omega), if_pos (by omega), if_pos (by omega), if_pos (by omega), wrap64_nat j (by omega), ByteArray.toList_eq, ByteArray.toList_eq]
    · have ih := imp_in m l i hi h63 r hr n (j + 1) true (by omega)
      rw [Bool.true_or] at ih ⊢
      refine Ev.step (fun k => ?_) ih
      simp only [pascalineref14_Imports.l1]
      rw [if_pos (by omega), if_pos trivial, wrap64_nat j (by omega)]
theorem rd93 (l : List S93) (i : Nat) (h : i < l.length) : rd_T93 l (i : Int) = l[i] := by simp [rd_T93, List.getD, h]
/-- The names ahead of place i, the last one first. -/
def ahead (m : ByteArray) (l : List S93) (i : Nat) : List (List UInt8) := ((l.take i).map (fun x => x.f0.data.toList)).reverse ++ [m.data.toList]
theorem ahead_succ (m : ByteArray) (l : List S93) (i : Nat) (h : i < l.length) : ahead m l (i + 1) = l[i].f0.data.toList :: ahead m l i := by
  unfold ahead
  rw [List.take_succ_eq_append_getElem h, List.map_append, List.reverse_append]
  rfl
theorem among_any (l : List S93) (i : Nat) (hi : i < l.length) : ∀ n j, j + n = i → amongB l i n j = ((l.drop j).take n).any (fun x => x.f0.data.toList == l[i].f0.data.toList)
  | 0, j, _ => by simp [amongB]
  | n + 1, j, h => by
    rw [amongB, among_any l i hi n (j + 1) (by omega), rd93 l j (by omega), rd93 l i hi, List.drop_eq_getElem_cons (by omega : j < l.length), List.take_succ_cons, List.any_cons]
theorem ahead_has (m : ByteArray) (l : List S93) (i : Nat) (hi : i < l.length) : (ahead m l i).contains l[i].f0.data.toList = ((l[i].f0.data.toList == m.data.toList) || amongB l i i 0) := by
  rw [among_any l i hi i 0 (by omega), List.drop_zero, Bool.eq_iff_iff]
  unfold ahead
  simp only [List.contains_iff_mem, List.mem_append, List.mem_reverse, List.mem_map, List.mem_singleton, Bool.or_eq_true, beq_iff_eq, List.any_eq_true]
  constructor
  · rintro (⟨x, h1, h2⟩ | h)
    · exact .inr ⟨x, h1, h2⟩
    · exact .inl h
  · rintro (h | ⟨x, h1, h2⟩)
    · exact .inr h
    · exact .inl ⟨x, h1, h2⟩
theorem imp_ref (m : ByteArray) (l : List S93) (h63 : l.length ≤ 9223372036854775807) (hs : ∀ x ∈ l, x.f0.size ≤ 9223372036854775807) :
    ∀ n i, i + n = l.length → Ev (fun k => pascalineref14_Imports.l0 k m l (i : Int)) (impS (ahead m l i) (l.drop i))
  | 0, i, h => by
    rw [List.drop_of_length_le (by omega), impS]
    refine Ev.step (G := fun _ => some 0) (fun k => ?_) (Ev.const 0)
    simp only [pascalineref14_Imports.l0]
    rw [if_neg (by omega)]
  | n + 1, i, h => by
    have hi : i < l.length := by omega
    have ih := imp_ref m l h63 hs n (i + 1) (by omega)
    rw [ahead_succ m l i hi] at ih
    rw [List.drop_eq_getElem_cons hi, impS]
    refine Ev.step (G := fun k => (pascalineref14_Name.f k l[i].f0).bind ((fun (k : Nat) (t : Bool) => if t = true then pascalineref14_Imports.l1 k m l (i : Int) (l[i].f0.data.toList == m.data.toList) 0 else some 140) k)) (fun k => ?_) (Ev.bind (name_ref_f _ (hs _ (List.getElem_mem hi))) ?_)
    · simp only [pascalineref14_Imports.l0]
      rw [if_pos (by omega), if_pos (by omega), rd93 l i hi, ByteArray.toList_eq, ByteArray.toList_eq]
    · by_cases hb : nameB l[i].f0 = true
      · rw [if_pos hb, ahead_has m l i hi]
        refine Ev.congr (G := fun k => pascalineref14_Imports.l1 k m l (i : Int) (l[i].f0.data.toList == m.data.toList) ((0 : Nat) : Int)) (fun k => by dsimp only; rw [if_pos hb]; rfl) ?_
        exact imp_in m l i hi h63 _ ih i 0 _ (by omega)
      · rw [if_neg hb]
        exact Ev.congr (fun k => by dsimp only; rw [if_neg hb]) (Ev.const 140)
theorem imp_ref_f (m : ByteArray) (l : List S93) (h63 : l.length ≤ 9223372036854775807) (hs : ∀ x ∈ l, x.f0.size ≤ 9223372036854775807) : Ev (fun k => pascalineref14_Imports.f k m l) (impsS m l) := by
  unfold impsS
  by_cases hl : l.length > 64
  · rw [if_pos hl]
    exact Ev.congr (fun k => by unfold pascalineref14_Imports.f; rw [if_pos (by omega)]) (Ev.const 243)
  · rw [if_neg hl]
    refine Ev.congr (G := fun k => pascalineref14_Imports.l0 k m l ((0 : Nat) : Int)) (fun k => by unfold pascalineref14_Imports.f; rw [if_neg (by omega)]; rfl) ?_
    exact imp_ref m l h63 hs l.length 0 (by omega)
end Go.Proofs.Ytehdhmhpmkkneaa
/- Plain laws of exports: whether one may be: what the two sides compute is one. -/
namespace Go.Proofs.Ytehdhmhpmkkneaa
open Go.RowKit Go.Proofs.YtehdhmhpmkkneaaW.PrintWords Go.Proofs.YtehdhmhpmkkneaaW.PrintLast Go.Proofs.Ytehdhmhpmkkneaa.PAll
/-- A number, a truth, or a sign. -/
def basB (n : Int) : Bool := decide (1 ≤ n ∧ n ≤ 3)
theorem bas_code (n : Int) : symfile_basic.f n = some (basB n) := by
  unfold symfile_basic.f basB
  by_cases h1 : n = 1
  · rw [if_pos h1, decide_eq_true (by omega)]
  rw [if_neg h1]
  by_cases h2 : n = 2
  · rw [if_pos h2, decide_eq_true (by omega)]
  rw [if_neg h2]
  by_cases h3 : n = 3
  · subst h3; rfl
  · have : (n == 3) = false := by simpa using h3
    rw [this, decide_eq_false (by omega)]
theorem bas_ref (n : Int) : pascalineref14_basic.f n = some (basB n) := by
  unfold pascalineref14_basic.f basB
  by_cases h1 : n ≥ 1
  · rw [if_pos h1]
    congr 1
    rw [decide_eq_decide]
    omega
  · rw [if_neg h1, decide_eq_false (by omega)]
def parsB (l : List S119) : Bool := l.all (fun p => basB p.f0)
/-- May its kind, its type and its parameters be? -/
def okS (x : S80) : Bool :=
  if x.f1 = 1 ∨ x.f1 = 3 then basB x.f2 && decide (x.f4.length = 0)
  else if x.f1 = 7 then decide (x.f2 = 0) && decide (x.f4.length = 0)
  else if x.f1 = 6 then decide (0 ≤ x.f2 ∧ x.f2 ≤ 3) && (decide (x.f4.length ≤ 16) && parsB x.f4)
  else false
/-- .. and its value? -/
def tailS (kind value : Int) (ok : Bool) : Int := if ok = true then (if kind = 1 then 0 else if value < 0 then 141 else 0) else 141
def mayS (x : S80) : Int := if nameB x.f0 = true then tailS x.f1 x.f3 (okS x) else 140
theorem rd119 (l : List S119) (i : Nat) (h : i < l.length) : rd_T119 l (i : Int) = l[i] := by simp [rd_T119, List.getD, h]
section
variable (b0 : ByteArray) (d e y : Int) (l4 : List S119)
theorem tail_some (kind value : Int) (ok : Bool) : (if ok = true then (if kind = 1 then some (0 : Int) else (if value < 0 then some 141 else some 0)) else some 141) = some (tailS kind value ok) := by
  unfold tailS
  repeat' split
  all_goals rfl
theorem par_code (h63 : l4.length ≤ 9223372036854775807) : ∀ m i b, i + m = l4.length →
    Ev (fun k => symfile_May.l0 k b l4 (l4.length : Int) (i : Int) b0 d e y l4) (tailS d y (b && parsB (l4.drop i)))
  | 0, i, b, h => by
    rw [List.drop_of_length_le (by omega)]
    refine Ev.step (G := fun _ => some (tailS d y b)) (fun k => ?_) (by rw [show parsB [] = true from rfl, Bool.and_true]; exact Ev.const _)
    simp only [symfile_May.l0]
    rw [if_neg (by omega)]
    exact tail_some d y b
  | m + 1, i, b, h => by
    have hi : i < l4.length := by omega
    rw [List.drop_eq_getElem_cons hi]
    have e1 : parsB (l4[i] :: l4.drop (i + 1)) = (basB l4[i].f0 && parsB (l4.drop (i + 1))) := rfl
    rw [e1, ← Bool.and_assoc]
    have ih := par_code h63 m (i + 1) (b && basB l4[i].f0) (by omega)
    refine Ev.step (fun k => ?_) ih
    simp only [symfile_May.l0]
    rw [if_pos (by omega), if_pos (by omega), if_pos (by omega), rd119 l4 i hi, bas_code, wrap64_nat i (by omega)]
    cases b
    · rfl
    · rfl
theorem par_ref (h63 : l4.length ≤ 9223372036854775807) : ∀ m i b, i + m = l4.length →
    Ev (fun k => pascalineref14_May.l0 k (l4.length : Int) b (i : Int) b0 d e y l4) (tailS d y (b && parsB (l4.drop i)))
  | 0, i, b, h => by
    rw [List.drop_of_length_le (by omega)]
    refine Ev.step (G := fun _ => some (tailS d y b)) (fun k => ?_) (by rw [show parsB [] = true from rfl, Bool.and_true]; exact Ev.const _)
    simp only [pascalineref14_May.l0]
    rw [if_neg (by omega)]
    exact tail_some d y b
  | m + 1, i, b, h => by
    have hi : i < l4.length := by omega
    rw [List.drop_eq_getElem_cons hi]
    have e1 : parsB (l4[i] :: l4.drop (i + 1)) = (basB l4[i].f0 && parsB (l4.drop (i + 1))) := rfl
    rw [e1, ← Bool.and_assoc]
    have ih := par_ref h63 m (i + 1) (b && basB l4[i].f0) (by omega)
    refine Ev.step (fun k => ?_) ih
    simp only [pascalineref14_May.l0]
    rw [if_pos (by omega)]
    cases b
    · rw [if_neg (by decide), wrap64_nat i (by omega)]
      rfl
    · rw [if_pos rfl, if_pos (by omega), if_pos (by omega), rd119 l4 i hi, bas_ref, wrap64_nat i (by omega)]
      rfl
theorem len_beq (n : Nat) : (((n : Nat) : Int) == 0) = decide (n = 0) := by
  by_cases h : n = 0
  · subst h; rfl
  · rw [decide_eq_false h]
    simp
    omega
theorem may_code (hb : b0.size ≤ 9223372036854775807) (h63 : l4.length ≤ 9223372036854775807) : Ev (fun k => symfile_May.f k b0 d e y l4) (mayS ⟨b0, d, e, y, l4⟩) := by
  obtain ⟨k0, h0⟩ := name_code_f b0 hb
  unfold mayS
  dsimp only
  by_cases hn : nameB b0 = true
  rotate_left
  · rw [if_neg hn]
    refine ⟨k0, fun k hk => ?_⟩
    have hv := h0 k hk
    dsimp only at hv ⊢
    unfold symfile_May.f
    rw [hv, Option.bind_some, if_neg hn]
  rw [if_pos hn]
  have head : ∀ {r : Int}, Ev (fun k => symfile_May.j0 k false d (decide (d = 1 ∨ d = 3)) b0 d e y l4) r → Ev (fun k => symfile_May.f k b0 d e y l4) r := by
    rintro r ⟨k2, h2⟩
    refine ⟨k0 + k2, fun k hk => ?_⟩
    have hv := h0 k (by omega)
    have hr := h2 k (by omega)
    dsimp only at hv hr ⊢
    unfold symfile_May.f
    rw [hv, Option.bind_some, if_pos hn, ← hr]
    by_cases h1 : d = 1
    · subst h1; rfl
    · rw [if_neg h1]
      congr 1
      by_cases h3 : d = 3
      · subst h3; rfl
      · rw [decide_eq_false (by omega)]
        simpa using h3
  refine head ?_
  unfold okS
  dsimp only
  by_cases k1 : d = 1 ∨ d = 3
  · rw [if_pos k1, decide_eq_true k1]
    refine Ev.step (G := fun _ => some (tailS d y (basB e && decide (l4.length = 0)))) (fun k => ?_) (Ev.const _)
    simp only [symfile_May.j0]
    rw [if_pos trivial, bas_code, Option.bind_some, ← tail_some]
    cases basB e
    · rfl
    · rw [if_pos rfl, Bool.true_and]
      by_cases hl : l4.length = 0
      · rw [if_pos (by omega), decide_eq_true hl, if_pos rfl]
      · rw [if_neg (by omega), decide_eq_false hl, if_neg (by decide)]
  rw [if_neg k1, decide_eq_false k1]
  by_cases k7 : d = 7
  · rw [if_pos k7]
    refine Ev.step (G := fun _ => some (tailS d y (decide (e = 0) && decide (l4.length = 0)))) (fun k => ?_) (Ev.const _)
    simp only [symfile_May.j0]
    rw [if_neg (by decide), if_pos k7, ← tail_some]
    by_cases he : e = 0
    · rw [if_pos he, decide_eq_true he, Bool.true_and]
      by_cases hl : l4.length = 0
      · rw [if_pos (by omega), decide_eq_true hl, if_pos rfl]
      · rw [if_neg (by omega), decide_eq_false hl, if_neg (by decide)]
    · rw [if_neg he, decide_eq_false he]
      rfl
  rw [if_neg k7]
  by_cases k6 : d = 6
  rotate_left
  · rw [if_neg k6]
    refine Ev.step (G := fun _ => some 141) (fun k => ?_) (Ev.const _)
    simp only [symfile_May.j0]
    rw [if_neg (by decide), if_neg k7, if_neg k6, if_neg (by decide)]
  rw [if_pos k6]
  have run : ∀ b : Bool, Ev (fun k => symfile_May.j1 k b b0 d e y l4) (tailS d y (b && parsB l4)) := fun b => by
    have h := par_code b0 d e y l4 h63 l4.length 0 b (by omega)
    rw [List.drop_zero] at h
    exact Ev.step (G := fun k => symfile_May.l0 k b l4 (l4.length : Int) ((0 : Nat) : Int) b0 d e y l4) (fun k => by simp only [symfile_May.j1]; rfl) h
  have d16 : decide ((l4.length : Int) ≤ 16) = decide (l4.length ≤ 16) := by rw [decide_eq_decide]; omega
  by_cases e0 : e = 0
  · rw [decide_eq_true (by omega : 0 ≤ e ∧ e ≤ 3), Bool.true_and]
    refine Ev.step (fun k => ?_) (run (decide (l4.length ≤ 16)))
    simp only [symfile_May.j0]
    rw [if_neg (by decide), if_neg k7, if_pos k6, if_pos e0, d16]
  · by_cases hb3 : basB e = true
    · have := of_decide_eq_true hb3
      rw [decide_eq_true (by omega : 0 ≤ e ∧ e ≤ 3), Bool.true_and]
      refine Ev.step (fun k => ?_) (run (decide (l4.length ≤ 16)))
      simp only [symfile_May.j0]
      rw [if_neg (by decide), if_neg k7, if_pos k6, if_neg e0, bas_code, Option.bind_some, if_pos hb3, d16]
    · have hb' : basB e = false := by simpa using hb3
      have := of_decide_eq_false hb'
      rw [decide_eq_false (by omega : ¬ (0 ≤ e ∧ e ≤ 3))]
      refine Ev.step (fun k => ?_) (run false)
      simp only [symfile_May.j0]
      rw [if_neg (by decide), if_neg k7, if_pos k6, if_neg e0, bas_code, Option.bind_some, if_neg hb3]
theorem may_ref (hb : b0.size ≤ 9223372036854775807) (h63 : l4.length ≤ 9223372036854775807) : Ev (fun k => pascalineref14_May.f k b0 d e y l4) (mayS ⟨b0, d, e, y, l4⟩) := by
  obtain ⟨k0, h0⟩ := name_ref_f b0 hb
  unfold mayS
  dsimp only
  by_cases hn : nameB b0 = true
  rotate_left
  · rw [if_neg hn]
    refine ⟨k0, fun k hk => ?_⟩
    have hv := h0 k hk
    dsimp only at hv ⊢
    unfold pascalineref14_May.f
    rw [hv, Option.bind_some, if_neg hn]
  rw [if_pos hn]
  have head : ∀ {r : Int}, Ev (fun k => pascalineref14_May.j0 k (l4.length : Int) false (decide (d = 1 ∨ d = 3)) b0 d e y l4) r → Ev (fun k => pascalineref14_May.f k b0 d e y l4) r := by
    rintro r ⟨k2, h2⟩
    refine ⟨k0 + k2, fun k hk => ?_⟩
    have hv := h0 k (by omega)
    have hr := h2 k (by omega)
    dsimp only at hv hr ⊢
    unfold pascalineref14_May.f
    rw [hv, Option.bind_some, if_pos hn, ← hr]
    by_cases h1 : d = 1
    · subst h1; rfl
    · rw [if_neg h1]
      congr 1
      by_cases h3 : d = 3
      · subst h3; rfl
      · rw [decide_eq_false (by omega)]
        simpa using h3
  refine head ?_
  unfold okS
  dsimp only
  -- behind the three tests
  have j2b : ∀ b : Bool, d ≠ 6 → Ev (fun k => pascalineref14_May.j2 k (l4.length : Int) b b0 d e y l4) (tailS d y b) := fun b h6 =>
    Ev.step (G := fun _ => some (tailS d y b)) (fun k => by simp only [pascalineref14_May.j2]; rw [if_neg h6]; exact tail_some d y b) (Ev.const _)
  by_cases k1 : d = 1 ∨ d = 3
  · rw [if_pos k1, decide_eq_true k1]
    have go : ∀ b : Bool, Ev (fun k => pascalineref14_May.j1 k (l4.length : Int) b b0 d e y l4) (tailS d y b) := fun b =>
      Ev.step (fun k => by simp only [pascalineref14_May.j1]; rw [if_neg (by omega)]) (j2b b (by omega))
    cases hbe : basB e
    · refine Ev.step (fun k => ?_) (go false)
      simp only [pascalineref14_May.j0]
      rw [if_pos trivial, bas_ref, Option.bind_some, hbe, if_neg (by decide)]
    · rw [Bool.true_and]
      refine Ev.step (fun k => ?_) (go (decide (l4.length = 0)))
      simp only [pascalineref14_May.j0]
      rw [if_pos trivial, bas_ref, Option.bind_some, hbe, if_pos rfl, len_beq]
  rw [if_neg k1, decide_eq_false k1]
  have first : ∀ {r : Int}, Ev (fun k => pascalineref14_May.j1 k (l4.length : Int) false b0 d e y l4) r → Ev (fun k => pascalineref14_May.j0 k (l4.length : Int) false false b0 d e y l4) r := fun {r} h =>
    Ev.step (fun k => by simp only [pascalineref14_May.j0]; rw [if_neg (by decide)]) h
  refine first ?_
  by_cases k7 : d = 7
  · rw [if_pos k7]
    by_cases he : e = 0
    · rw [decide_eq_true he, Bool.true_and]
      refine Ev.step (fun k => ?_) (j2b (decide (l4.length = 0)) (by omega))
      simp only [pascalineref14_May.j1]
      rw [if_pos k7, if_pos he, len_beq]
    · rw [decide_eq_false he, Bool.false_and]
      refine Ev.step (fun k => ?_) (j2b false (by omega))
      simp only [pascalineref14_May.j1]
      rw [if_pos k7, if_neg he]
  rw [if_neg k7]
  have second : ∀ {r : Int}, Ev (fun k => pascalineref14_May.j2 k (l4.length : Int) false b0 d e y l4) r → Ev (fun k => pascalineref14_May.j1 k (l4.length : Int) false b0 d e y l4) r := fun {r} h =>
    Ev.step (fun k => by simp only [pascalineref14_May.j1]; rw [if_neg k7]) h
  refine second ?_
  by_cases k6 : d = 6
  rotate_left
  · rw [if_neg k6]
    exact j2b false k6
  rw [if_pos k6]
  have run : ∀ b : Bool, Ev (fun k => pascalineref14_May.j3 k (l4.length : Int) b b0 d e y l4) (tailS d y (b && parsB l4)) := fun b => by
    have h := par_ref b0 d e y l4 h63 l4.length 0 b (by omega)
    rw [List.drop_zero] at h
    exact Ev.step (G := fun k => pascalineref14_May.l0 k (l4.length : Int) b ((0 : Nat) : Int) b0 d e y l4) (fun k => by simp only [pascalineref14_May.j3]; rfl) h
  have d16 : decide ((l4.length : Int) ≤ 16) = decide (l4.length ≤ 16) := by rw [decide_eq_decide]; omega
  by_cases e3 : 0 ≤ e ∧ e ≤ 3
  · rw [decide_eq_true e3, Bool.true_and]
    refine Ev.step (fun k => ?_) (run (decide (l4.length ≤ 16)))
    simp only [pascalineref14_May.j2]
    rw [if_pos k6, if_pos e3.1, if_pos e3.2, d16]
  · rw [decide_eq_false e3, Bool.false_and]
    refine Ev.step (fun k => ?_) (run false)
    simp only [pascalineref14_May.j2]
    rw [if_pos k6]
    by_cases h : e ≥ 0
    · rw [if_pos h, if_neg (by omega)]
    · rw [if_neg h]
end
end Go.Proofs.Ytehdhmhpmkkneaa
/- Plain laws of files: what is wrong with one: what the two sides compute is one. -/
namespace Go.Proofs.Ytehdhmhpmkkneaa
open Go.RowKit Go.Proofs.YtehdhmhpmkkneaaW.PrintWords Go.Proofs.YtehdhmhpmkkneaaW.PrintLast Go.Proofs.Ytehdhmhpmkkneaa.PAll
theorem Ev.of_mono {α : Type} {F : Nat → Option α} {r : α} (hm : ∀ k, LeO (F k) (F (k + 1))) {k0 : Nat} (h : F k0 = some r) : Ev F r := by
  refine ⟨k0, fun k hk => ?_⟩
  obtain ⟨n, rfl⟩ : ∃ n, k = k0 + n := ⟨k - k0, by omega⟩
  clear hk
  induction n with
  | zero => exact h
  | succ n ih => exact hm _ _ ih
/-- What is wrong with exports, whose names may be none of 'seen'. -/
def expS : List (List UInt8) → List S80 → Int
  | _, [] => 0
  | seen, x :: xs => if mayS x = 0 then (if seen.contains x.f0.data.toList = true then 51 else expS (x.f0.data.toList :: seen) xs) else mayS x
/-- What is wrong with a file. -/
def fileS (m : ByteArray) (z : Int) (l2 : List S93) (l3 : List S80) : Int :=
  if nameB m = true then
    (if impsS m l2 = 0 then
      (if l3.length > 4096 then 242 else if expS [] l3 = 0 then (if z = keyOf80 m l3 then 0 else 142) else expS [] l3)
     else impsS m l2)
  else 140
theorem rd80 (l : List S80) (i : Nat) (h : i < l.length) : rd_T80 l (i : Int) = l[i] := by simp [rd_T80, List.getD, h]
/-- The names ahead of place i, the last one first. -/
def ahead8 (l : List S80) (i : Nat) : List (List UInt8) := ((l.take i).map (fun x => x.f0.data.toList)).reverse
theorem ahead8_succ (l : List S80) (i : Nat) (h : i < l.length) : ahead8 l (i + 1) = l[i].f0.data.toList :: ahead8 l i := by
  unfold ahead8
  rw [List.take_succ_eq_append_getElem h, List.map_append, List.reverse_append]
  rfl
theorem ahead8_has (l : List S80) (i : Nat) (q : List UInt8) : (ahead8 l i).contains q = (l.take i).any (fun x => x.f0.data.toList == q) := by
  rw [Bool.eq_iff_iff]
  unfold ahead8
  simp only [List.contains_iff_mem, List.mem_reverse, List.mem_map, beq_iff_eq, List.any_eq_true]
section
variable (m : ByteArray) (z : Int) (l2 : List S93) (l3 : List S80)
theorem exp_in (i : Nat) (hi : i < l3.length) (h63 : l3.length ≤ 9223372036854775807) (r : Int) (hr : Ev (fun k => pascalineref14_Check.l0 k ((i + 1 : Nat) : Int) m z l2 l3) r) :
    ∀ n j, j + n = i → Ev (fun k => pascalineref14_Check.l1 k (i : Int) (j : Int) m z l2 l3) (if ((l3.drop j).take n).any (fun x => x.f0.data.toList == l3[i].f0.data.toList) = true then 51 else r)
  | 0, j, h => by
    rw [List.take_zero, List.any_nil, if_neg (by decide)]
    refine Ev.step (fun k => ?_) hr
    simp only [pascalineref14_Check.l1]
    rw [if_neg (by omega), wrap64_nat i (by omega)]
  | n + 1, j, h => by
    have ih := exp_in i hi h63 r hr n (j + 1) (by omega)
    rw [List.drop_eq_getElem_cons (by omega : j < l3.length), List.take_succ_cons, List.any_cons]
    by_cases he : l3[j].f0.data.toList = l3[i].f0.data.toList
    · rw [beq_iff_eq.2 he, Bool.true_or, if_pos rfl]
      refine Ev.step (G := fun _ => some 51) (fun k => ?_) (Ev.const _)
      simp only [pascalineref14_Check.l1]
      rw [if_pos (by omega), if_pos (by omega), if_pos (by omega), if_pos (by omega), if_pos (by omega), rd80 l3 j (by omega), rd80 l3 i hi, ByteArray.toList_eq, ByteArray.toList_eq, if_pos he]
    · rw [beq_eq_false_iff_ne.2 he, Bool.false_or]
      refine Ev.step (fun k => ?_) ih
      simp only [pascalineref14_Check.l1]
      rw [if_pos (by omega), if_pos (by omega), if_pos (by omega), if_pos (by omega), if_pos (by omega), rd80 l3 j (by omega), rd80 l3 i hi, ByteArray.toList_eq, ByteArray.toList_eq, if_neg he, wrap64_nat j (by omega)]
theorem exp_ref (h63 : l3.length ≤ 9223372036854775807) (hs : ∀ x ∈ l3, x.f0.size ≤ 9223372036854775807 ∧ x.f4.length ≤ 9223372036854775807) (key : Int) (hk : Ev (fun k => pascalineref13_Key.f k m l3) key) :
    ∀ n i, i + n = l3.length → Ev (fun k => pascalineref14_Check.l0 k (i : Int) m z l2 l3) (if expS (ahead8 l3 i) (l3.drop i) = 0 then (if z = key then 0 else 142) else expS (ahead8 l3 i) (l3.drop i))
  | 0, i, h => by
    rw [List.drop_of_length_le (by omega), expS, if_pos rfl]
    refine Ev.step (G := fun k => (pascalineref13_Key.f k m l3).bind ((fun (_ : Nat) (t : Int) => if z = t then some 0 else some 142) k)) (fun k => ?_) (Ev.bind hk ?_)
    · simp only [pascalineref14_Check.l0]
      rw [if_neg (by omega)]
    · dsimp only
      by_cases hz : z = key
      · rw [if_pos hz, if_pos hz]; exact Ev.const _
      · rw [if_neg hz, if_neg hz]; exact Ev.const _
  | n + 1, i, h => by
    have hi : i < l3.length := by omega
    have ih := exp_ref h63 hs key hk n (i + 1) (by omega)
    rw [ahead8_succ l3 i hi] at ih
    have hx := hs _ (List.getElem_mem hi)
    rw [List.drop_eq_getElem_cons hi, expS]
    refine Ev.step (G := fun k => (pascalineref14_May.f k l3[i].f0 l3[i].f1 l3[i].f2 l3[i].f3 l3[i].f4).bind ((fun (k : Nat) (t : Int) => if t = 0 then pascalineref14_Check.l1 k (i : Int) 0 m z l2 l3 else some t) k)) (fun k => ?_) (Ev.bind (may_ref l3[i].f0 l3[i].f1 l3[i].f2 l3[i].f3 l3[i].f4 hx.1 hx.2) ?_)
    · simp only [pascalineref14_Check.l0]
      rw [if_pos (by omega), if_pos (by omega), rd80 l3 i hi]
    · have e0 : mayS ⟨l3[i].f0, l3[i].f1, l3[i].f2, l3[i].f3, l3[i].f4⟩ = mayS l3[i] := rfl
      rw [e0]
      by_cases hm : mayS l3[i] = 0
      · rw [if_pos hm, ahead8_has]
        have hin := exp_in m z l2 l3 i hi h63 _ ih i 0 (by omega)
        rw [List.drop_zero] at hin
        refine Ev.congr (G := fun k => pascalineref14_Check.l1 k (i : Int) ((0 : Nat) : Int) m z l2 l3) (fun k => by (try dsimp only); rw [if_pos hm]; rfl) ?_
        cases hany : (l3.take i).any (fun x => x.f0.data.toList == l3[i].f0.data.toList)
        · rw [hany] at hin
          exact hin
        · rw [hany, if_pos rfl] at hin
          exact hin
      · rw [if_neg hm, if_neg hm]
        exact Ev.congr (fun k => by (try dsimp only); rw [if_neg hm]) (Ev.const _)
theorem file_ref (hm : m.size ≤ 9223372036854775807) (h2 : ∀ x ∈ l2, x.f0.size ≤ 9223372036854775807) (hl2 : l2.length ≤ 9223372036854775807) (h63 : l3.length ≤ 9223372036854775807) (hs : ∀ x ∈ l3, x.f0.size ≤ 9223372036854775807 ∧ x.f4.length ≤ 9223372036854775807)
    (hk : Ev (fun k => pascalineref13_Key.f k m l3) (keyOf80 m l3)) : Ev (fun k => pascalineref14_Check.f k m z l2 l3) (fileS m z l2 l3) := by
  obtain ⟨k0, h0⟩ := name_ref_f m hm
  unfold fileS
  by_cases hn : nameB m = true
  rotate_left
  · rw [if_neg hn]
    refine ⟨k0, fun k hk => ?_⟩
    have hv := h0 k hk
    dsimp only at hv ⊢
    unfold pascalineref14_Check.f
    rw [hv, Option.bind_some, if_neg hn]
  rw [if_pos hn]
  obtain ⟨k1, h1⟩ := imp_ref_f m l2 hl2 h2
  by_cases hi : impsS m l2 = 0
  rotate_left
  · rw [if_neg hi]
    refine ⟨k0 + k1, fun k hk => ?_⟩
    have hv := h0 k (by omega)
    have hw := h1 k (by omega)
    dsimp only at hv hw ⊢
    unfold pascalineref14_Check.f
    rw [hv, Option.bind_some, if_pos hn, hw]
    simp only [Option.bind_some]
    rw [if_neg hi]
  rw [if_pos hi]
  have head : ∀ {r : Int}, Ev (fun k => if (l3.length : Int) > 4096 then (some 242) else (pascalineref14_Check.l0 k 0 m z l2 l3)) r → Ev (fun k => pascalineref14_Check.f k m z l2 l3) r := by
    rintro r ⟨k2, h2'⟩
    refine ⟨k0 + k1 + k2, fun k hk => ?_⟩
    have hv := h0 k (by omega)
    have hw := h1 k (by omega)
    have hr := h2' k (by omega)
    dsimp only at hv hw hr ⊢
    unfold pascalineref14_Check.f
    rw [hv, Option.bind_some, if_pos hn, hw]
    simp only [Option.bind_some]
    rw [if_pos hi]
    exact hr
  refine head ?_
  by_cases hl : l3.length > 4096
  · rw [if_pos hl]
    exact Ev.congr (fun k => by (try dsimp only); rw [if_pos (by omega)]) (Ev.const _)
  · rw [if_neg hl]
    have h := exp_ref m z l2 l3 h63 hs _ hk l3.length 0 (by omega)
    rw [List.drop_zero] at h
    refine Ev.congr (G := fun k => pascalineref14_Check.l0 k ((0 : Nat) : Int) m z l2 l3) (fun k => by (try dsimp only); rw [if_neg (by omega)]; rfl) h
end
end Go.Proofs.Ytehdhmhpmkkneaa
/- symfile.Check, walked. -/
namespace Go.Proofs.Ytehdhmhpmkkneaa
open Go.RowKit Go.Proofs.YtehdhmhpmkkneaaW.PrintWords Go.Proofs.YtehdhmhpmkkneaaW.PrintLast Go.Proofs.YtehdhmhpmkkneaaW.PrintMore Go.Proofs.Ytehdhmhpmkkneaa.PAll
/-- A file's value. -/
abbrev fileV (m : ByteArray) (z : Int) (A2 A3 : Option Addr) (n2 n3 c2 c3 : Nat) : Value := .agg #[.string m, .int .u32 z, .slice A2 n2 c2, .slice A3 n3 c3]
/-- Its rows stand in w. -/
structure FileAt (A2 A3 : Option Addr) (c2 c3 : Nat) (l2 : List S93) (l3 : List S80) (w : World) : Prop where
  r2 : Kd.C k93 w A2 l2.length l2
  h2 : l2.length ≤ c2
  r3 : Kd.C k80 w A3 l3.length l3
  h3 : l3.length ≤ c3
theorem FileAt.below {A2 A3 : Option Addr} {c2 c3 : Nat} {l2 : List S93} {l3 : List S80} {w w' : World} (h : FileAt A2 A3 c2 c3 l2 l3 w) (hb : Below w.heap.size w w') : FileAt A2 A3 c2 c3 l2 l3 w' :=
  ⟨Kd.C_below h.r2 hb, h.h2, Kd.C_below h.r3 hb, h.h3⟩
/-- What the contracts ask of a file's parts. -/
structure OkFile (m : ByteArray) (l2 : List S93) (l3 : List S80) : Prop where
  sm : m.size ≤ 1000000000
  s2 : ∀ x ∈ l2, x.f0.size ≤ 9223372036854775807
  n2 : l2.length ≤ 9223372036854775807
  ok : ∀ x ∈ l3, Ok80 x
  s3 : ∀ x ∈ l3, x.f0.size ≤ 1000000000
  n3 : l3.length < 9223372036854775807
  sk : (keyB m l3).length ≤ 1000000000
/-- A round more. -/
theorem meas_lt (n i : Nat) (h : i < n) (hw : wrap64 ((i : Int) + 1) = (i : Int) + 1) : n - (intOf (.int .i64 (wrap64 ((i : Int) + 1)))).toNat < n - (intOf (.int .i64 (i : Int))).toNat := by
  rw [hw]
  simp only [intOf]
  omega
set_option maxHeartbeats 2000000 in
set_option maxRecDepth 100000 in
theorem file_check (m : ByteArray) (z : Int) (A2 A3 : Option Addr) (c2 c3 : Nat) (l2 : List S93) (l3 : List S80) (w : World) (h : FileAt A2 A3 c2 c3 l2 l3 w) (ok : OkFile m l2 l3) :
    Calls Try.prog 54 #[fileV m z A2 A3 l2.length l3.length c2 c3] w fun e w' => e = .returned (.int .i64 (fileS m z l2 l3)) ∧ Below w.heap.size w w' := by
  have FA := Lib.hid h
  have OK := Lib.hid ok
  clear h ok
  obtain ⟨kn, hkn⟩ := (name_code_f m (by have := OK.out.sm; omega)).one
  have HN := Lib.hid hkn
  clear hkn
  obtain ⟨W, hW⟩ : ∃ W, W = w.alloc (.cells #[.string m, .int .u32 z, .slice A2 l2.length c2, .slice A3 l3.length c3] 75) := ⟨_, rfl⟩
  obtain ⟨Q, hQ⟩ : ∃ Q, Q = w.heap.size := ⟨_, rfl⟩
  have bx := heap_alloc_new w (.cells #[.string m, .int .u32 z, .slice A2 l2.length c2, .slice A3 l3.length c3] 75)
  rw [← hW, ← hQ] at bx
  have x0 := blk_cell bx 0
  have x1 := blk_cell bx 1
  have x2 := blk_cell bx 2
  have x3 := blk_cell bx 3
  simp only [List.getElem?_toArray, List.getElem?_cons_zero, List.getElem?_cons_succ] at x0 x1 x2 x3
  have bW : Below w.heap.size w W := by rw [hW]; exact (Below.refl _ _).alloc (Nat.le_refl _) _
  have F1 := Lib.hid (FA.out.below bW)
  have BW := Lib.hid bW
  have HQ := Lib.hid (blk_lt bx)
  have HW := Lib.hid hW
  have HQQ := Lib.hid hQ
  clear bx bW hW hQ
  obtain ⟨r, HR⟩ : ∃ r, Hid (fileS m z l2 l3 = r) := ⟨_, Lib.hid rfl⟩
  rw [HR.out]
  cases hn : nameB m
  · rw [hn] at HN
    have HE : Hid (r = 140) := Lib.hid (by rw [← HR.out]; unfold fileS; rw [hn, if_neg (by decide)])
    go_enter Try.func54, Try.ntmps54
    go_wp2_with fail
    rw [← HW.out]
    refine (symfile_Name.calls kn m false _ HN.out).mono ?_
    rintro e w1 ⟨rfl, d1⟩
    have B1 := Lib.hid (BW.out.trans (d1.below.mono BW.out.size))
    clear d1
    go_wp2
    go_ret
    exact ⟨by rw [HE.out]; rfl, B1.out⟩
  have hm32 := nameB_size hn
  rw [hn] at HN
  obtain ⟨ki, hki⟩ := (imp_code_f m hm32 l2 OK.out.s2).one
  have HI := Lib.hid hki
  have HR1 : Hid (r = if impsS m l2 = 0 then (if l3.length > 4096 then 242 else if expS [] l3 = 0 then (if z = keyOf80 m l3 then 0 else 142) else expS [] l3) else impsS m l2) := Lib.hid (by rw [← HR.out]; unfold fileS; rw [hn, if_pos rfl])
  clear hki hm32 hn HR
  generalize impsS m l2 = ei at *
  go_enter Try.func54, Try.ntmps54
  go_wp2_with fail
  rw [← HW.out]
  refine (symfile_Name.calls kn m true _ HN.out).mono ?_
  rintro e w1 ⟨rfl, d1⟩
  have b1 := d1.below
  have B1 := Lib.hid (BW.out.trans (b1.mono BW.out.size))
  have F2 := Lib.hid (F1.out.below b1)
  replace x0 := (b1.cell (p := ⟨Q, 0, none⟩) HQ.out).trans x0
  replace x1 := (b1.cell (p := ⟨Q, 1, none⟩) HQ.out).trans x1
  replace x2 := (b1.cell (p := ⟨Q, 2, none⟩) HQ.out).trans x2
  replace x3 := (b1.cell (p := ⟨Q, 3, none⟩) HQ.out).trans x3
  have Q1 := Lib.hid (Nat.lt_of_lt_of_le HQ.out b1.size)
  clear d1 b1 F1 BW HQ
  rw [← HQQ.out]
  go_wp2_with fail
  refine (symfile_imports.calls ki m A2 c2 l2 ei _ F2.out.r2 F2.out.h2 HI.out).mono ?_
  rintro e w2 ⟨rfl, b2⟩
  have B2 := Lib.hid (B1.out.trans (b2.mono B1.out.size))
  have F3 := Lib.hid (F2.out.below b2)
  replace x0 := (b2.cell (p := ⟨Q, 0, none⟩) Q1.out).trans x0
  replace x1 := (b2.cell (p := ⟨Q, 1, none⟩) Q1.out).trans x1
  replace x2 := (b2.cell (p := ⟨Q, 2, none⟩) Q1.out).trans x2
  replace x3 := (b2.cell (p := ⟨Q, 3, none⟩) Q1.out).trans x3
  have Q2 := Lib.hid (Nat.lt_of_lt_of_le Q1.out b2.size)
  clear b2 F2 B1 Q1
  by_cases e0 : ei = 0
  rotate_left
  · have HE : Hid (r = ei) := Lib.hid (by rw [HR1.out, if_neg e0])
    have e1 : (ei != 0) = true := bne_iff_ne.2 e0
    have e2 : (ei == 0) = false := beq_eq_false_iff_ne.2 e0
    clear e0 HR1
    go_wp2
    go_ret
    exact ⟨by rw [HE.out]; rfl, B2.out⟩
  subst e0
  by_cases big : l3.length > 4096
  · have HE : Hid (r = 242) := Lib.hid (by rw [HR1.out, if_pos rfl, if_pos big])
    have b1 : decide (4096 < (l3.length : Int)) = true := decide_eq_true (by omega)
    have b2 : decide (4096 < l3.length) = true := decide_eq_true (by omega)
    clear big HR1
    go_wp2
    go_ret
    exact ⟨by rw [HE.out]; rfl, B2.out⟩
  have HR2 : Hid (r = if expS [] l3 = 0 then (if z = keyOf80 m l3 then 0 else 142) else expS [] l3) := Lib.hid (by rw [HR1.out, if_pos rfl, if_neg big])
  have b1 : decide (4096 < (l3.length : Int)) = false := decide_eq_false (by omega)
  have b2 : decide (4096 < l3.length) = false := decide_eq_false (by omega)
  have L4 : Hid (l3.length ≤ 4096) := Lib.hid (by omega)
  clear big HR1
  have hmm := @run_makeMap Try.prog
  have S0 := Lib.hid (SetAt.made w2)
  have ba : Below w2.heap.size w2 (w2.alloc (.map #[] 0)) := (Below.refl _ _).alloc (Nat.le_refl _) _
  have B3 := Lib.hid (B2.out.trans (ba.mono B2.out.size))
  have y0 := (ba.cell (p := ⟨Q, 0, none⟩) Q2.out).trans x0
  have y1 := (ba.cell (p := ⟨Q, 1, none⟩) Q2.out).trans x1
  have y3 := (ba.cell (p := ⟨Q, 3, none⟩) Q2.out).trans x3
  have BA := Lib.hid ba
  have R3 := Lib.hid F3.out.r3
  obtain ⟨M, HM⟩ : ∃ M, Hid (M = w2.heap.size) := ⟨_, Lib.hid rfl⟩
  have QM : Hid (Q < M) := Lib.hid (by rw [HM.out]; exact Q2.out)
  rw [← HM.out] at S0
  clear ba x0 x1 x2 Q2
  go_wp2
  clear b1 b2 x3
  rw [← HM.out]
  go_loopw [28] (fun r28 wr => ∃ (i : Nat) (seen : List (List UInt8)), i ≤ l3.length ∧ r28 = .int .i64 i ∧ Hid (expS [] l3 = expS seen (l3.drop i)) ∧ Hid (SetAt wr M i seen) ∧ Hid (Below M (w2.alloc (.map #[] 0)) wr)) (fun r28 _ => l3.length - (intOf r28).toNat)
  case atStart => exact ⟨0, _, Nat.zero_le _, rfl, Lib.hid (by rw [List.drop_zero]), S0, Lib.hid (Below.refl _ _)⟩
  case round =>
    obtain ⟨i, seen, hi, rfl, H2, S2, BM⟩ := hrel
    clear S0
    have bm := Lib.hid (B3.out.trans (BM.out.mono (by rw [HM.out]; exact B2.out.size)))
    have bo : Hid (Below w2.heap.size w2 wr) := Lib.hid (by have h := BM.out; rw [HM.out] at h; exact BA.out.trans h)
    have yr0 := (BM.out.cell (p := ⟨Q, 0, none⟩) QM.out).trans y0
    have yr1 := (BM.out.cell (p := ⟨Q, 1, none⟩) QM.out).trans y1
    have yr3 := (BM.out.cell (p := ⟨Q, 3, none⟩) QM.out).trans y3
    have QR : Hid (Q < wr.heap.size) := Lib.hid (Nat.lt_trans QM.out S2.out.lt)
    clear y0 y1 y3
    by_cases hlt : i < l3.length
    rotate_left
    · have h2 := H2.out
      rw [List.drop_of_length_le (by omega), expS] at h2
      have HE : Hid (r = if z = keyOf80 m l3 then 0 else 142) := Lib.hid (by rw [HR2.out, h2, if_pos rfl])
      clear h2 H2 HR2 S2
      have bd : Below wr.heap.size wr wr.drew := (Below.refl _ _).drew
      have FD := Lib.hid (F3.out.below (bo.out.trans (bd.mono bo.out.size)))
      have BD := Lib.hid (bm.out.trans (bd.mono bm.out.size))
      clear bd
      by_cases hz : z = keyOf80 m l3
      · have HE2 : Hid (r = 0) := Lib.hid (by rw [HE.out, if_pos hz])
        have z1 : (z != keyOf80 m l3) = false := by rw [hz]; simp
        have z2 : (z == keyOf80 m l3) = true := beq_iff_eq.2 hz
        clear hz HE
        go_wp2
        go_region_held3 (fun w' => w'.cell? ⟨Q, 0, none⟩ = some (.string m) ∧ w'.cell? ⟨Q, 1, none⟩ = some (.int .u32 z) ∧ w'.cell? ⟨Q, 3, none⟩ = some (.slice A3 l3.length c3)) (first | exact ⟨yr0, yr1, yr3⟩ | exact ⟨yk0, yk1, yk3⟩ | go_keep) (first
          | (go_at_call 24; refine (fkey m l3 A3 c3 _ FD.out.r3 OK.out.ok OK.out.sk OK.out.sm).mono ?_; rintro e wk ⟨rfl, bk⟩; have BK := Lib.hid (BD.out.trans (bk.mono BD.out.size)); have yk0 := (bk.cell (p := ⟨Q, 0, none⟩) QR.out).trans yr0; have yk1 := (bk.cell (p := ⟨Q, 1, none⟩) QR.out).trans yr1; have yk3 := (bk.cell (p := ⟨Q, 3, none⟩) QR.out).trans yr3; clear bk))
        go_wp2
        go_ret
        exact ⟨by rw [HE2.out]; rfl, BK.out⟩
      · have HE2 : Hid (r = 142) := Lib.hid (by rw [HE.out, if_neg hz])
        have z1 : (z != keyOf80 m l3) = true := bne_iff_ne.2 hz
        have z2 : (z == keyOf80 m l3) = false := beq_eq_false_iff_ne.2 hz
        clear hz HE
        go_wp2
        go_region_held3 (fun w' => w'.cell? ⟨Q, 0, none⟩ = some (.string m) ∧ w'.cell? ⟨Q, 1, none⟩ = some (.int .u32 z) ∧ w'.cell? ⟨Q, 3, none⟩ = some (.slice A3 l3.length c3)) (first | exact ⟨yr0, yr1, yr3⟩ | exact ⟨yk0, yk1, yk3⟩ | go_keep) (first
          | (go_at_call 24; refine (fkey m l3 A3 c3 _ FD.out.r3 OK.out.ok OK.out.sk OK.out.sm).mono ?_; rintro e wk ⟨rfl, bk⟩; have BK := Lib.hid (BD.out.trans (bk.mono BD.out.size)); have yk0 := (bk.cell (p := ⟨Q, 0, none⟩) QR.out).trans yr0; have yk1 := (bk.cell (p := ⟨Q, 1, none⟩) QR.out).trans yr1; have yk3 := (bk.cell (p := ⟨Q, 3, none⟩) QR.out).trans yr3; clear bk))
        go_wp2
        go_ret
        exact ⟨by rw [HE2.out]; rfl, BK.out⟩
    have h2 := H2.out
    rw [List.drop_eq_getElem_cons hlt, expS] at h2
    obtain ⟨b, off, A4, c4, rfl, hbl, x0, x1, x2, x3, x4, l4, g4⟩ := row80 R3.out i hlt
    replace x0 := cell_old bo.out hbl x0
    replace x1 := cell_old bo.out hbl x1
    replace x2 := cell_old bo.out hbl x2
    replace x3 := cell_old bo.out hbl x3
    replace x4 := cell_old bo.out hbl x4
    replace g4 := Kd.C_below g4 bo.out
    have hs3 := OK.out.s3 l3[i] (List.getElem_mem hlt)
    have okx := OK.out.ok l3[i] (List.getElem_mem hlt)
    generalize l3[i] = x at h2 x0 x1 x2 x3 x4 l4 g4 hs3 okx
    obtain ⟨f0, f1, f2, f3, f4⟩ := x
    simp only at h2 x0 x1 x2 x3 x4 l4 g4 hs3
    have G4 := Lib.hid g4
    have L5 := Lib.hid l4
    have HS := Lib.hid hs3
    obtain ⟨km, hkm⟩ := (may_code f0 f1 f2 f3 f4 (by omega) g4.2.1).one
    have HM2 := Lib.hid hkm
    clear H2 hkm g4 l4 hs3 okx
    generalize mayS ⟨f0, f1, f2, f3, f4⟩ = mv at *
    have H2 := Lib.hid h2
    have ba : Below wr.heap.size wr (wr.alloc (.cells #[.string f0, .int .i64 f1, .int .i64 f2, .int .i32 f3, .slice A4 f4.length c4] 80)) := (Below.refl _ _).alloc (Nat.le_refl _) _
    have K3 := Lib.hid (heap_alloc_new wr (.cells #[.string f0, .int .i64 f1, .int .i64 f2, .int .i32 f3, .slice A4 f4.length c4] 80))
    have G5 := Lib.hid (Kd.C_below G4.out ba)
    have B5 := Lib.hid (bm.out.trans (ba.mono bm.out.size))
    have M5 := Lib.hid (BM.out.trans (ba.mono (Nat.le_of_lt S2.out.lt)))
    have S5 := Lib.hid (S2.out.heap (ba.block M S2.out.lt))
    clear ba h2
    go_wp2_with fail
    refine (symfile_May.calls km f0 f1 f2 f3 A4 c4 f4 mv _ G5.out L5.out HM2.out).mono ?_
    rintro e w6 ⟨rfl, b6⟩
    have B6 := Lib.hid (B5.out.trans (b6.mono B5.out.size))
    have M6 := Lib.hid (M5.out.trans (b6.mono (Nat.le_of_lt S5.out.lt)))
    have S6 := Lib.hid (S5.out.heap (b6.block M S5.out.lt))
    have K6 := (b6.block _ (blk_lt K3.out)).trans K3.out
    have k0 := blk_cell K6 0
    simp only [List.getElem?_toArray, List.getElem?_cons_zero] at k0
    clear b6 K6 K3 G5 B5 M5 S5 x0 x1 x2 x3 x4 S2 bm bo BM
    by_cases e0 : mv = 0
    rotate_left
    · have HE : Hid (r = mv) := Lib.hid (by
        have h := H2.out
        rw [if_neg e0] at h
        rw [HR2.out, h, if_neg e0])
      have e1 : (mv != 0) = true := bne_iff_ne.2 e0
      have e2 : (mv == 0) = false := beq_eq_false_iff_ne.2 e0
      clear e0 H2 HR2
      go_wp2
      go_ret
      exact ⟨by rw [HE.out]; rfl, B6.out⟩
    subst e0
    by_cases hc : seen.contains f0.data.toList = true
    · have HE : Hid (r = 51) := Lib.hid (by
        have h := H2.out
        rw [if_pos rfl, if_pos hc] at h
        rw [HR2.out, h, if_neg (by decide)])
      clear H2 HR2
      go_wp2_with (at_lookup; refine wpList_set_lookup _ rfl _ _ rfl M i seen rfl S6.out f0 rfl (by have := HS.out; unfold maxLen; omega) ?_; rw [hc])
      go_ret
      exact ⟨by rw [HE.out]; rfl, B6.out⟩
    have H3 : Hid (expS [] l3 = expS (f0.data.toList :: seen) (l3.drop (i + 1))) := Lib.hid (by
      have h := H2.out
      rw [if_pos rfl, if_neg hc] at h
      exact h)
    have hc' : seen.contains f0.data.toList = false := by simpa using hc
    have hw : wrap64 ((i : Int) + 1) = (i : Int) + 1 := by have := L4.out; unfold wrap64; omega
    clear hc H2
    go_wp2_with (first | (at_lookup; refine wpList_set_lookup _ rfl _ _ rfl M i seen rfl S6.out f0 rfl (by have := HS.out; unfold maxLen; omega) ?_; rw [hc']) | (at_mapUpdate; refine wpList_set_store _ rfl _ _ _ (.inl rfl) M i seen rfl S6.out (by have := L4.out; unfold maxLen; omega) f0 rfl rfl (by have := HS.out; unfold maxLen; omega) ?_; intro w7 hs7 hg7))
    go_roundw
    case rel => exact ⟨i + 1, _, hlt, by simp [hw], H3, Lib.hid hs7, Lib.hid (M6.out.grown hg7 (Nat.le_of_lt S6.out.lt) (fun j hj => by cases hj; exact Nat.le_refl _))⟩
    case measure => exact meas_lt _ _ hlt hw
end Go.Proofs.Ytehdhmhpmkkneaa
/- A row that is read, appended whole to a new empty one: what comes back reads as it did. -/
namespace Go.Proofs.Ytehdhmhpmkkneaa
open Go.RowKit Go.Proofs.YtehdhmhpmkkneaaW.PrintWords Go.Proofs.YtehdhmhpmkkneaaW.PrintLast Go.Proofs.YtehdhmhpmkkneaaW.PrintMore Go.Proofs.Ytehdhmhpmkkneaa.PAll
theorem info93 : (Try.prog.info? 93).map (fun i => (i.zero, i.size, i.bytes)) = some (some (.agg #[.string ByteArray.empty, .int .u32 0]), 2, 24) := by kernel_rfl
theorem own_empty (W : World) (e sz : Nat) : (Kd.raw sz).R e (W.alloc (.cells #[] e)) W.heap.size (fun _ => True) (.slice (some ⟨W.heap.size, 0, none⟩) 0 0) [] :=
  ⟨fun _ _ => trivial, [], ⟨by simp, .inr ⟨W.heap.size, 0, #[], rfl, Nat.le_refl _, heap_alloc_new W _, Nat.le_refl _, Nat.zero_le _, by simp, by simp⟩⟩, ⟨by simp, fun j p h => by simp at h⟩⟩
/-- The list reads in every world that keeps what was there at w0, and the blocks between W0 and w1. -/
def Held {α : Type} (d : Kd α) (w0 W0 w1 : World) (A : Option Addr) (l : List α) : Prop :=
  ∀ w', Below w0.heap.size w0 w' → (∀ k, W0.heap.size ≤ k → k < w1.heap.size → w'.heap[k]? = w1.heap[k]?) → d.C w' A l.length l
theorem append_copy {α : Type} (d : Kd α) {P : Program} {ops : Array Oper} {rest : List Oper} {o : Oper} {a : Act} {Q : Exit → Act → World → Prop} (w0 W0 : World) (hgd : o.guard = none) (s x : Operand) (t e : TypeId) (z : Value) (bytes : Nat)
    (ho : o.op = .call { callee := .builtin .append, args := #[s, x], argTypes := #[t, t] }) (ht : P.underlying t = some (.slice e)) (hinfo : (P.info? e).map (fun i => (i.zero, i.size, i.bytes)) = some (some z, d.sz, bytes)) (hz : z.cells.size = d.sz) (hs0 : 0 < d.sz) (hb0 : 0 < bytes)
    (l : List α) (A : Option Addr) (c : Nat) (hs : a.eval s = .slice (some ⟨W0.heap.size, 0, none⟩) 0 0) (hx : a.eval x = .slice A l.length c) (HC : d.C w0 A l.length l) (hB0 : Below w0.heap.size w0 W0) (hl : l.length * bytes ≤ 140737488355328)
    (h : ∀ A' c' w1, Held d w0 W0 w1 A' l → l.length ≤ c' → Below W0.heap.size W0 w1 → wpList P ops Q rest (a.put o.dst (.slice A' l.length c')) w1) :
    wpList P ops Q (o :: rest) a (W0.alloc (.cells #[] e)) := by
  have ba : Below W0.heap.size W0 (W0.alloc (.cells #[] e)) := (Below.refl _ _).alloc (Nat.le_refl _) _
  obtain ⟨news, hnl, hnr0, hnf⟩ := Kd.reads_raw HC (fun y c hk => ⟨d.K_len hk, d.K_one hk⟩)
  have hnr := ReadsRow.imp_ hnr0 (hB0.trans (ba.mono hB0.size)) (fun _ _ hp => hp)
  refine Kd.R_append_rows (Kd.raw d.sz) (w0 := W0) W0.heap.size hgd s x t e z bytes ho ht hinfo hz hs0 hb0 _ [] news A l.length c (fun _ => True) (fun _ => False) hs hx (own_empty W0 e d.sz) hnr (fun _ _ hk => hk) (fun _ hk => hk.elim) (fun _ _ => trivial) ba ba.size (by simpa using hl) ?_
  intro v1 w1 hr hb _ _
  obtain ⟨A', c', rfl, hc', hC⟩ := Kd.R_reads hr
  have hlen : ([] ++ news).length = l.length := by simpa using hnl
  obtain ⟨_, inner, hown, _⟩ := hr
  rw [hlen] at hC hc' ⊢
  refine h A' c' w1 (fun w' hw hk' => ⟨rfl, HC.2.1, fun h0 => ?_⟩) hc' hb
  obtain ⟨ad, hA, hj⟩ := hC.2.2 h0
  subst hA
  have hblk : w'.heap[ad.block]? = w1.heap[ad.block]? := hk' _ (own_base hown ad.block rfl) (own_lt hown ad.block rfl)
  obtain ⟨g, rfl⟩ : ∃ g, ad = ⟨g, 0, none⟩ := by
    rcases hown.2 with ⟨hv, _⟩ | ⟨g, cap, cur, hv, _⟩
    · cases hv
    · injection hv with hv _ _
      injection hv with hv
      exact ⟨g, hv⟩
  refine ⟨_, rfl, fun j p hp => ?_⟩
  have hjl : j < l.length := (List.getElem?_eq_some_iff.1 hp).1
  have hjn : news[j]? = some (news[j]'(by omega)) := List.getElem?_eq_getElem (by omega)
  obtain ⟨cs, h1, h2, h3⟩ := hj j (news[j]'(by omega)) (by simp)
  have hk := hnf j p _ hp hjn
  have h2' : cs = news[j]'(by omega) := h2.1
  rw [← h2'] at hk
  exact ⟨cs, h1, d.K_below hw hk, fun i u hu => (World.cell?_of_block (w := w1) (a := (⟨g, 0, none⟩ : Addr).add (j * d.sz + i)) (by rw [add_block]; exact hblk)).trans (h3 i u hu)⟩
theorem info80' : (Try.prog.info? 80).map (fun i => (i.zero, i.size, i.bytes)) = some (some (.agg #[.string ⟨#[]⟩, .int .i64 0, .int .i64 0, .int .i32 0, .slice none 0 0]), 5, 64) := by kernel_rfl
set_option maxHeartbeats 2000000 in
set_option maxRecDepth 100000 in
theorem file_make (m : ByteArray) (A2 A3 : Option Addr) (c2 c3 : Nat) (l2 : List S93) (l3 : List S80) (w : World) (h : FileAt A2 A3 c2 c3 l2 l3 w) (ok : OkFile m l2 l3) (h2 : l2.length ≤ 1000000000) (h3 : l3.length ≤ 1000000000) :
    Calls Try.prog 59 #[.string m, .slice A2 l2.length c2, .slice A3 l3.length c3] w fun e w' => ∃ B2 B3 d2 d3, e = .returned (fileV m (keyOf80 m l3) B2 B3 l2.length l3.length d2 d3) ∧ FileAt B2 B3 d2 d3 l2 l3 w' ∧ Below w.heap.size w w' := by
  have FA := Lib.hid h
  have OK := Lib.hid ok
  have H2 := Lib.hid h2
  have H3 := Lib.hid h3
  clear h ok h2 h3
  have ba : Below w.heap.size w (w.alloc (.cells #[.string ByteArray.empty, .int .u32 0, .slice none 0 0, .slice none 0 0] 75)) := (Below.refl _ _).alloc (Nat.le_refl _) _
  have F1 := Lib.hid (FA.out.below ba)
  have B1 := Lib.hid ba
  have K1 := Lib.hid (heap_alloc_new w (.cells #[.string ByteArray.empty, .int .u32 0, .slice none 0 0, .slice none 0 0] 75))
  clear ba
  go_enter Try.func59, Try.ntmps59
  go_wp2_with fail
  refine (fkey m l3 A3 c3 _ F1.out.r3 OK.out.ok OK.out.sk OK.out.sm).mono ?_
  rintro e w1 ⟨rfl, b1⟩
  have B2 := Lib.hid (B1.out.trans (b1.mono B1.out.size))
  have K2 := Lib.hid ((b1.block _ (blk_lt K1.out)).trans K1.out)
  clear b1 B1 F1 K1
  go_wp2_with (first
    | (at_builtin; refine append_copy k93 w w1 rfl (.tmp 11) (.tmp 12) 55 93 (.agg #[.string ByteArray.empty, .int .u32 0]) 24 rfl Try.underlying55 info93 rfl (by decide) (by decide) l2 A2 c2 rfl rfl FA.out.r2 B2.out (by have := H2.out; omega) ?_; intro A4 c4 w2 hC hc4 hb2; have C2 := Lib.hid hC; have L2 := Lib.hid hc4; have B3 := Lib.hid (B2.out.trans (hb2.mono B2.out.size)); have D2 := Lib.hid hb2; have K3 := Lib.hid ((hb2.block _ (blk_lt K2.out)).trans K2.out); clear hC hc4 hb2)
    | (at_builtin; refine append_copy k80 w w2 rfl (.tmp 14) (.tmp 15) 35 80 (.agg #[.string ⟨#[]⟩, .int .i64 0, .int .i64 0, .int .i32 0, .slice none 0 0]) 64 rfl Try.underlying35 info80' rfl (by decide) (by decide) l3 A3 c3 rfl rfl FA.out.r3 B3.out (by have := H3.out; omega) ?_; intro A5 c5 w3 hC hc5 hb3; have C3 := Lib.hid hC; have L3 := Lib.hid hc5; have B4 := Lib.hid (B3.out.trans (hb3.mono B3.out.size)); have D3 := Lib.hid hb3; have K4 := Lib.hid ((hb3.block _ (blk_lt K3.out)).trans K3.out); have q0 := blk_cell K4.out 0; have q1 := blk_cell K4.out 1; have q2 := blk_cell K4.out 2; have q3 := blk_cell K4.out 3; have fr0 := blk_frozen K4.out 0; have fr1 := blk_frozen K4.out 1; have fr2 := blk_frozen K4.out 2; have fr3 := blk_frozen K4.out 3; simp only [List.getElem?_toArray, List.getElem?_cons_zero, List.getElem?_cons_succ] at q0 q1 q2 q3; clear hC hc5 hb3))
  have X : ∀ k, w.heap.size < k → ((((w3.setCell ⟨w.heap.size, 0, none⟩ (.string m)).setCell ⟨w.heap.size, 1, none⟩ (.int .u32 (keyOf80 m l3))).setCell ⟨w.heap.size, 2, none⟩ (.slice A4 l2.length c4)).setCell ⟨w.heap.size, 3, none⟩ (.slice A5 l3.length c5)).heap[k]? = w3.heap[k]? := fun k hk => by
    rw [Below.heap_setCell _ _ _ k (by simp; omega), Below.heap_setCell _ _ _ k (by simp; omega), Below.heap_setCell _ _ _ k (by simp; omega), Below.heap_setCell _ _ _ k (by simp; omega)]
  have hlt1 := blk_lt K2.out
  have hlt2 := blk_lt K3.out
  have Y : Below w.heap.size w ((((w3.setCell ⟨w.heap.size, 0, none⟩ (.string m)).setCell ⟨w.heap.size, 1, none⟩ (.int .u32 (keyOf80 m l3))).setCell ⟨w.heap.size, 2, none⟩ (.slice A4 l2.length c4)).setCell ⟨w.heap.size, 3, none⟩ (.slice A5 l3.length c5)) :=
    below_set (below_set (below_set (below_set B4.out (Nat.le_refl _)) (Nat.le_refl _)) (Nat.le_refl _)) (Nat.le_refl _)
  refine bodyPost_ret (results_cell_row rfl _ _ w.heap.size 75 #[.string m, .int .u32 (keyOf80 m l3), .slice A4 l2.length c4, .slice A5 l3.length c5] (0, 0) _ rfl (blk_put (blk_put (blk_put (blk_put K4.out 0 _ rfl) 1 _ rfl) 2 _ rfl) 3 _ rfl) Try.underlying75 rfl (by kernel_rfl)) rfl ?_
  refine ⟨A4, A5, c4, c5, rfl, ⟨C2.out _ Y (fun k h1 h2 => ?_), L2.out, C3.out _ Y (fun k h1 h2 => X k (by omega)), L3.out⟩, Y⟩
  rw [X k (by omega)]
  exact D3.out.block k h2
end Go.Proofs.Ytehdhmhpmkkneaa
/- Layer 14: which files are tried, the page's example, a file as the document's. -/
namespace Go.Proofs.Ytehdhmhpmkkneaa
open Go.RowKit Go.Proofs.YtehdhmhpmkkneaaW.PrintWords Go.Proofs.YtehdhmhpmkkneaaW.PrintLast Go.Proofs.YtehdhmhpmkkneaaW.PrintMore Go.Proofs.Ytehdhmhpmkkneaa.PAll
/-- A file that the laws try. -/
structure SmallFile (m : ByteArray) (l2 : List S93) (l3 : List S80) : Prop where
  sm : m.size ≤ 200
  s2 : l2.length ≤ 80
  s3 : Small l3
section
variable (m : ByteArray) (z : Int) (l2 : List S93) (l3 : List S80)
theorem small14_loop (hl : l3.length ≤ 60) : ∀ n i, i + n = l3.length → ∃ r, Ev (fun k => pascalinelaw14_small.l0 k (i : Int) m z l2 l3) r ∧ (r = true → ∀ x ∈ l3.drop i, x.f0.size ≤ 200 ∧ x.f4.length ≤ 60)
  | 0, i, h => ⟨true, Ev.step (G := fun _ => some true) (fun k => by simp only [pascalinelaw14_small.l0]; rw [if_neg (by omega)]) (Ev.const _), fun _ x hx => by rw [List.drop_of_length_le (by omega)] at hx; cases hx⟩
  | n + 1, i, h => by
    have hi : i < l3.length := by omega
    by_cases h1 : (l3[i].f0.size : Int) > 200
    · exact ⟨false, Ev.step (G := fun _ => some false) (fun k => by simp only [pascalinelaw14_small.l0]; rw [if_pos (by omega), if_pos (by omega), rd80 l3 i hi, if_pos h1]) (Ev.const _), fun h => by cases h⟩
    by_cases h2 : (l3[i].f4.length : Int) > 40
    · exact ⟨false, Ev.step (G := fun _ => some false) (fun k => by simp only [pascalinelaw14_small.l0]; rw [if_pos (by omega), if_pos (by omega), rd80 l3 i hi, if_neg h1, if_pos h2]) (Ev.const _), fun h => by cases h⟩
    obtain ⟨r, hr, hp⟩ := small14_loop hl n (i + 1) (by omega)
    refine ⟨r, Ev.step (fun k => ?_) hr, fun h x hx => ?_⟩
    · simp only [pascalinelaw14_small.l0]
      rw [if_pos (by omega), if_pos (by omega), rd80 l3 i hi, if_neg h1, if_neg h2, wrap64_nat i (by omega)]
    · rw [List.drop_eq_getElem_cons hi] at hx
      rcases List.mem_cons.1 hx with rfl | hx
      · omega
      · exact hp h x hx
theorem small14 : ∃ r, Ev (fun k => pascalinelaw14_small.f k m z l2 l3) r ∧ (r = true → SmallFile m l2 l3) := by
  have J : Ev (fun k => pascalinelaw14_small.j0 k true m z l2 l3) false := Ev.step (G := fun _ => some false) (fun k => rfl) (Ev.const _)
  by_cases h2 : (l2.length : Int) > 80
  · exact ⟨false, Ev.congr (fun k => by unfold pascalinelaw14_small.f; rw [if_pos h2]) J, fun h => by cases h⟩
  by_cases h3 : (l3.length : Int) > 60
  · exact ⟨false, Ev.congr (fun k => by unfold pascalinelaw14_small.f; rw [if_neg h2, if_pos h3]) J, fun h => by cases h⟩
  by_cases hm : (m.size : Int) > 200
  · exact ⟨false, Ev.congr (fun k => by unfold pascalinelaw14_small.f; rw [if_neg h2, if_neg h3, decide_eq_true hm]) J, fun h => by cases h⟩
  obtain ⟨r, hr, hp⟩ := small14_loop m z l2 l3 (by omega) l3.length 0 (by omega)
  refine ⟨r, Ev.congr (G := fun k => pascalinelaw14_small.j0 k false m z l2 l3) (fun k => by unfold pascalinelaw14_small.f; rw [if_neg h2, if_neg h3, decide_eq_false hm]) (Ev.step (fun k => by simp only [pascalinelaw14_small.j0]; rw [if_neg (by decide)]; rfl) hr), fun h => ⟨by omega, by omega, by omega, fun x hx => hp h x (by rwa [List.drop_zero])⟩⟩
variable {m l2 l3}
theorem SmallFile.ok (h : SmallFile m l2 l3) (h2 : ∀ x ∈ l2, x.f0.size ≤ 9223372036854775807) (h3 : ∀ x ∈ l3, Ok80 x) : OkFile m l2 l3 :=
  ⟨by have := h.sm; omega, h2, by have := h.s2; omega, h3, fun x hx => by have := (h.s3.2 x hx).1; omega, by have := h.s3.1; omega, by have := keyB_len m l3 h3 h.s3 h.sm; omega⟩
theorem OkFile.par (h : OkFile m l2 l3) : ∀ x ∈ l3, x.f0.size ≤ 9223372036854775807 ∧ x.f4.length ≤ 9223372036854775807 := fun x hx => by
  have h1 := h.s3 x hx
  obtain ⟨_, _, _, _, h2, _⟩ := h.ok x hx
  exact ⟨by omega, h2⟩
end
variable {A2 A3 : Option Addr} {c2 c3 : Nat} {m : ByteArray} {l2 : List S93} {l3 : List S80}
theorem file_small (z : Int) (w : World) (h : FileAt A2 A3 c2 c3 l2 l3 w) : ∃ r, (r = true → SmallFile m l2 l3) ∧ Calls Try.prog 49 #[fileV m z A2 A3 l2.length l3.length c2 c3] w fun e w' => e = .returned (.bool r) ∧ Below w.heap.size w w' := by
  obtain ⟨r, hr, hp⟩ := small14 m z l2 l3
  obtain ⟨k, hk⟩ := hr.one
  exact ⟨r, hp, pascalinelaw14_small.calls k m z A2 c2 l2 A3 c3 l3 r w h.r2 h.h2 h.r3 h.h3 hk⟩
theorem file_rcheck (z : Int) (w : World) (h : FileAt A2 A3 c2 c3 l2 l3 w) (ok : OkFile m l2 l3) :
    Calls Try.prog 55 #[fileV m z A2 A3 l2.length l3.length c2 c3] w fun e w' => e = .returned (.int .i64 (fileS m z l2 l3)) ∧ Below w.heap.size w w' := by
  obtain ⟨k0, hk0⟩ := refKey m l3 ok.ok ok.n3 ok.sk ok.s3 ok.sm
  have hk := Ev.of_mono (F := fun k => pascalineref13_Key.f k m l3) (fun k => pascalineref13_Key.mono m l3 k) hk0
  obtain ⟨k, h'⟩ := (file_ref m z l2 l3 (by have := ok.sm; omega) ok.s2 ok.n2 (by have := ok.n3; omega) ok.par hk).one
  exact pascalineref14_Check.calls k m z A2 c2 l2 A3 c3 l3 _ w h.r2 h.h2 h.r3 h.h3 h'
set_option maxHeartbeats 1000000 in
set_option maxRecDepth 100000 in
theorem file_ref56 (b : ByteArray) (z : Int) (A2 A3 : Option Addr) (n2 n3 c2 c3 : Nat) (w : World) :
    Calls Try.prog 56 #[fileV b z A2 A3 n2 n3 c2 c3] w fun en w' => en = .returned (fileV b z A2 A3 n2 n3 c2 c3) ∧ Below w.heap.size w w' := by
  go_enter Try.func56, Try.ntmps56
  go_wp2
  refine bodyPost_ret (results_cell_row rfl _ _ (w.heap.size + 1) 85 #[.string b, .int .u32 z, .slice A2 n2 c2, .slice A3 n3 c3] (0, 0) _ rfl (by simpa using heap_alloc_new (w.alloc (.cells #[.string b, .int .u32 z, .slice A2 n2 c2, .slice A3 n3 c3] 75)) (.cells #[.string b, .int .u32 z, .slice A2 n2 c2, .slice A3 n3 c3] 85)) Try.underlying85 rfl (by kernel_rfl)) rfl ?_
  exact ⟨rfl, ((Below.refl _ _).alloc (Nat.le_refl _) _).alloc ((Below.refl _ _).alloc (Nat.le_refl _) _).size _⟩
theorem example_file : fileS ⟨#[77]⟩ (keyOf80 ⟨#[77]⟩ []) [] [] = 0 := by
  unfold fileS
  have h1 : nameB ⟨#[77]⟩ = true := by decide +kernel
  rw [if_pos h1]
  have h2 : impsS ⟨#[77]⟩ [] = 0 := rfl
  rw [if_pos h2, if_neg (by simp), show expS [] [] = 0 from rfl, if_pos rfl, if_pos rfl]
theorem example_ok : OkFile ⟨#[77]⟩ [] [] :=
  ⟨by decide, (fun _ h => by cases h), by simp, (fun _ h => by cases h), (fun _ h => by cases h), by simp, by have := keyB_len ⟨#[77]⟩ [] (fun _ h => by cases h) ⟨by simp, fun _ h => by cases h⟩ (by decide); omega⟩
theorem none_at (w : World) : FileAt none none 0 0 [] [] w := ⟨⟨rfl, by simp, fun h => by simp at h⟩, Nat.le_refl _, ⟨rfl, by simp, fun h => by simp at h⟩, Nat.le_refl _⟩
set_option maxHeartbeats 1000000 in
set_option maxRecDepth 100000 in
theorem awake14 (w : World) : Calls Try.prog 48 #[] w fun e w' => e = .returned (.bool true) ∧ Below w.heap.size w w' := by
  go_enter Try.func48, Try.ntmps48
  go_wp2_with fail
  refine (file_make ⟨#[77]⟩ none none 0 0 [] [] _ (none_at _) example_ok (by simp) (by simp)).mono ?_
  rintro e w1 ⟨B2, B3, d2, d3, rfl, fa, b1⟩
  have FA := Lib.hid fa
  have B1 := Lib.hid b1
  clear fa b1
  have ba : Below w1.heap.size w1 (w1.alloc (.cells #[.string ⟨#[77]⟩, .int .u32 (keyOf80 ⟨#[77]⟩ []), .slice B2 0 d2, .slice B3 0 d3] 75)) := (Below.refl _ _).alloc (Nat.le_refl _) _
  have F2 := Lib.hid (FA.out.below ba)
  have K2 := Lib.hid (heap_alloc_new w1 (.cells #[.string ⟨#[77]⟩, .int .u32 (keyOf80 ⟨#[77]⟩ []), .slice B2 0 d2, .slice B3 0 d3] 75))
  have BB := Lib.hid (B1.out.trans (ba.mono B1.out.size))
  have E0 := Lib.hid example_file
  clear ba FA B1
  generalize keyOf80 ⟨#[77]⟩ [] = key at *
  simp only [List.length_nil]
  go_wp2_with fail
  refine (file_check ⟨#[77]⟩ key B2 B3 d2 d3 [] [] _ F2.out example_ok).mono ?_
  rw [E0.out]
  rintro e w2 ⟨rfl, b2⟩
  have K3 := (b2.block _ (blk_lt K2.out)).trans K2.out
  have k0 := blk_cell K3 0
  simp only [List.getElem?_toArray, List.getElem?_cons_zero] at k0
  have B3 := Lib.hid (BB.out.trans (b2.mono BB.out.size))
  clear b2 K3 K2 BB F2
  go_wp2
  go_ret
  exact ⟨rfl, B3.out⟩
end Go.Proofs.Ytehdhmhpmkkneaa
/- A file that comes in, opened. -/
namespace Go.Proofs.Ytehdhmhpmkkneaa
open Go.RowKit Go.Proofs.YtehdhmhpmkkneaaW.PrintWords Go.Proofs.Ytehdhmhpmkkneaa.PAll
/-- Its numbers and texts are what their types say. -/
structure WfFile (m : ByteArray) (z : Int) (l2 : List S93) (l3 : List S80) : Prop where
  sm : m.size ≤ maxLen
  sz : (Lit.int .u32 z).wf = true
  n2 : l2.length ≤ maxLen
  o2 : ∀ x ∈ l2, Ok93 x
  n3 : l3.length ≤ maxLen
  o3 : ∀ x ∈ l3, Ok80 x
theorem WfFile.s2 {m : ByteArray} {z : Int} {l2 : List S93} {l3 : List S80} (h : WfFile m z l2 l3) : ∀ x ∈ l2, x.f0.size ≤ 9223372036854775807 := fun x hx => by
  have := (h.o2 x hx).1
  unfold maxLen at this
  omega
theorem opens75 {H : Type} {enc : TypeId × Value → H} {W : World} {base : Nat} {spare : Nat → Bool} {held : Bool} {v : Value} {dd : DataW H} {p : List MemPlace} {cs : Array Value} (hv : v = .agg cs)
    (h : DataW.Trod enc Try.prog W base spare held 75 v dd p) :
    ∃ m z A2 A3 c2 c3 l2 l3, v = fileV m z A2 A3 l2.length l3.length c2 c3 ∧ FileAt A2 A3 c2 c3 l2 l3 W ∧ WfFile m z l2 l3 := by
  obtain ⟨fuel, hy⟩ := h
  obtain ⟨hl, n, hf⟩ := struct_cells Try.underlying75 (Deep.hone_of (by kernel_rfl)) (by kernel_rfl) hy
  obtain ⟨v0, z0, e0, t0⟩ := hf 0 _ rfl
  obtain ⟨a0, g0, w0⟩ := opens_string Try.underlying9 H enc W base spare held n _ _ t0
  injection g0 with g0 _; subst g0
  obtain ⟨v1, z1, e1, t1⟩ := hf 1 _ rfl
  obtain ⟨a1, g1, w1⟩ := opens_int Try.underlying39 H enc W base spare held n _ _ t1
  injection g1 with g1 _; subst g1
  obtain ⟨v2, z2, e2, t2⟩ := hf 2 _ rfl
  obtain ⟨a2, ⟨A2, c2, g2, l2, h2⟩, w2⟩ := (opens_slice Try.underlying55 (by kernel_rfl) opens93) H enc W base spare held n _ _ t2
  injection g2 with g2 _; subst g2
  obtain ⟨v3, z3, e3, t3⟩ := hf 3 _ rfl
  obtain ⟨a3, ⟨A3, c3, g3, l3, h3⟩, w3⟩ := (opens_slice Try.underlying35 (by kernel_rfl) opens80) H enc W base spare held n _ _ t3
  injection g3 with g3 _; subst g3
  refine ⟨a0, a1, A2, A3, c2, c3, a2, a3, ?_, ⟨h2, l2, h3, l3⟩, ⟨w0, w1, w2.1, w2.2, w3.1, w3.2⟩⟩
  subst hv
  obtain ⟨cs⟩ := cs
  replace hl : cs.length = 4 := by simpa [Value.cells] using hl
  simp only [Value.cells] at e0 e1 e2 e3
  match cs, hl with
  | [y0, y1, y2, y3], _ =>
    injection e0 with e0; subst e0
    injection e1 with e1; subst e1
    injection e2 with e2; subst e2
    injection e3 with e3; subst e3
    rfl
end Go.Proofs.Ytehdhmhpmkkneaa
