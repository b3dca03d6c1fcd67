/- Ml. -/
import Derived.Maps.OwnOps
import Derived.Maps.Views
import Derived.StringKeys
import Derived.Test.YtehdhmhpmkkneaaBPAllx0
/- A set of strings, kept as a map from strings to truths that the call has made: what it holds when it is made, looked into, written. -/
namespace Go.Proofs.Ytehdhmhpmkkneaa
open Go.RowKit Go.Maps Go.WideMaps Go.Proofs.YtehdhmhpmkkneaaW.PrintWords Go.Proofs.YtehdhmhpmkkneaaW.PrintLast
theorem bool_elem {P : Program} {e : TypeId} (he : P.underlying e = some .bool) {v : Value} {x : Bool} {ps : List MemPlace} (h : plainElem (H := Unit) P e v = some (.lit (.bool x), ps)) : v = .bool x := by
  unfold plainElem at h
  rw [he] at h
  cases v <;> simp at h
  exact congrArg Value.bool h.1
def SetAt (w : World) (b n : Nat) (seen : List (List UInt8)) : Prop :=
  ∃ D : DataW Unit, w.ownsMap Try.prog 9 (plainElem Try.prog 4) b n D ∧ IsMap D ∧ ∀ s : ByteArray, D.atKey (.string s.data.toList) (.lit (.bool false)) = .lit (.bool (seen.contains s.data.toList))
theorem keyed9 : Keyed Try.prog 9 := string_keyed Try.underlying9
theorem zero4 (w : World) : (zeroValue 4).run Try.prog w = .ok (.bool false) w := by kernel_rfl
theorem SetAt.made (w : World) : SetAt (w.alloc (.map #[] 0)) w.heap.size 0 [] :=
  ⟨.map [], World.ownsMap_made _ _ _ _, isMap_empty, fun s => by simp [DataW.atKey]⟩
theorem SetAt.lt {w : World} {b n : Nat} {seen : List (List UInt8)} (h : SetAt w b n seen) : b < w.heap.size := by
  obtain ⟨D, h1, _⟩ := h; exact h1.lt
theorem SetAt.kept {w w' : World} {b n : Nat} {seen : List (List UInt8)} {row : Option Nat} (h : SetAt w b n seen) (hg : w.grownBy w' row) (hne : some b ≠ row) : SetAt w' b n seen := by
  obtain ⟨D, h1, h2, h3⟩ := h
  exact ⟨D, h1.kept hg hne, h2, h3⟩
theorem SetAt.heap {w w' : World} {b n : Nat} {seen : List (List UInt8)} (h : SetAt w b n seen) (hg : w'.heap[b]? = w.heap[b]?) : SetAt w' b n seen := by
  obtain ⟨D, ⟨es, clock, hb, r⟩, h2, h3⟩ := h
  exact ⟨D, ⟨es, clock, hg.trans hb, r⟩, h2, h3⟩
theorem SetAt.put {w : World} {b n : Nat} {D : DataW Unit} {seen : List (List UInt8)} (s : ByteArray) (h2 : IsMap D) (h3 : ∀ s : ByteArray, D.atKey (.string s.data.toList) (.lit (.bool false)) = .lit (.bool (seen.contains s.data.toList)))
    (h1 : w.ownsMap Try.prog 9 (plainElem Try.prog 4) b n (D.put (.string s.data.toList) (.lit (.bool true)))) : SetAt w b n (s.data.toList :: seen) := by
  refine ⟨_, h1, h2.put _ _, fun t => ?_⟩
  by_cases e : t.data.toList = s.data.toList
  · rw [e, atKey_put_same h2 (by first | exact trivial | simp [WideAt.IsKeyLit])]
    simp
  · rw [atKey_put_other (fun q => e (by simpa using q)), h3 t]
    simp [e]
theorem wpList_set_lookup (w : World) {ops : Array Oper} {rest : List Oper} {o : Oper} {a : Act} {Q : Exit → Act → World → Prop}
    (hg : o.guard = none) (m x : Operand) (hop : o.op = Op.lookup 141 m x false) (b n : Nat) (seen : List (List UInt8))
    (hm : a.eval m = .map (some b)) (hown : SetAt w b n seen) (s : ByteArray) (hx : a.eval x = .string s) (hs : s.size ≤ maxLen)
    (hK : wpList Try.prog ops Q rest (a.put o.dst (.bool (seen.contains s.data.toList))) w) :
    wpList Try.prog ops Q (o :: rest) a w := by
  obtain ⟨D, h1, h2, h3⟩ := hown
  refine wpList_plain hg fun K' hK' => ?_
  obtain ⟨v, ps, hrun, hv⟩ := h1.lookup keyed9 Try.underlying141 (zero4 _) (plainElem_bool Try.underlying4 false) (keyOf_string_mk Try.underlying9 hs)
  rw [h3 s] at hv
  have hv' := bool_elem Try.underlying4 hv
  subst hv'
  clear hv h3
  generalize seen.contains s.data.toList = bb at hrun hK
  unfold Oper.wp
  simp [execOp, hop, hm, hx, hrun, Result.andThen]
  exact hK' _ _ hK
theorem wpList_set_store (w : World) {ops : Array Oper} {rest : List Oper} {o : Oper} {a : Act} {Q : Exit → Act → World → Prop}
    (hg : o.guard = none) (m x v : Operand) (hop : o.op = Op.mapUpdate 141 m x v ∨ o.op = Op.insert 141 m x v) (b n : Nat) (seen : List (List UInt8))
    (hm : a.eval m = .map (some b)) (hown : SetAt w b n seen) (hn : n < maxLen) (s : ByteArray) (hx : a.eval x = .string s) (hv : a.eval v = .bool true) (hs : s.size ≤ maxLen)
    (hK : ∀ w', SetAt w' b (n + 1) (s.data.toList :: seen) → w.grownBy w' (some b) → wpList Try.prog ops Q rest (a.put o.dst undef) w') :
    wpList Try.prog ops Q (o :: rest) a w := by
  obtain ⟨D, h1, h2, h3⟩ := hown
  refine wpList_plain hg fun K' hK' => ?_
  obtain ⟨w', hrun, r1, r2⟩ := h1.update keyed9 Try.underlying141 hn (keyOf_string_mk Try.underlying9 hs) (plainElem_bool Try.underlying4 true)
  unfold Oper.wp
  rcases hop with hop | hop
  · simp [execOp, hop, hm, hx, hv, hrun, Result.andThen]
    exact hK' _ _ (hK w' (SetAt.put s h2 h3 r1) r2)
  · simp [execOp, hop, hm, hx, hv, hrun, Result.andThen]
    exact hK' _ _ (hK w' (SetAt.put s h2 h3 r1) r2)
end Go.Proofs.Ytehdhmhpmkkneaa
