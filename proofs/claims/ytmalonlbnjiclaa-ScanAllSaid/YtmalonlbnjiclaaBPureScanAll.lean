/- ScanAll: a text's signs are the document's, or where the first that is wrong begins is told. No condition. -/
import Derived.Test.YtmalonlbnjiclaaBPAllx18
import Derived.Test.YtmalonlbnjiclaaBSj
namespace Go.Proofs.Ytmalonlbnjiclaa.Pure
open Go.RowKit Go.Proofs.Ytmalonlbnjiclaa.PAll Go.Proofs.YtmalonlbnjiclaaW.PrintWords Go.Proofs.YtmalonlbnjiclaaW.PrintLast
set_option linter.unusedVariables false
set_option linter.unusedSimpArgs false
theorem rd32_at (l : List Sg) (i : Nat) (h : i < l.length) : rd_T32 (l.map sgn) (i : Int) = sgn l[i] := by
  unfold rd_T32
  rw [Int.toNat_natCast]
  simp [List.getD, h]
theorem rd33_at (l : List Sg) (i : Nat) (h : i < l.length) : rd_T33 (l.map sgn3) (i : Int) = sgn3 l[i] := by
  unfold rd_T33
  rw [Int.toNat_natCast]
  simp [List.getD, h]
theorem is_same (x : Sg) : pascalinelaw08_is.f (sgn x).f0 (sgn x).f1 (sgn x).f2 (sgn x).f3 (sgn x).f4 (sgn3 x).f0 (sgn3 x).f1 (sgn3 x).f2 (sgn3 x).f3 (sgn3 x).f4 = some true := by
  show pascalinelaw08_is.f x.kind x.from_ x.to_ x.text x.n x.kind x.from_ x.to_ x.text x.n = some true
  unfold pascalinelaw08_is.f
  rw [if_pos rfl, if_pos rfl, if_pos rfl, if_pos rfl]
  simp
theorem all_same (l : List Sg) (hl : l.length ≤ 1000000) : ∀ d i, l.length - i = d → i ≤ l.length → Ev (fun k => pascalinelaw08_ScanAll.l0 k (l.map sgn) (l.map sgn3) (i : Int)) true := by
  intro d
  induction d using Nat.strongRecOn with
  | _ d ih =>
    intro i hd hi
    by_cases hlt : i < l.length
    · obtain ⟨K, hK⟩ := ih (l.length - (i + 1)) (by omega) (i + 1) rfl (by omega)
      refine ⟨K + 1, fun k hk => ?_⟩
      obtain ⟨m, rfl⟩ : ∃ m, k = m + 1 := ⟨k - 1, by omega⟩
      have h2 := hK m (by omega)
      dsimp only at h2
      dsimp only
      rw [pascalinelaw08_ScanAll.l0, List.length_map, List.length_map, if_pos (by omega), if_pos (by omega), if_pos (by omega), rd32_at l i hlt, rd33_at l i hlt, is_same, Option.bind_some, if_pos rfl, wsuc1 i (by omega)]
      exact h2
    · refine ⟨1, fun k hk => ?_⟩
      obtain ⟨m, rfl⟩ : ∃ m, k = m + 1 := ⟨k - 1, by omega⟩
      dsimp only
      rw [pascalinelaw08_ScanAll.l0, List.length_map, if_neg (by omega)]
theorem reads_len {s : ByteArray} {p : Nat} {l : List Sg} {at_ e : Int} (h : Reads s p l at_ e) : p ≤ s.size → l.length + p ≤ s.size + 1 := by
  induction h with
  | bad p h => intro hp; simp; omega
  | last p h k => intro hp; simp; omega
  | more p l at_ e h k r ih =>
    intro hp
    have hb := next_bd s p hp
    have h1 := ((hb.2.2.2 h).2.1 k).1
    have := ih hb.2.2.1
    split
    · simp; omega
    · simp; omega
theorem law_all (s : ByteArray) (l : List Sg) (hl : l.length ≤ 1000000) (at_ e : Int) (h1 : Ev (fun k => scan_All.f k s) (l.map sgn, at_, e)) (h2 : Ev (fun k => pascalineref08_All.f k s) (l.map sgn3, at_, e)) (hs : ¬ (s.size : Int) > 70000) : ∃ k, pascalinelaw08_ScanAll.f k s = some true := by
  obtain ⟨K0, h0⟩ := awake_ev
  obtain ⟨K1, h1⟩ := h1
  obtain ⟨K2, h2⟩ := h2
  obtain ⟨K3, h3⟩ := all_same l hl _ 0 rfl (by omega)
  refine ⟨K0 + K1 + K2 + K3 + 1, ?_⟩
  have e0 := h0 (K0 + K1 + K2 + K3 + 1) (by omega)
  have e1 := h1 (K0 + K1 + K2 + K3 + 1) (by omega)
  have e2 := h2 (K0 + K1 + K2 + K3 + 1) (by omega)
  have e3 := h3 (K0 + K1 + K2 + K3) (by omega)
  dsimp only at e0 e1 e2 e3
  unfold pascalinelaw08_ScanAll.f
  rw [e0, Option.bind_some, if_pos rfl, if_neg hs, e1, Option.bind_some, e2, Option.bind_some]
  dsimp only
  rw [if_pos rfl, if_pos rfl, pascalinelaw08_ScanAll.j0, List.length_map, List.length_map]
  rw [if_neg (by simp)]
  exact e3
theorem ScanAll : pascalinelaw08_ScanAll.Pure := by
  intro a0 _
  by_cases h7 : (a0.size : Int) > 70000
  · obtain ⟨K0, h0⟩ := awake_ev
    refine ⟨K0, ?_⟩
    have e0 := h0 K0 (Nat.le_refl _)
    dsimp only at e0
    unfold pascalinelaw08_ScanAll.f
    rw [e0, Option.bind_some, if_pos rfl, if_pos h7]
  · by_cases h6 : 65536 < a0.size
    · exact law_all a0 [] (by simp) 0 242 (all_long h6) (rall_long h6) h7
    · obtain ⟨l, at_, e, r⟩ := reads_ex a0 _ 0 rfl (by omega)
      have := reads_len r (by omega)
      exact law_all a0 l (by omega) at_ e (all_ev (by omega) r) (rall_ev (by omega) r) h7
end Go.Proofs.Ytmalonlbnjiclaa.Pure
