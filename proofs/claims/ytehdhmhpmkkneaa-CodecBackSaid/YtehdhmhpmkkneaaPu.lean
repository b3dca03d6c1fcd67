/- The walk of the law's put: a piece is put at both. -/
import Derived.Test.YtehdhmhpmkkneaaRg
namespace Go.Proofs.Ytehdhmhpmkkneaa
open Go.RowKit Go.Proofs.YtehdhmhpmkkneaaW.PrintWords

/-- A piece's bytes. -/
def piece (k n : Int) (s : ByteArray) : List Int :=
  if k = 0 then [n % 256] else if k = 1 then cnt n.toNat else if k = 2 then cnt (sgn (wrap32 n)) else if k = 3 then wrd (n % 4294967296) else if k = 4 then cnt s.size ++ bytesOf s else []

/-- Two rows of bytes of the call's own that are not one. -/
def Apart (v u : Value) : Prop := v.ownBlock = none ∨ v.ownBlock ≠ u.ownBlock

/-- Behind put: both have the piece's bytes. -/
def PutPost (B : Nat) (w : World) (g : Nat) (xs ys : List Int) (e : Ending) (w' : World) : Prop :=
  ∃ v' u', e = .returned u' ∧ Wr B w' g v' xs ∧ w'.ownsRow B 5 1 u' ys.length (nums .u8 ys) ∧ Apart u' v' ∧ Below B w w'

theorem put_mid {B g : Nat} {w w2 : World} {v v2 u : Value} {xs ys : List Int} (hv : Wr B w g v xs) (hu : w.ownsRow B 5 1 u ys.length (nums .u8 ys)) (ha : Apart u v) (m2 : Mv w w2 g v v2) :
    w2.ownsRow B 5 1 u ys.length (nums .u8 ys) := by
  refine own_move hu fun k hk => m2.block k (own_lt hu k hk) (fun e => own_ne hu hv.1 (by decide) (by rw [← e]; exact hk.symm)) (fun e => ?_)
  rcases ha with h | h
  · rw [h] at hk; cases hk
  · exact h (by rw [hk, e])

/-- The second half: what the document's call made is appended to the row u. -/
theorem put_tail {B g : Nat} {w w2 w3 w4 : World} {v v2 u u' : Value} {xs xs2 ys zs : List Int} (hB : B ≤ w.heap.size)
    (hv : Wr B w g v xs) (hu : w.ownsRow B 5 1 u ys.length (nums .u8 ys)) (ha : Apart u v)
    (h2 : Wr B w2 g v2 xs2) (m2 : Mv w w2 g v v2) (b3 : Below w2.heap.size w2 w3)
    (h4 : w4.ownsRow B 5 1 u' (ys ++ zs).length (nums .u8 (ys ++ zs))) (g4 : w3.grownBy w4 u.ownBlock) (l4 : u'.ownBlock = u.ownBlock ∨ ∃ b, u'.ownBlock = some b ∧ w3.heap.size ≤ b) :
    PutPost B w g xs2 (ys ++ zs) (.returned u') w4 := by
  have hBw := own_base hu
  have u2 : u.ownBlock = none ∨ u.ownBlock ≠ v2.ownBlock := by
    rcases ha with e | ne
    · exact .inl e
    · rcases m2.lies with e | ⟨b, e, hb⟩
      · rw [e]; exact .inr ne
      · refine .inr fun e2 => ?_
        rw [e] at e2
        have := own_lt hu b e2
        omega
  have v2lt : ∀ k, v2.ownBlock = some k → k < w2.heap.size := own_lt h2.2.2
  have gne : some g ≠ u.ownBlock := fun e => own_ne hu hv.1 (by decide) e
  have hw3 : Wr B w3 g v2 xs2 := h2.below b3
  have hw4 : Wr B w4 g v2 xs2 := ⟨blk_grown hw3.1 g4 gne, hw3.2.1, own_other hw3.2.2 g4 (by
    rcases u2 with e | ne
    · rcases hk : v2.ownBlock with _ | k
      · exact .inl rfl
      · rw [e]; exact .inr (by simp)
    · exact .inr (fun e => ne e.symm))⟩
  refine ⟨v2, u', rfl, hw4, h4, ?_, ?_⟩
  · rcases l4 with e | ⟨b, e, hb⟩
    · unfold Apart; rw [e]; exact u2
    · refine .inr fun e2 => ?_
      rw [e] at e2
      have := v2lt b e2.symm
      have := b3.size
      omega
  · have b2 := m2.below (Below.refl B w) hB hv.2.1 hv.base
    have s2 := m2.size
    exact (b2.trans (b3.mono (by omega))).grown g4 (by have := b3.size; omega) hBw

theorem PutPost.pre {B g : Nat} {w w1 : World} {xs ys : List Int} (hb : Below B w w1) {e : Ending} {w' : World} (h : PutPost B w1 g xs ys e w') : PutPost B w g xs ys e w' := by
  obtain ⟨v', u', a, b, c, d, f⟩ := h
  exact ⟨v', u', a, b, c, d, hb.trans f⟩
/-- A cell of a block that the writer's call leaves alone. -/
theorem cell_mv {w w2 : World} {g : Nat} {v v2 : Value} (m2 : Mv w w2 g v v2) {N j : Nat} {x : Value} (h : w.cell? ⟨N, j, none⟩ = some x) (hg : N ≠ g) (hv : some N ≠ v.ownBlock) : w2.cell? ⟨N, j, none⟩ = some x := by
  have hlt := World.block_lt_of_cell? _ _ h
  rw [← h]
  exact World.cell?_of_block (w := w) (m2.block N hlt hg hv)
end Go.Proofs.Ytehdhmhpmkkneaa
