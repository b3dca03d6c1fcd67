/- CodecPuts: from the argument's reading to the row of pieces that the walk reads. -/
import Derived.Test.YtehdhmhpmkkneaaCp
import Derived.Test.YtehdhmhpmkkneaaOp2
namespace Go.Proofs.Ytehdhmhpmkkneaa
open Go.RowKit Go.Proofs.YtehdhmhpmkkneaaW.PrintWords Go.Proofs.Ytehdhmhpmkkneaa.PAll

def trip (x : S28) : Int × Int × ByteArray := (x.f0, x.f1, x.f2)
theorem pcs_of {w : World} {A : Option Addr} {xs : List S28} (h : Kd.C k28 w A xs.length xs) (ok : ∀ x ∈ xs, Ok28 x) : Pcs w A xs.length (xs.map trip) := by
  intro k hk
  obtain ⟨ad, rfl, d0, _, _⟩ := at_T28 h (0 : Int) (by omega) (by omega)
  obtain ⟨b, off, rfl⟩ := plain_of d0
  obtain ⟨ad, e0, c0, c1, c2⟩ := at_T28 h (k : Int) (by omega) (by omega)
  injection e0 with e0
  subst e0
  simp only [Int.toNat_natCast] at c0 c1 c2
  have e : (⟨b, off, none⟩ : Addr).add (k * 3) = ⟨b, off + k * 3, none⟩ := WideShapes.add_plain _ _ _
  rw [e] at c0 c1 c2
  have ex : rd_T28 xs (k : Int) = xs[k] := by simp [rd_T28, hk]
  rw [ex] at c0 c1 c2
  have ek : (xs.map trip).getD k (0, 0, ByteArray.empty) = trip xs[k] := by simp [hk]
  rw [ek]
  obtain ⟨w0, w1, w2⟩ := ok xs[k] (List.getElem_mem hk)
  have b1 := bd64 w1
  exact ⟨b, off, rfl, World.block_lt_of_cell? _ _ c0, c0, c1, c2, b1.1, b1.2, by show xs[k].f2.size ≤ _; unfold maxLen at w2; omega⟩
end Go.Proofs.Ytehdhmhpmkkneaa
