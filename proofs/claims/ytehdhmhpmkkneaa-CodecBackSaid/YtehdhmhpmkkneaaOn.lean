/- Layer 12: a new reader; steps behind calls that change nothing. -/
import Derived.Test.YtehdhmhpmkkneaaOa
import Derived.Test.YtehdhmhpmkkneaaOb
namespace Go.Proofs.Ytehdhmhpmkkneaa
open Go.RowKit Go.Proofs.YtehdhmhpmkkneaaW.PrintWords Go.Proofs.Ytehdhmhpmkkneaa.PAll

theorem creadN (A : Option Addr) (n c : Nat) (xs : List Int) (w : World) (hr : ReadsInt w .u8 A n xs) (hok : AllB xs) (hl : xs.length ≤ 1000000000) :
    Calls Try.prog 28 #[.slice A n c] w fun e w' => ∃ g, e = .returned (.pointer (some ⟨g, 0, none⟩)) ∧ RD w' g ⟨xs, 0⟩ ∧ w.heap.size ≤ g ∧ Below w.heap.size w w' := by
  refine (cread A n c xs w hr hok hl).mono ?_
  rintro e w' ⟨w0, g, rfl, hi, b1, b2⟩
  refine ⟨g, rfl, ⟨w0, hi, b1⟩, ?_, b2.trans (b1.mono b2.size)⟩
  obtain ⟨_, _, _, _, _, hg, _⟩ := hi
  have := b2.size
  omega

theorem RD.belowR {W W' : World} {g : Nat} {s : RS} (h : RD W g s) (b : Below W.heap.size W W') : RD W' g s := by
  obtain ⟨w0, ⟨f0, p, A, c, hb, hr⟩, hB⟩ := h
  exact ⟨w0, ⟨f0, p, A, c, blk_below hb b, hr⟩, hB.trans (b.mono hB.size)⟩
theorem Wn.belowW {S : Nat} {W W' : World} {h : Nat} {xs : List Int} (k : Wn S W h xs) (b : Below W.heap.size W W') : Wn S W' h xs := by
  obtain ⟨v, h1, h2⟩ := k
  exact ⟨v, h1.below b, h2⟩
theorem Wn.mono {S S' : Nat} {W : World} {h : Nat} {xs : List Int} (k : Wn S W h xs) (b : S' ≤ S) : Wn S' W h xs := by
  obtain ⟨v, h1, h2⟩ := k
  refine ⟨v, h1, ?_⟩
  rcases h2 with e | ⟨b, e, hb⟩
  · exact .inl e
  · exact .inr ⟨b, e, by omega⟩
theorem Wr.hd {B : Nat} {W : World} {h : Nat} {v : Value} {xs : List Int} (k : Wr B W h v xs) : Hd W h := by
  obtain ⟨hb, _, ho⟩ := k
  obtain ⟨A, c, rfl⟩ := own_slice ho
  exact .inl ⟨_, hb, by simp⟩
end Go.Proofs.Ytehdhmhpmkkneaa
