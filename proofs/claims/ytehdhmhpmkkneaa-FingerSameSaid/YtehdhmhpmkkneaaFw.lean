/- Layer 13: what finger.Write puts, in plain words; rows of exports and parameters as the walks read them. -/
import Derived.Test.YtehdhmhpmkkneaaCy
import Derived.Test.YtehdhmhpmkkneaaOp2
namespace Go.Proofs.Ytehdhmhpmkkneaa
open Go.RowKit Go.Proofs.YtehdhmhpmkkneaaW.PrintWords Go.Proofs.Ytehdhmhpmkkneaa.PAll

/-- A parameter's bytes, an export's, a list's. -/
def parB (p : S119) : List Int := cnt p.f0.toNat ++ cnt (if p.f1 = true then 1 else 0)
def headB (x : S80) : List Int := (cnt x.f0.size ++ bytesOf x.f0) ++ cnt x.f1.toNat ++ cnt x.f2.toNat ++ cnt (sgn x.f3) ++ cnt x.f4.length
def expB (x : S80) : List Int := headB x ++ x.f4.flatMap parB
def expsB (l : List S80) : List Int := cnt l.length ++ l.flatMap expB

theorem plain_add (b off k : Nat) : (⟨b, off, none⟩ : Addr).add k = ⟨b, off + k, none⟩ := WideShapes.add_plain _ _ _

theorem row119 {w : World} {A : Option Addr} {xs : List S119} (h : Kd.C k119 w A xs.length xs) (k : Nat) (hk : k < xs.length) :
    ∃ b off, A = some ⟨b, off, none⟩ ∧ b < w.heap.size ∧ w.cell? ⟨b, off + k * 2, none⟩ = some (.int .i64 xs[k].f0) ∧ w.cell? ⟨b, off + k * 2 + 1, none⟩ = some (.bool xs[k].f1) := by
  obtain ⟨ad, rfl, d0, _⟩ := at_T119 h (0 : Int) (by omega) (by omega)
  obtain ⟨b, off, rfl⟩ := plain_of d0
  obtain ⟨ad, e0, c0, c1⟩ := at_T119 h (k : Int) (by omega) (by omega)
  injection e0 with e0
  subst e0
  simp only [Int.toNat_natCast] at c0 c1
  rw [plain_add] at c0 c1
  have ex : rd_T119 xs (k : Int) = xs[k] := by simp [rd_T119, hk]
  rw [ex] at c0 c1
  exact ⟨b, off, rfl, World.block_lt_of_cell? _ _ c0, c0, c1⟩

theorem row80 {w : World} {A : Option Addr} {xs : List S80} (h : Kd.C k80 w A xs.length xs) (k : Nat) (hk : k < xs.length) :
    ∃ b off A4 c4, A = some ⟨b, off, none⟩ ∧ b < w.heap.size ∧ w.cell? ⟨b, off + k * 5, none⟩ = some (.string xs[k].f0) ∧ w.cell? ⟨b, off + k * 5 + 1, none⟩ = some (.int .i64 xs[k].f1) ∧ w.cell? ⟨b, off + k * 5 + 2, none⟩ = some (.int .i64 xs[k].f2) ∧
      w.cell? ⟨b, off + k * 5 + 3, none⟩ = some (.int .i32 xs[k].f3) ∧ w.cell? ⟨b, off + k * 5 + 4, none⟩ = some (.slice A4 xs[k].f4.length c4) ∧ xs[k].f4.length ≤ c4 ∧ Kd.C k119 w A4 xs[k].f4.length xs[k].f4 := by
  obtain ⟨ad, _, _, rfl, d0, _⟩ := at_T80 h (0 : Int) (by omega) (by omega)
  obtain ⟨b, off, rfl⟩ := plain_of d0
  obtain ⟨ad, A4, c4, e0, c0, c1, c2, c3, c4', l4, g4⟩ := at_T80 h (k : Int) (by omega) (by omega)
  injection e0 with e0
  subst e0
  simp only [Int.toNat_natCast] at c0 c1 c2 c3 c4'
  rw [plain_add] at c0 c1 c2 c3 c4'
  have ex : rd_T80 xs (k : Int) = xs[k] := by simp [rd_T80, hk]
  rw [ex] at c0 c1 c2 c3 c4' l4 g4
  exact ⟨b, off, A4, c4, rfl, World.block_lt_of_cell? _ _ c0, c0, c1, c2, c3, c4', l4, g4⟩

/-- A block that the writer's call leaves alone. -/
theorem blk_mv {w w2 : World} {g : Nat} {v v2 : Value} (m2 : Mv w w2 g v v2) {N : Nat} {o : Obj} (h : w.heap[N]? = some o) (hg : N ≠ g) (hv : some N ≠ v.ownBlock) : w2.heap[N]? = some o :=
  (m2.block N (blk_lt h) hg hv).trans h

/-- A prefix of what is to be put is no longer than the whole. -/
theorem flat_take {α : Type} (f : α → List Int) (l : List α) (k : Nat) (hk : k < l.length) : ((l.take k).flatMap f).length + (f l[k]).length ≤ (l.flatMap f).length := by
  have e : l = l.take k ++ (l[k] :: l.drop (k + 1)) := by rw [← List.drop_eq_getElem_cons hk, List.take_append_drop]
  have : (l.flatMap f).length = ((l.take k).flatMap f).length + ((f l[k]).length + ((l.drop (k + 1)).flatMap f).length) := by
    conv => lhs; rw [e]
    rw [List.flatMap_append, List.flatMap_cons, List.length_append, List.length_append]
  omega
theorem flat_snoc {α : Type} (f : α → List Int) (l : List α) (k : Nat) (hk : k < l.length) : (l.take (k + 1)).flatMap f = (l.take k).flatMap f ++ f l[k] := by
  rw [List.take_succ_eq_append_getElem hk, List.flatMap_append]
  simp
end Go.Proofs.Ytehdhmhpmkkneaa
