/- MReads. -/
import Derived.Test.YtehdhmhpmkkneaaBMBase
import Derived.RegionTactic
import Derived.Test.YtehdhmhpmkkneaaBMKey
import Derived.Deep.RegionLaw
/- The texts Ta, Tb, Tc, Td, Te, Tf, Tg, one behind the other. -/
/- Layer 12: the document's reader, which goes by value: walks of fail, Byte, Left. -/
namespace Go.Proofs.Ytehdhmhpmkkneaa
open Go.RowKit Go.Proofs.YtehdhmhpmkkneaaW.PrintWords Go.Proofs.YtehdhmhpmkkneaaW.PrintMore Go.Proofs.Ytehdhmhpmkkneaa.PAll
def IsV (w : World) (v : Value) (s : RS) : Prop :=
  ∃ A n c, v = .agg #[.slice A n c, .int .i64 s.err] ∧ ReadsInt w .u8 A n s.xs ∧ n ≤ c ∧ AllB s.xs ∧ n ≤ 140737488351232
theorem IsV.bytes {w : World} {v : Value} {s : RS} (h : IsV w v s) : AllB s.xs := by obtain ⟨_, _, _, _, _, _, h, _⟩ := h; exact h
theorem IsV.below {w w' : World} {v : Value} {s : RS} (h : IsV w v s) (b : Below w.heap.size w w') : IsV w' v s := by
  obtain ⟨A, n, c, e, hr, hx⟩ := h
  exact ⟨A, n, c, e, hr.below b, hx⟩
def VPost (w0 w : World) (s : RS) (u : Value) (e : Ending) (w' : World) : Prop := ∃ v', e = .returned (.tuple #[v', u]) ∧ IsV w0 v' s ∧ Below w.heap.size w w'
theorem b1 (w : World) (o : Obj) : Below w.heap.size w (w.alloc o) := (Below.refl _ _).alloc (Nat.le_refl _) _
theorem b2 (w : World) (o o' : Obj) : Below w.heap.size w ((w.alloc o).alloc o') := (b1 w o).alloc (by simp) _
theorem b3 (w : World) (o o' o2 : Obj) : Below w.heap.size w (((w.alloc o).alloc o').alloc o2) := (b2 w o o').alloc (by simp; omega) _
theorem set2 {w w1 : World} (h : Below w.heap.size w w1) {g : Nat} (hg : w.heap.size ≤ g) (a b : Value) : Below w.heap.size w ((w1.setCell ⟨g, 0, none⟩ a).setCell ⟨g, 1, none⟩ b) :=
  (h.setCell (p := ⟨g, 0, none⟩) hg _).setCell (p := ⟨g, 1, none⟩) hg _
end Go.Proofs.Ytehdhmhpmkkneaa
/- Layer 12: the document's reader: the walk of TakeCount. -/
namespace Go.Proofs.Ytehdhmhpmkkneaa
open Go.RowKit Go.Proofs.YtehdhmhpmkkneaaW.PrintWords Go.Proofs.YtehdhmhpmkkneaaW.PrintMore Go.Proofs.Ytehdhmhpmkkneaa.PAll
section
attribute [local go_sem] max2_mx max_two
end
end Go.Proofs.Ytehdhmhpmkkneaa
/- Layer 12: the document's reader: the walks of TakeNumber and TakeText. -/
namespace Go.Proofs.Ytehdhmhpmkkneaa
open Go.RowKit Go.Proofs.YtehdhmhpmkkneaaW.PrintWords Go.Proofs.YtehdhmhpmkkneaaW.PrintMore Go.Proofs.Ytehdhmhpmkkneaa.PAll
end Go.Proofs.Ytehdhmhpmkkneaa
/- Layer 13: what is read of a fingerprint's bytes, in plain words. -/
namespace Go.Proofs.Ytehdhmhpmkkneaa
open Go.RowKit Go.Proofs.YtehdhmhpmkkneaaW.PrintWords Go.Proofs.YtehdhmhpmkkneaaW.PrintMore Go.Proofs.Ytehdhmhpmkkneaa.PAll
end Go.Proofs.Ytehdhmhpmkkneaa
/- Layer 13: the walk of finger.Read. -/
namespace Go.Proofs.Ytehdhmhpmkkneaa
open Go.RowKit Go.Proofs.YtehdhmhpmkkneaaW.PrintWords Go.Proofs.YtehdhmhpmkkneaaW.PrintMore Go.Proofs.Ytehdhmhpmkkneaa.PAll
structure Mid (w0 w W : World) (g : Nat) (s : RS) : Prop where
  rd : IsR w0 W g s
  low : Below w0.heap.size w0 W
  keep : KeepBut w W g none
theorem Mid.size {w0 w W : World} {g : Nat} {s : RS} (h : Mid w0 w W g s) : w.heap.size ≤ W.heap.size := h.keep.1
theorem Mid.base {w0 w W : World} {g : Nat} {s : RS} (h : Mid w0 w W g s) : w0.heap.size ≤ g := by
  obtain ⟨_, _, _, _, _, hg, _⟩ := h.rd
  exact hg
theorem Mid.lt {w0 w W : World} {g : Nat} {s : RS} (h : Mid w0 w W g s) : g < W.heap.size := by
  obtain ⟨_, _, _, _, hb, _⟩ := h.rd
  exact blk_lt hb
theorem Mid.call {w0 w W : World} {g : Nat} {s s' : RS} {i : Nat} {args : Array Value} {v : Value} (h : Mid w0 w W g s)
    (hc : IsR w0 W g s → Below w0.heap.size w0 W → Calls Try.prog i args W (RPost w0 W g v s')) :
    Calls Try.prog i args W fun e W' => e = .returned v ∧ Mid w0 w W' g s' ∧ KeepBut W W' g none := by
  refine (hc h.rd h.low).mono ?_
  rintro e W' ⟨rfl, i1, b1, k1⟩
  exact ⟨rfl, ⟨i1, b1, keep_trans h.keep k1⟩, k1⟩
theorem IsR.blk {w0 W W' : World} {g : Nat} {s : RS} (h : IsR w0 W g s) (e : W'.heap[g]? = W.heap[g]?) : IsR w0 W' g s := by
  unfold IsR at *
  rw [e]
  exact h
theorem Mid.alloc {w0 w W : World} {g : Nat} {s : RS} (h : Mid w0 w W g s) (o : Obj) : Mid w0 w (W.alloc o) g s := by
  refine ⟨h.rd.blk ?_, h.low.alloc h.low.size _, keep_alloc h.keep o⟩
  exact (b1 W o).block g h.lt
theorem Mid.drawn {w0 w W : World} {g : Nat} {s : RS} (h : Mid w0 w W g s) (n : Nat) : Mid w0 w (W.drewN n) g s := ⟨h.rd, pw_below_drewN h.low n, h.keep⟩
theorem Mid.drew {w0 w W : World} {g : Nat} {s : RS} (h : Mid w0 w W g s) : Mid w0 w W.drew g s := ⟨h.rd, h.low.drew, h.keep⟩
theorem Mid.set {w0 w W : World} {g : Nat} {s : RS} (h : Mid w0 w W g s) {b j : Nat} (hb : w.heap.size ≤ b) (hg : g < w.heap.size) (u : Value) : Mid w0 w (W.setCell ⟨b, j, none⟩ u) g s := by
  have := h.base
  refine ⟨h.rd.blk (Below.heap_setCell W ⟨b, j, none⟩ u g (by show g ≠ b; omega)), h.low.setCell (by show w0.heap.size ≤ b; omega) _, keep_far h.keep hb u⟩
theorem Mid.grown {w0 w W W' : World} {g : Nat} {s : RS} (h : Mid w0 w W g s) {r : Option Nat} (hr : ∀ k, r = some k → w.heap.size ≤ k) (hg : g < w.heap.size) (hw : W.grownBy W' r) : Mid w0 w W' g s := by
  have hb := h.base
  refine ⟨h.rd.blk (hw.block g h.lt (fun e => by have := hr g e.symm; omega)), h.low.grown hw h.low.size (fun k e => by have := hr k e; omega), ?_⟩
  refine h.keep.trans (KeepBut.of_grown hw g) ?_
  rcases r with _ | k
  · exact .inl rfl
  · exact .inr ⟨k, rfl, hr k rfl⟩
end Go.Proofs.Ytehdhmhpmkkneaa
/- Layer 13: the document's Take in plain words; what its calls leave. -/
namespace Go.Proofs.Ytehdhmhpmkkneaa
open Go.RowKit Go.Proofs.YtehdhmhpmkkneaaW.PrintWords Go.Proofs.YtehdhmhpmkkneaaW.PrintMore Go.Proofs.Ytehdhmhpmkkneaa.PAll
structure Vm (w0 w W : World) (R : Nat) (A : Option Addr) (n c : Nat) (s : RS) : Prop where
  box : W.heap[R]? = some (.cells #[.slice A n c, .int .i64 s.err] 48 (0, 0))
  iv : IsV w0 (.agg #[.slice A n c, .int .i64 s.err]) s
  res : W.heap[R + 1]? = some (.cells #[.slice none 0 0, .int .i64 0] 48 (0, 0))
  low : Below w.heap.size w W
  base : w.heap.size ≤ R
theorem Vm.below {w0 w W W' : World} {R : Nat} {A : Option Addr} {n c : Nat} {s : RS} (h : Vm w0 w W R A n c s) (b : Below W.heap.size W W') : Vm w0 w W' R A n c s :=
  ⟨blk_below h.box b, h.iv, blk_below h.res b, h.low.trans (b.mono h.low.size), h.base⟩
theorem Vm.alloc {w0 w W : World} {R : Nat} {A : Option Addr} {n c : Nat} {s : RS} (h : Vm w0 w W R A n c s) (o : Obj) : Vm w0 w (W.alloc o) R A n c s := h.below (b1 W o)
theorem Vm.set {w0 w W : World} {R : Nat} {A : Option Addr} {n c : Nat} {s : RS} (h : Vm w0 w W R A n c s) {b : Nat} (hb : R + 1 < b) (j : Nat) (u : Value) : Vm w0 w (W.setCell ⟨b, j, none⟩ u) R A n c s :=
  ⟨blk_far h.box (by show R ≠ b; omega) _, h.iv, blk_far h.res (by show R + 1 ≠ b; omega) _, h.low.setCell (by show w.heap.size ≤ b; have := h.base; omega) _, h.base⟩
theorem Vm.grown {w0 w W W' : World} {R : Nat} {A : Option Addr} {n c : Nat} {s : RS} (h : Vm w0 w W R A n c s) {r : Option Nat} (hr : ∀ k, r = some k → R + 1 < k) (hw : W.grownBy W' r) : Vm w0 w W' R A n c s :=
  ⟨blk_grown h.box hw (fun e => by have := hr R e.symm; omega), h.iv, blk_grown h.res hw (fun e => by have := hr _ e.symm; omega), h.low.grown hw h.low.size (fun k e => by have := hr k e; have := h.base; omega), h.base⟩
theorem Vm.put {w0 w W : World} {R : Nat} {A A' : Option Addr} {n c n' c' : Nat} {s s' : RS} (h : Vm w0 w W R A n c s) (iv : IsV w0 (.agg #[.slice A' n' c', .int .i64 s'.err]) s') :
    Vm w0 w ((W.setCell ⟨R, 0, none⟩ (.slice A' n' c')).setCell ⟨R, 1, none⟩ (.int .i64 s'.err)) R A' n' c' s' :=
  ⟨blk_put (blk_put h.box 0 _ rfl) 1 _ rfl, iv, blk_far (blk_far h.res (by simp) _) (by simp) _, set2 h.low h.base _ _, h.base⟩
end Go.Proofs.Ytehdhmhpmkkneaa
/- Layer 13: the walk of the document's Take. -/
namespace Go.Proofs.Ytehdhmhpmkkneaa
open Go.RowKit Go.Proofs.YtehdhmhpmkkneaaW.PrintWords Go.Proofs.YtehdhmhpmkkneaaW.PrintMore Go.Proofs.Ytehdhmhpmkkneaa.PAll
theorem Vm.call {w0 w W : World} {R : Nat} {A : Option Addr} {n c : Nat} {s s' : RS} {i : Nat} {args : Array Value} {u : Value} (h : Vm w0 w W R A n c s)
    (hc : Calls Try.prog i args W (VPost w0 W s' u)) :
    Calls Try.prog i args W fun e W' => ∃ A' n' c', e = .returned (.tuple #[.agg #[.slice A' n' c', .int .i64 s'.err], u]) ∧ IsV w0 (.agg #[.slice A' n' c', .int .i64 s'.err]) s' ∧ Below W.heap.size W W' ∧ Vm w0 w W' R A n c s := by
  refine hc.mono ?_
  rintro e W' ⟨v', rfl, iv, bw⟩
  obtain ⟨A', n', c', rfl, _⟩ := id iv
  exact ⟨A', n', c', rfl, iv, bw, h.below bw⟩
end Go.Proofs.Ytehdhmhpmkkneaa
