/- Layer 12: the walks of the writer (codec.Writer): what each call puts behind the bytes that are there. -/
import Derived.Test.YtehdhmhpmkkneaaPAllx0
import Derived.WalkSpells
import Derived.WalkLawsBesides
import Derived.WalkSmall
import Derived.Lib.Hide
namespace Go.Proofs.Ytehdhmhpmkkneaa
open Go.RowKit Go.Proofs.YtehdhmhpmkkneaaW.PrintWords

theorem info5 : (Try.prog.info? 5).map (fun i => (i.zero, i.size, i.bytes)) = some (some (.int .u8 0), 1, 1) := by kernel_rfl

/-- From w to w': nothing that was there has changed but block g and v's own row; v' is v's row or a new one. -/
structure Mv (w w' : World) (g : Nat) (v v' : Value) : Prop where
  os : w'.os = w.os
  tape : w'.tape = w.tape
  output : w'.output = w.output
  size : w.heap.size ≤ w'.heap.size
  block : ∀ i, i < w.heap.size → i ≠ g → some i ≠ v.ownBlock → w'.heap[i]? = w.heap[i]?
  lies : v'.ownBlock = v.ownBlock ∨ ∃ b, v'.ownBlock = some b ∧ w.heap.size ≤ b

theorem Mv.refl (w : World) (g : Nat) (v : Value) : Mv w w g v v := ⟨rfl, rfl, rfl, Nat.le_refl _, fun _ _ _ _ => rfl, .inl rfl⟩
theorem Mv.trans {w w1 w2 : World} {g : Nat} {v v1 v2 : Value} (h : Mv w w1 g v v1) (k : Mv w1 w2 g v1 v2) : Mv w w2 g v v2 := by
  refine ⟨k.os.trans h.os, k.tape.trans h.tape, k.output.trans h.output, Nat.le_trans h.size k.size, fun i hi hg hv => ?_, ?_⟩
  · have hv1 : some i ≠ v1.ownBlock := by
      rcases h.lies with e | ⟨b, e, hb⟩
      · rw [e]; exact hv
      · rw [e]; intro e'; injection e' with e'; omega
    rw [k.block i (Nat.lt_of_lt_of_le hi h.size) hg hv1, h.block i hi hg hv]
  · rcases k.lies with e | ⟨b, e, hb⟩
    · rw [e]; exact h.lies
    · exact .inr ⟨b, e, Nat.le_trans h.size hb⟩
theorem Mv.of_below {w w1 : World} (h : Below w.heap.size w w1) (g : Nat) (v : Value) : Mv w w1 g v v :=
  ⟨h.os, h.tape, h.output, h.size, fun i hi _ _ => h.block i hi, .inl rfl⟩
theorem Mv.below {w0 w w1 : World} {B g : Nat} {v v1 : Value} (h : Mv w w1 g v v1) (hb : Below B w0 w) (hB : B ≤ w.heap.size) (hg : B ≤ g) (hv : ∀ k, v.ownBlock = some k → B ≤ k) : Below B w0 w1 :=
  hb.trans ⟨h.os, h.tape, h.output, h.size, fun i hi => h.block i (Nat.lt_of_lt_of_le hi hB) (by omega) (fun e => by have := hv i e.symm; omega)⟩

/-- A writer: block g holds the slice v, which owns the bytes xs; both lie from block B on. -/
def Wr (B : Nat) (w : World) (g : Nat) (v : Value) (xs : List Int) : Prop :=
  w.heap[g]? = some (.cells #[v] 26 (0, 0)) ∧ B ≤ g ∧ w.ownsRow B 5 1 v xs.length (nums .u8 xs)

theorem Wr.lt {B : Nat} {w : World} {g : Nat} {v : Value} {xs : List Int} (h : Wr B w g v xs) : g < w.heap.size := blk_lt h.1
theorem Wr.base {B : Nat} {w : World} {g : Nat} {v : Value} {xs : List Int} (h : Wr B w g v xs) : ∀ k, v.ownBlock = some k → B ≤ k := own_base h.2.2
theorem Wr.below {B : Nat} {w w1 : World} {g : Nat} {v : Value} {xs : List Int} (h : Wr B w g v xs) (hb : Below w.heap.size w w1) : Wr B w1 g v xs :=
  ⟨blk_below h.1 hb, h.2.1, pw_own_below h.2.2 hb⟩

theorem own_form {w : World} {base n : Nat} {e : TypeId} {size : Nat} {v : Value} {xs : List Value} (h : w.ownsRow base e size v n xs) : ∃ A m c, v = .slice A m c := by
  obtain ⟨A, c, rfl⟩ := own_slice h
  exact ⟨A, _, c, rfl⟩

/-- The row has grown, and is stored into the writer's block. -/
theorem wr_store {B : Nat} {w w1 : World} {g : Nat} {v v1 : Value} {xs ys : List Int} (h : Wr B w g v xs) (hg : w.grownBy w1 v.ownBlock) (hl : v1.ownBlock = v.ownBlock ∨ ∃ b, v1.ownBlock = some b ∧ w.heap.size ≤ b)
    (ho : w1.ownsRow B 5 1 v1 ys.length (nums .u8 ys)) : Wr B (w1.setCell ⟨g, 0, none⟩ v1) g v1 ys ∧ Mv w (w1.setCell ⟨g, 0, none⟩ v1) g v v1 := by
  obtain ⟨hb, hB, hr⟩ := h
  have hb1 := blk_grown hb hg (own_ne hr hb (by decide))
  refine ⟨⟨blk_set hb1 0 v1, hB, own_setCell ho (own_ne ho hb1 (by decide)) _⟩, ⟨hg.os, hg.tape, hg.output, by simpa [World.setCell] using hg.size, fun i hi hi1 hi2 => ?_, hl⟩⟩
  rw [Below.heap_setCell w1 ⟨g, 0, none⟩ v1 i hi1]
  exact hg.block i hi hi2

set_option maxHeartbeats 400000 in
theorem wbyte (B g : Nat) (v : Value) (xs : List Int) (b : Int) (w : World) (h : Wr B w g v xs) (hl : xs.length + 1 ≤ 140737488355328) :
    Calls Try.prog 74 #[.pointer (some ⟨g, 0, none⟩), .int .u8 b] w fun e w' => e = .returned (.tuple #[]) ∧ ∃ v', Wr B w' g v' (xs ++ [b]) ∧ Mv w w' g v v' := by
  have HW := Lib.hid h
  obtain ⟨hb, hg, ho⟩ := h
  obtain ⟨A, c, rfl⟩ := own_slice ho
  have hc := blk_cell hb 0
  simp only [List.getElem?_toArray, List.getElem?_cons_zero] at hc
  have hz := blk_frozen hb 0
  have hlt := blk_lt hb
  have HO := Lib.hid ho
  have HBK := Lib.hid hb
  have HL := Lib.hid hl
  clear ho hb hl
  go_enter Try.func74, Try.ntmps74
  go_wp2_with (at_builtin; go_must (refine print_append_num (w0 := w) B rfl _ _ 24 5 .u8 1 rfl Try.underlying24 info5 (by decide) (.slice A xs.length c) xs b rfl rfl HO.out (Below.refl _ _) (by omega) (by have := HL.out; omega) ?_; intro v1 w1 hown hbel hgrow hlie; obtain ⟨A1, n1, cap1, rfl⟩ := own_form hown; have hb1 := blk_grown HBK.out hgrow (own_ne HO.out HBK.out (by decide)); have hc1 : w1.cell? ⟨g, 0, none⟩ = some (.slice A xs.length c) := blk_cell hb1 0; have hz1 := blk_frozen hb1 0; clear hb1; have HS := Lib.hid (wr_store HW.out hgrow hlie hown); clear hown hlie hgrow hbel))
  go_end0
  exact ⟨rfl, _, HS.out⟩

end Go.Proofs.Ytehdhmhpmkkneaa
