/- Layer 12: the walks of the writer's Text and Bytes. -/
import Derived.Test.YtehdhmhpmkkneaaCx
import Derived.Test.YtehdhmhpmkkneaaCs
namespace Go.Proofs.Ytehdhmhpmkkneaa
open Go.RowKit Go.Proofs.YtehdhmhpmkkneaaW.PrintWords Go.Proofs.YtehdhmhpmkkneaaW.PrintMore

set_option maxHeartbeats 400000 in
set_option maxRecDepth 100000 in
theorem wtext (B g : Nat) (v : Value) (xs : List Int) (s : ByteArray) (w : World) (h : Wr B w g v xs) (hl : xs.length ≤ 1000000000) (hs : s.size ≤ 1000000000) :
    Calls Try.prog 43 #[.pointer (some ⟨g, 0, none⟩), .string s] w fun e w' => e = .returned (.tuple #[]) ∧ ∃ v', Wr B w' g v' (xs ++ (cnt s.size ++ bytesOf s)) ∧ Mv w w' g v v' := by
  have HW := Lib.hid h
  have HL := Lib.hid hl
  have HS := Lib.hid hs
  have h9 := Lib.hid (cnt_len9 (n := s.size) (by omega))
  clear h hl
  go_enter Try.func43, Try.ntmps43
  go_wp2_with fail
  refine (wcount B g v xs s.size _ HW.out HL.out (by have := HS.out; omega)).mono ?_
  rintro e w2 ⟨rfl, u2, hW2, hM2⟩
  have H4 := Lib.hid hW2
  have H5 := Lib.hid hM2
  have hglt := hW2.2.1
  have hlt := hW2.lt
  clear hW2 hM2 hs
  obtain ⟨A, n, c, rfl⟩ := own_form H4.out.2.2
  have hc := blk_cell H4.out.1 0
  simp only [List.getElem?_toArray, List.getElem?_cons_zero] at hc
  have hz := blk_frozen H4.out.1 0
  go_wp2_with (at_builtin; go_must (refine append_str B rfl _ _ 24 9 5 rfl Try.underlying24 Try.underlying9 info5 (.slice A n c) (xs ++ cnt s.size) s rfl rfl H4.out.2.2 (by omega) (by have := HL.out; have := HS.out; have := h9.out; simp; omega) ?_; intro v1 w1 hown hgrow hlie; obtain ⟨A1, n1, cap1, rfl⟩ := own_form hown; have hb1 := blk_grown H4.out.1 hgrow (own_ne H4.out.2.2 H4.out.1 (by decide)); have hc1 : w1.cell? ⟨g, 0, none⟩ = some (.slice A n c) := blk_cell hb1 0; have hz1 := blk_frozen hb1 0; clear hb1; have H6 := Lib.hid (wr_store H4.out hgrow hlie hown); clear hown hlie hgrow))
  go_end0
  refine ⟨rfl, _, ?_, H5.out.trans H6.out.2⟩
  rw [← List.append_assoc]
  exact H6.out.1

/-- A row of bytes of the call's own is handed back; nothing that was there has changed. -/
def Got (w : World) (xs : List Int) (e : Ending) (w' : World) : Prop := ∃ v', e = .returned v' ∧ w'.ownsRow w.heap.size 5 1 v' xs.length (nums .u8 xs) ∧ Below w.heap.size w w'

set_option maxHeartbeats 400000 in
set_option maxRecDepth 100000 in
theorem wbytes (B g : Nat) (v : Value) (xs : List Int) (w : World) (h : Wr B w g v xs) (hl : xs.length ≤ 1000000000) :
    Calls Try.prog 18 #[.pointer (some ⟨g, 0, none⟩)] w (Got w xs) := by
  obtain ⟨hb, hg, ho⟩ := h
  obtain ⟨A, c, rfl⟩ := own_slice ho
  have hc : w.cell? ⟨g, 0, none⟩ = some (.slice A xs.length c) := blk_cell hb 0
  have hlt := blk_lt hb
  obtain ⟨A2, c2, e2, hreads⟩ := own_reads ho
  injection e2 with eA eN eC
  subst eA eC
  have HR := Lib.hid hreads
  have HL := Lib.hid hl
  have HO := Lib.hid (own_lit w w.heap.size 5 .u8 [] (Nat.le_refl _) (by simp))
  clear hb ho hl hreads eN
  go_enter Try.func18, Try.ntmps18
  go_wp2_with (at_builtin; go_must (refine print_append_row (w0 := w) w.heap.size rfl _ _ 24 5 .u8 1 rfl Try.underlying24 info5 (by decide) (.slice (some ⟨w.heap.size, 0, none⟩) 0 0) [] xs A xs.length c rfl rfl HO.out (HR.out.below ((Below.refl _ _).alloc (Nat.le_refl _) _)) ((Below.refl _ w).alloc (Nat.le_refl _) _) (by simp) (by have := HL.out; simp; omega) ?_; intro v1 w1 hown hbel hgrow hlie; obtain ⟨A1, n1, cap1, rfl⟩ := own_form hown; have H6 := Lib.hid hown; have H7 := Lib.hid hbel; clear hown hlie hgrow hbel))
  go_ret
  exact ⟨_, rfl, H6.out, H7.out⟩

end Go.Proofs.Ytehdhmhpmkkneaa
