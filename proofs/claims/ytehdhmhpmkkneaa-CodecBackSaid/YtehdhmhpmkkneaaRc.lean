/- Layer 12: the code's reader: walks of Left, fail, Byte, End. -/
import Derived.Test.YtehdhmhpmkkneaaRa
import Derived.Test.YtehdhmhpmkkneaaCw
import Derived.Deep.QuietTactic
import Derived.BigQuiet
namespace Go.Proofs.Ytehdhmhpmkkneaa
open Go.RowKit Go.Proofs.YtehdhmhpmkkneaaW.PrintWords Go.Proofs.Ytehdhmhpmkkneaa.PAll

/-- A reader at block g of W that reads s; its bytes were there in w0. -/
def IsR (w0 W : World) (g : Nat) (s : RS) : Prop :=
  ∃ f0 p A c, W.heap[g]? = some (.cells #[.slice A f0.length c, .int .i64 p, .int .i64 s.err] 123 (0, 0)) ∧ w0.heap.size ≤ g ∧ f0.length ≤ c ∧ ReadsInt w0 .u8 A f0.length f0 ∧ Abs f0 p s ∧ AllB f0 ∧ f0.length ≤ 140737488351232

theorem IsR.bytes {w0 W : World} {g : Nat} {s : RS} (h : IsR w0 W g s) : AllB s.xs := by
  obtain ⟨f0, p, A, c, _, _, _, _, ⟨_, _, hx⟩, ok, _⟩ := h
  intro x hm
  rw [hx] at hm
  exact ok x (List.mem_of_mem_drop hm)
theorem IsR.len {w0 W : World} {g : Nat} {s : RS} (h : IsR w0 W g s) : s.xs.length ≤ 140737488351232 := by
  obtain ⟨f0, p, A, c, _, _, _, _, ⟨_, _, hx⟩, ok, hm⟩ := h
  rw [hx, List.length_drop]
  omega
theorem IsR.errCell {w0 W : World} {g : Nat} {s : RS} (h : IsR w0 W g s) : W.cell? ⟨g, 2, none⟩ = some (.int .i64 s.err) := by
  obtain ⟨f0, p, A, c, hb, _⟩ := h
  exact blk_cell hb 2

theorem drawn_heap {w w1 : World} (h : Drawn0 w w1) : w1.heap = w.heap := by
  obtain ⟨n, rfl⟩ := h.out
  rfl
theorem IsR.drawn {w0 w w1 : World} {g : Nat} {s : RS} (h : IsR w0 w g s) (d : Drawn0 w w1) : IsR w0 w1 g s := by
  unfold IsR at *
  rw [drawn_heap d]
  exact h
theorem keep_drawn {w w1 : World} (d : Drawn0 w w1) (g : Nat) : KeepBut w w1 g none := KeepBut.of_below d.below g none

/-- Behind a call of the reader: its answer, its state; nothing else that was there has changed. -/
def RPost (w0 w : World) (g : Nat) (v : Value) (s : RS) (e : Ending) (w' : World) : Prop := e = .returned v ∧ IsR w0 w' g s ∧ Below w0.heap.size w0 w' ∧ KeepBut w w' g none

theorem keep_trans {w w1 w2 : World} {g : Nat} (h : KeepBut w w1 g none) (k : KeepBut w1 w2 g none) : KeepBut w w2 g none := h.trans k (.inl rfl)
theorem RPost.after {w0 w w1 : World} {g : Nat} {v : Value} {s : RS} {e : Ending} {w' : World} (k : KeepBut w w1 g none) (h : RPost w0 w1 g v s e w') : RPost w0 w g v s e w' :=
  ⟨h.1, h.2.1, h.2.2.1, keep_trans k h.2.2.2⟩

set_option maxHeartbeats 400000 in
set_option maxRecDepth 100000 in
theorem cleft (w0 w : World) (g : Nat) (s : RS) (h : IsR w0 w g s) :
    Calls Try.prog 32 #[.pointer (some ⟨g, 0, none⟩)] w fun e w' => e = .returned (.int .i64 (leftS s)) ∧ Drawn0 w w' := by
  obtain ⟨f0, p, A, c, hblk, hg, hc, hrd, ⟨p0, p1, px⟩, ok, hm⟩ := h
  have c0 : w.cell? ⟨g, 0, none⟩ = some (.slice A f0.length c) := blk_cell hblk 0
  have c1 : w.cell? ⟨g, 1, none⟩ = some (.int .i64 p) := blk_cell hblk 1
  have c2 : w.cell? ⟨g, 2, none⟩ = some (.int .i64 s.err) := blk_cell hblk 2
  by_cases he : s.err = 0
  · have hL : leftS s = f0.length - p := by unfold leftS; rw [if_pos he, px, List.length_drop]; omega
    rw [hL]
    have E1 : (s.err == 0) = true := beq_iff_eq.2 he
    have E2 : (s.err != 0) = false := by rw [he]; rfl
    clear hL he hblk hrd px ok
    go_enter Try.func32, Try.ntmps32
    go_wp2
    go_quiet (fail)
    go_wp2
    go_ret
    exact ⟨rfl, ⟨_, rfl⟩⟩
  · have hL : leftS s = 0 := by unfold leftS; rw [if_neg he]
    rw [hL]
    have E1 : (s.err == 0) = false := beq_eq_false_iff_ne.2 he
    have E2 : (s.err != 0) = true := bne_iff_ne.2 he
    clear hL he hblk hrd px ok
    go_enter Try.func32, Try.ntmps32
    go_wp2
    go_ret
    exact ⟨rfl, Drawn0.refl _⟩

/-- What fail leaves. -/
def failS (s : RS) (x : Int) : RS := if s.err = 0 then ⟨s.xs, x⟩ else s

set_option maxHeartbeats 400000 in
set_option maxRecDepth 100000 in
theorem cfail (w0 w : World) (g : Nat) (s : RS) (x : Int) (h : IsR w0 w g s) (hb : Below w0.heap.size w0 w) :
    Calls Try.prog 91 #[.pointer (some ⟨g, 0, none⟩), .int .i64 x] w (RPost w0 w g (.tuple #[]) (failS s x)) := by
  have HI := Lib.hid h
  have HB := Lib.hid hb
  obtain ⟨f0, p, A, c, hblk, hg, hc, hrd, ⟨p0, p1, px⟩, ok, hm⟩ := h
  have c2 : w.cell? ⟨g, 2, none⟩ = some (.int .i64 s.err) := blk_cell hblk 2
  have z2 := blk_frozen hblk 2
  have BLK := Lib.hid hblk
  have HRD := Lib.hid hrd
  have PX := Lib.hid px
  have OK := Lib.hid ok
  by_cases he : s.err = 0
  · have hF : failS s x = ⟨s.xs, x⟩ := by unfold failS; rw [if_pos he]
    rw [hF]
    have E1 : (s.err == 0) = true := beq_iff_eq.2 he
    have E2 : (s.err != 0) = false := by rw [he]; rfl
    clear hF he hblk hrd px hb ok
    go_enter Try.func91, Try.ntmps91
    go_wp2
    go_end0
    exact ⟨rfl, ⟨f0, p, A, c, blk_set BLK.out 2 _, hg, hc, HRD.out, ⟨p0, p1, PX.out⟩, OK.out, hm⟩, HB.out.setCell hg _, (KeepBut.refl _ _ _).set_ 2 _⟩
  · have hF : failS s x = s := by unfold failS; rw [if_neg he]
    rw [hF]
    have E1 : (s.err == 0) = false := beq_eq_false_iff_ne.2 he
    have E2 : (s.err != 0) = true := bne_iff_ne.2 he
    clear hF he hblk hrd px hb ok
    go_enter Try.func91, Try.ntmps91
    go_wp2
    go_end0
    exact ⟨rfl, HI.out, HB.out, KeepBut.refl _ _ _⟩

set_option maxHeartbeats 400000 in
set_option maxRecDepth 100000 in
theorem cerr (w0 w : World) (g : Nat) (s : RS) (h : IsR w0 w g s) (hb : Below w0.heap.size w0 w) :
    Calls Try.prog 31 #[.pointer (some ⟨g, 0, none⟩)] w (RPost w0 w g (.int .i64 s.err) s) := by
  have HI := Lib.hid h
  have HB := Lib.hid hb
  have c2 := h.errCell
  clear h hb
  go_enter Try.func31, Try.ntmps31
  go_wp2
  go_ret
  exact ⟨rfl, HI.out, HB.out, KeepBut.refl _ _ _⟩

set_option maxHeartbeats 400000 in
set_option maxRecDepth 100000 in
theorem cbyte (w0 w : World) (g : Nat) (s : RS) (h : IsR w0 w g s) (hb : Below w0.heap.size w0 w) :
    Calls Try.prog 46 #[.pointer (some ⟨g, 0, none⟩)] w (RPost w0 w g (.int .u8 (byteS s).1) (byteS s).2) := by
  have HI := Lib.hid h
  have HB := Lib.hid hb
  obtain ⟨f0, p, A, c, hblk, hg, hc, hrd, ⟨p0, p1, px⟩, ok, hm⟩ := h
  by_cases hL : leftS s < 1
  · have hS : byteS s = (0, failS s 120) := by
      unfold byteS failS
      by_cases he : s.err = 0
      · rw [if_pos he, if_pos he]
        unfold leftS at hL
        rw [if_pos he] at hL
        have : s.xs = [] := List.eq_nil_of_length_eq_zero (by omega)
        rw [this]
      · rw [if_neg he, if_neg he]
    rw [hS]
    clear hS hblk hrd px hb ok
    go_enter Try.func46, Try.ntmps46
    go_wp2_with fail
    refine (cleft w0 w g s HI.out).mono ?_
    rintro e w1 ⟨rfl, d1⟩
    have D1 := Lib.hid d1
    clear d1
    go_wp2_with fail
    refine (cfail w0 w1 g s 120 (HI.out.drawn D1.out) (HB.out.trans (D1.out.below.mono HB.out.size))).mono ?_
    rintro e w2 ⟨rfl, i2, b2, k2⟩
    have I2 := Lib.hid i2
    have B2 := Lib.hid b2
    have K2 := Lib.hid (keep_trans (keep_drawn D1.out g) k2)
    clear i2 b2 k2
    go_wp2
    go_ret
    exact ⟨rfl, I2.out, B2.out, K2.out⟩
  · have he : s.err = 0 := leftS_pos (by omega)
    have hpl : p < f0.length := by
      unfold leftS at hL
      rw [if_pos he, px, List.length_drop] at hL
      omega
    have ha : Abs f0 p s := ⟨p0, p1, px⟩
    have hcons := abs_cons ha hpl
    have hS : byteS s = (f0.getD p.toNat 0, ⟨f0.drop (p.toNat + 1), 0⟩) := by
      unfold byteS
      rw [if_pos he, hcons]
    rw [hS]
    obtain ⟨ad, rfl, hcl⟩ := hrd.2.2 (by omega)
    have x0 := hcl 0 (by omega)
    obtain ⟨b, off, spot⟩ := ad
    obtain rfl : spot = none := by simpa [Addr.add] using World.cell?_spot x0
    have x1 := hcl p.toNat (by omega)
    have hbl : b < w0.heap.size := by
      have := World.block_lt_of_cell? _ _ x0
      simpa [Addr.add] using this
    rw [WideShapes.add_plain] at x1
    have HRD := Lib.hid hrd
    have OK := Lib.hid ok
    have HE := Lib.hid he
    obtain ⟨q, rfl⟩ := Int.eq_ofNat_of_zero_le p0
    rw [Int.toNat_natCast] at x1 ⊢
    obtain ⟨y, hy⟩ : ∃ y, y = f0.getD q 0 := ⟨_, rfl⟩
    rw [← hy] at x1 ⊢
    have BLK := Lib.hid hblk
    clear hS hcons hcl x0 hrd ok hb ha hblk he
    go_enter Try.func46, Try.ntmps46
    go_wp2_with fail
    refine (cleft w0 w g s HI.out).mono ?_
    rintro e w1 ⟨rfl, d1⟩
    have D1 := Lib.hid d1
    have BLK1 : Hid (w1.heap[g]? = some (.cells #[.slice (some ⟨b, off, none⟩) f0.length c, .int .i64 q, .int .i64 s.err] 123 (0, 0))) := Lib.hid (by rw [drawn_heap d1]; exact BLK.out)
    have HB1 := Lib.hid (HB.out.trans (d1.below.mono HB.out.size))
    clear d1
    have c0 : w1.cell? ⟨g, 0, none⟩ = some (.slice (some ⟨b, off, none⟩) f0.length c) := blk_cell BLK1.out 0
    have c1 : w1.cell? ⟨g, 1, none⟩ = some (.int .i64 q) := blk_cell BLK1.out 1
    have z1 := blk_frozen BLK1.out 1
    go_wp2
    obtain ⟨W, hW⟩ : ∃ W : World, W = w1.setCell ⟨g, 1, none⟩ (.int .i64 ((q : Int) + 1)) := ⟨_, rfl⟩
    have bW : W.heap[g]? = some (.cells #[.slice (some ⟨b, off, none⟩) f0.length c, .int .i64 ((q : Int) + 1), .int .i64 s.err] 123 (0, 0)) := by rw [hW]; exact blk_set BLK1.out 1 _
    have d0 : W.cell? ⟨g, 0, none⟩ = some (.slice (some ⟨b, off, none⟩) f0.length c) := blk_cell bW 0
    have d1 : W.cell? ⟨g, 1, none⟩ = some (.int .i64 ((q : Int) + 1)) := blk_cell bW 1
    have BB : Hid (Below w0.heap.size w0 W) := Lib.hid (by rw [hW]; exact HB1.out.setCell hg _)
    have KK : Hid (KeepBut w W g none) := Lib.hid (by rw [hW]; exact (keep_drawn D1.out g).set_ 1 _)
    have d2 : W.cell? ⟨b, off + q, none⟩ = some (.int .u8 y) := (BB.out.cell (p := ⟨b, off + q, none⟩) hbl).trans x1
    rw [← hW]
    have BW := Lib.hid bW
    have hs : IntKind.i64.wrap (q : Int) = q := by rw [IntKind.wrap_i64]; omega
    have hq0 : (0 : Int) ≤ q := by omega
    clear hW bW c0 c1 z1 x1
    go_quiet (fail)
    go_wp2
    go_ret
    refine ⟨by rw [hy, List.getD_eq_getElem?_getD]; rfl, ?_, pw_below_drewN BB.out _, KK.out⟩
    have hbw := BW.out
    rw [HE.out] at hbw
    exact ⟨f0, (q : Int) + 1, some ⟨b, off, none⟩, c, hbw, hg, hc, HRD.out, ⟨by omega, by omega, by simp only; congr 1⟩, OK.out, hm⟩
end Go.Proofs.Ytehdhmhpmkkneaa
