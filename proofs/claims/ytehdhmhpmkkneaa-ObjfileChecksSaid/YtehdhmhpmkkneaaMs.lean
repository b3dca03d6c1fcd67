/- ObjfileChecks: the law's walk. -/
import Derived.Deep.RegionLaw
import Derived.Test.YtehdhmhpmkkneaaMr
namespace Go.Proofs.Ytehdhmhpmkkneaa
open Go.RowKit Go.Proofs.YtehdhmhpmkkneaaW.PrintWords Go.Proofs.YtehdhmhpmkkneaaW.PrintLast Go.Proofs.YtehdhmhpmkkneaaW.PrintMore Go.Proofs.Ytehdhmhpmkkneaa.PAll

set_option maxHeartbeats 2000000 in
set_option maxRecDepth 100000 in
theorem objfileChecks_any (b : ByteArray) (z d e y : Int) (A2 A3 A4 A5 : Option Addr) (c2 c3 c4 c5 : Nat) (l2 : List S93) (l3 : List Int) (l4 : List S134) (l5 : List S131) (w : World)
    (h : ObjAt A2 A3 A4 A5 c2 c3 c4 c5 l2 l3 l4 l5 w) (hb : b.size ≤ 9223372036854775807) (hs : ∀ x ∈ l2, x.f0.size ≤ 9223372036854775807) (hl : l2.length ≤ 9223372036854775807) :
    Calls Try.prog 7 #[objV b z d e y A2 A3 A4 A5 c2 c3 c4 c5 l2 l3 l4 l5] w fun en w' => en = .returned (.bool true) ∧ Below w.heap.size w w' := by
  have HO := Lib.hid h
  have H1 := Lib.hid hb
  have H2 := Lib.hid hs
  have H3 := Lib.hid hl
  clear h hb hs hl
  obtain ⟨W, hW⟩ : ∃ W, W = w.alloc (.cells #[.string b, .int .u32 z, .slice A2 l2.length c2, .slice A3 l3.length c3, .slice A4 l4.length c4, .slice A5 l5.length c5, .int .i64 d, .int .i64 e, .int .i64 y] 60) := ⟨_, rfl⟩
  obtain ⟨Q, hQ⟩ : ∃ Q, Q = w.heap.size := ⟨_, rfl⟩
  have bx := heap_alloc_new w (.cells #[.string b, .int .u32 z, .slice A2 l2.length c2, .slice A3 l3.length c3, .slice A4 l4.length c4, .slice A5 l5.length c5, .int .i64 d, .int .i64 e, .int .i64 y] 60)
  rw [← hW, ← hQ] at bx
  have x0 := blk_cell bx 0
  have x1 := blk_cell bx 1
  have x2 := blk_cell bx 2
  have x3 := blk_cell bx 3
  have x4 := blk_cell bx 4
  have x5 := blk_cell bx 5
  have x6 := blk_cell bx 6
  have x7 := blk_cell bx 7
  have x8 := blk_cell bx 8
  simp only [List.getElem?_toArray, List.getElem?_cons_zero, List.getElem?_cons_succ] at x0 x1 x2 x3 x4 x5 x6 x7 x8
  have bW : Below w.heap.size w W := by rw [hW]; exact (Below.refl _ _).alloc (Nat.le_refl _) _
  have HOW := Lib.hid (HO.out.below bW)
  have BW := Lib.hid bW
  have HQ := Lib.hid (blk_lt bx)
  have HW := Lib.hid hW
  have HQQ := Lib.hid hQ
  clear bx bW hW hQ
  go_enter Try.func7, Try.ntmps7
  go_wp2_with fail
  rw [← HW.out]
  refine (pascalinelaw15_awake.calls 40 true _ awake15).mono ?_
  rintro en w1 ⟨rfl, b1⟩
  have B1 := Lib.hid b1
  have O1 := Lib.hid (HOW.out.below b1)
  have L1 := Lib.hid (BW.out.trans (b1.mono BW.out.size))
  have y0 := (B1.out.cell (p := ⟨Q, 0, none⟩) HQ.out).trans x0
  have y1 := (B1.out.cell (p := ⟨Q, 1, none⟩) HQ.out).trans x1
  have y2 := (B1.out.cell (p := ⟨Q, 2, none⟩) HQ.out).trans x2
  have y3 := (B1.out.cell (p := ⟨Q, 3, none⟩) HQ.out).trans x3
  have y4 := (B1.out.cell (p := ⟨Q, 4, none⟩) HQ.out).trans x4
  have y5 := (B1.out.cell (p := ⟨Q, 5, none⟩) HQ.out).trans x5
  have y6 := (B1.out.cell (p := ⟨Q, 6, none⟩) HQ.out).trans x6
  have y7 := (B1.out.cell (p := ⟨Q, 7, none⟩) HQ.out).trans x7
  have y8 := (B1.out.cell (p := ⟨Q, 8, none⟩) HQ.out).trans x8
  have Q1 := Lib.hid (Nat.lt_of_lt_of_le HQ.out b1.size)
  clear b1 B1 HOW BW HQ x0 x1 x2 x3 x4 x5 x6 x7 x8
  have bd : Below w1.heap.size w1 w1.drew := (Below.refl _ _).drew
  have O1 := Lib.hid (O1.out.below bd)
  have L1 := Lib.hid (L1.out.trans (bd.mono L1.out.size))
  clear bd
  obtain ⟨sm, S0⟩ := obj_small b z d e y w1.drew O1.out
  have S := Lib.hid S0
  clear S0
  have zz : (objS b l2 l3 l4 l5 d e y == objS b l2 l3 l4 l5 d e y) = true := beq_self_eq_true _
  cases sm
  · go_wp2
    rw [← HQQ.out]
    go_region_law (first | (go_simp; go_at_call 35; refine S.out.mono ?_; rintro e wa ⟨rfl, ba⟩; have La := Lib.hid (L1.out.trans (ba.mono L1.out.size)); clear ba))
    all_goals go_wp2
    all_goals go_ret
    all_goals exact ⟨rfl, La.out⟩
  · go_wp2
    rw [← HQQ.out]
    go_region_held3 (fun w' => w'.cell? ⟨Q, 0, none⟩ = some (.string b) ∧ w'.cell? ⟨Q, 1, none⟩ = some (.int .u32 z) ∧ w'.cell? ⟨Q, 2, none⟩ = some (.slice A2 l2.length c2) ∧ w'.cell? ⟨Q, 3, none⟩ = some (.slice A3 l3.length c3) ∧ w'.cell? ⟨Q, 4, none⟩ = some (.slice A4 l4.length c4) ∧ w'.cell? ⟨Q, 5, none⟩ = some (.slice A5 l5.length c5) ∧ w'.cell? ⟨Q, 6, none⟩ = some (.int .i64 d) ∧ w'.cell? ⟨Q, 7, none⟩ = some (.int .i64 e) ∧ w'.cell? ⟨Q, 8, none⟩ = some (.int .i64 y)) (first | exact ⟨y0, y1, y2, y3, y4, y5, y6, y7, y8⟩ | exact ⟨ya0, ya1, ya2, ya3, ya4, ya5, ya6, ya7, ya8⟩ | exact ⟨yb0, yb1, yb2, yb3, yb4, yb5, yb6, yb7, yb8⟩ | exact ⟨yc0, yc1, yc2, yc3, yc4, yc5, yc6, yc7, yc8⟩ | exact ⟨yd0, yd1, yd2, yd3, yd4, yd5, yd6, yd7, yd8⟩ | go_keep) (first
      | (go_at_call 35; refine S.out.mono ?_; rintro e wa ⟨rfl, ba⟩; have La := Lib.hid (L1.out.trans (ba.mono L1.out.size)); have Oa := Lib.hid (O1.out.below ba); have Qa := Lib.hid (Nat.lt_of_lt_of_le Q1.out ba.size); have ya0 := (ba.cell (p := ⟨Q, 0, none⟩) Q1.out).trans y0; have ya1 := (ba.cell (p := ⟨Q, 1, none⟩) Q1.out).trans y1; have ya2 := (ba.cell (p := ⟨Q, 2, none⟩) Q1.out).trans y2; have ya3 := (ba.cell (p := ⟨Q, 3, none⟩) Q1.out).trans y3; have ya4 := (ba.cell (p := ⟨Q, 4, none⟩) Q1.out).trans y4; have ya5 := (ba.cell (p := ⟨Q, 5, none⟩) Q1.out).trans y5; have ya6 := (ba.cell (p := ⟨Q, 6, none⟩) Q1.out).trans y6; have ya7 := (ba.cell (p := ⟨Q, 7, none⟩) Q1.out).trans y7; have ya8 := (ba.cell (p := ⟨Q, 8, none⟩) Q1.out).trans y8; clear ba)
      | (go_at_call 36; refine (obj_check b z d e y _ Oa.out H1.out H2.out).mono ?_; rintro e wb ⟨rfl, bb⟩; have Lb := Lib.hid (La.out.trans (bb.mono La.out.size)); have Ob := Lib.hid (Oa.out.below bb); have Qb := Lib.hid (Nat.lt_of_lt_of_le Qa.out bb.size); have yb0 := (bb.cell (p := ⟨Q, 0, none⟩) Qa.out).trans ya0; have yb1 := (bb.cell (p := ⟨Q, 1, none⟩) Qa.out).trans ya1; have yb2 := (bb.cell (p := ⟨Q, 2, none⟩) Qa.out).trans ya2; have yb3 := (bb.cell (p := ⟨Q, 3, none⟩) Qa.out).trans ya3; have yb4 := (bb.cell (p := ⟨Q, 4, none⟩) Qa.out).trans ya4; have yb5 := (bb.cell (p := ⟨Q, 5, none⟩) Qa.out).trans ya5; have yb6 := (bb.cell (p := ⟨Q, 6, none⟩) Qa.out).trans ya6; have yb7 := (bb.cell (p := ⟨Q, 7, none⟩) Qa.out).trans ya7; have yb8 := (bb.cell (p := ⟨Q, 8, none⟩) Qa.out).trans ya8; clear bb)
      | (go_at_call 38; refine (ref38 b z A2 A3 A4 A5 _ _ _ _ c2 c3 c4 c5 d e y _).mono ?_; rintro e wc ⟨rfl, bc⟩; have Lc := Lib.hid (Lb.out.trans (bc.mono Lb.out.size)); have Oc := Lib.hid (Ob.out.below bc); have Qc := Lib.hid (Nat.lt_of_lt_of_le Qb.out bc.size); have yc0 := (bc.cell (p := ⟨Q, 0, none⟩) Qb.out).trans yb0; have yc1 := (bc.cell (p := ⟨Q, 1, none⟩) Qb.out).trans yb1; have yc2 := (bc.cell (p := ⟨Q, 2, none⟩) Qb.out).trans yb2; have yc3 := (bc.cell (p := ⟨Q, 3, none⟩) Qb.out).trans yb3; have yc4 := (bc.cell (p := ⟨Q, 4, none⟩) Qb.out).trans yb4; have yc5 := (bc.cell (p := ⟨Q, 5, none⟩) Qb.out).trans yb5; have yc6 := (bc.cell (p := ⟨Q, 6, none⟩) Qb.out).trans yb6; have yc7 := (bc.cell (p := ⟨Q, 7, none⟩) Qb.out).trans yb7; have yc8 := (bc.cell (p := ⟨Q, 8, none⟩) Qb.out).trans yb8; clear bc)
      | (go_at_call 37; refine (obj_rcheck b z d e y _ Oc.out H1.out H2.out H3.out).mono ?_; rintro e wd ⟨rfl, bd⟩; have Ld := Lib.hid (Lc.out.trans (bd.mono Lc.out.size)); have yd0 := (bd.cell (p := ⟨Q, 0, none⟩) Qc.out).trans yc0; have yd1 := (bd.cell (p := ⟨Q, 1, none⟩) Qc.out).trans yc1; have yd2 := (bd.cell (p := ⟨Q, 2, none⟩) Qc.out).trans yc2; have yd3 := (bd.cell (p := ⟨Q, 3, none⟩) Qc.out).trans yc3; have yd4 := (bd.cell (p := ⟨Q, 4, none⟩) Qc.out).trans yc4; have yd5 := (bd.cell (p := ⟨Q, 5, none⟩) Qc.out).trans yc5; have yd6 := (bd.cell (p := ⟨Q, 6, none⟩) Qc.out).trans yc6; have yd7 := (bd.cell (p := ⟨Q, 7, none⟩) Qc.out).trans yc7; have yd8 := (bd.cell (p := ⟨Q, 8, none⟩) Qc.out).trans yc8; clear bd))
    go_wp2
    go_ret
    exact ⟨rfl, Ld.out⟩
end Go.Proofs.Ytehdhmhpmkkneaa
