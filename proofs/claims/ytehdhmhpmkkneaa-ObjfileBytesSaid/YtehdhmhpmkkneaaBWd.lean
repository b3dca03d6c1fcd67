/- Wd. -/
import Derived.Deep.RegionHeld3
import Derived.Test.YtehdhmhpmkkneaaBWc
/- objfile.many of fixups and of segments, and the closures that read one, walked where the bytes are as they should be. -/
namespace Go.Proofs.Ytehdhmhpmkkneaa
open Go.RowKit Go.Proofs.YtehdhmhpmkkneaaW.PrintWords Go.Proofs.YtehdhmhpmkkneaaW.PrintMore Go.Proofs.YtehdhmhpmkkneaaW.PrintLast Go.Proofs.Ytehdhmhpmkkneaa.PAll
set_option maxHeartbeats 4000000 in
set_option maxRecDepth 100000 in
theorem cl98 (w0 w : World) (g Bc : Nat) (f : S134) (rest : List Int) (h : IsR w0 w g ⟨fixB f ++ rest, 0⟩) (hb : Below w0.heap.size w0 w) (hc : w.heap[Bc]? = some (.cells #[.pointer (some ⟨g, 0, none⟩)] 44 (0, 0))) (hne : Bc ≠ g) (hf : Fits134 f) :
    Calls Try.prog 98 #[.pointer (some ⟨Bc, 0, none⟩)] w (RPost w0 w g (.agg #[.int .i64 f.f0, .int .i64 f.f1, .int .i64 f.f2, .int .i64 f.f3]) ⟨rest, 0⟩) := by
  obtain ⟨f0, f1, f2, f3⟩ := f
  unfold Fits134 at hf
  simp only at hf ⊢
  have M0 : Hid (Mid w0 w w g ⟨(cnt f0.toNat ++ (cnt f1.toNat ++ (cnt f2.toNat ++ (cnt f3.toNat ++ rest)))), 0⟩) := Lib.hid ⟨by have := h; unfold fixB at this; simp only [List.append_assoc] at this; exact this, hb, KeepBut.refl _ _ _⟩
  have HG := Lib.hid M0.out.lt
  have HC := Lib.hid hc
  have NE := Lib.hid hne
  have S0 : countS 16384 ⟨(cnt f0.toNat ++ (cnt f1.toNat ++ (cnt f2.toNat ++ (cnt f3.toNat ++ rest)))), 0⟩ = (f0, ⟨(cnt f1.toNat ++ (cnt f2.toNat ++ (cnt f3.toNat ++ rest))), 0⟩) := by have := countS_cnt 16384 f0.toNat (cnt f1.toNat ++ (cnt f2.toNat ++ (cnt f3.toNat ++ rest))) (by omega) (by omega); rwa [show ((f0.toNat : Nat) : Int) = f0 by omega] at this
  have S1 : countS 4 ⟨(cnt f1.toNat ++ (cnt f2.toNat ++ (cnt f3.toNat ++ rest))), 0⟩ = (f1, ⟨(cnt f2.toNat ++ (cnt f3.toNat ++ rest)), 0⟩) := by have := countS_cnt 4 f1.toNat (cnt f2.toNat ++ (cnt f3.toNat ++ rest)) (by omega) (by omega); rwa [show ((f1.toNat : Nat) : Int) = f1 by omega] at this
  have S2 : countS 64 ⟨(cnt f2.toNat ++ (cnt f3.toNat ++ rest)), 0⟩ = (f2, ⟨(cnt f3.toNat ++ rest), 0⟩) := by have := countS_cnt 64 f2.toNat (cnt f3.toNat ++ rest) (by omega) (by omega); rwa [show ((f2.toNat : Nat) : Int) = f2 by omega] at this
  have S3 : countS 16384 ⟨(cnt f3.toNat ++ rest), 0⟩ = (f3, ⟨rest, 0⟩) := by have := countS_cnt 16384 f3.toNat rest (by omega) (by omega); rwa [show ((f3.toNat : Nat) : Int) = f3 by omega] at this
  generalize (cnt f0.toNat ++ (cnt f1.toNat ++ (cnt f2.toNat ++ (cnt f3.toNat ++ rest)))) = t0 at *
  generalize (cnt f1.toNat ++ (cnt f2.toNat ++ (cnt f3.toNat ++ rest))) = t1 at *
  generalize (cnt f2.toNat ++ (cnt f3.toNat ++ rest)) = t2 at *
  generalize (cnt f3.toNat ++ rest) = t3 at *
  skip
  have C0 : Hid (∀ W, Mid w0 w W g ⟨t0, 0⟩ → Calls Try.prog 40 #[.pointer (some ⟨g, 0, none⟩), .int .i64 16384] W fun e W' => e = .returned (.int .i64 f0) ∧ Mid w0 w W' g ⟨t1, 0⟩ ∧ KeepBut W W' g none) := Lib.hid (fun W hm => hm.call (fun hi hb => by have := ccount w0 W g _ 16384 (by omega) hi hb; rwa [S0] at this))
  have C1 : Hid (∀ W, Mid w0 w W g ⟨t1, 0⟩ → Calls Try.prog 40 #[.pointer (some ⟨g, 0, none⟩), .int .i64 4] W fun e W' => e = .returned (.int .i64 f1) ∧ Mid w0 w W' g ⟨t2, 0⟩ ∧ KeepBut W W' g none) := Lib.hid (fun W hm => hm.call (fun hi hb => by have := ccount w0 W g _ 4 (by omega) hi hb; rwa [S1] at this))
  have C2 : Hid (∀ W, Mid w0 w W g ⟨t2, 0⟩ → Calls Try.prog 40 #[.pointer (some ⟨g, 0, none⟩), .int .i64 64] W fun e W' => e = .returned (.int .i64 f2) ∧ Mid w0 w W' g ⟨t3, 0⟩ ∧ KeepBut W W' g none) := Lib.hid (fun W hm => hm.call (fun hi hb => by have := ccount w0 W g _ 64 (by omega) hi hb; rwa [S2] at this))
  have C3 : Hid (∀ W, Mid w0 w W g ⟨t3, 0⟩ → Calls Try.prog 40 #[.pointer (some ⟨g, 0, none⟩), .int .i64 16384] W fun e W' => e = .returned (.int .i64 f3) ∧ Mid w0 w W' g ⟨rest, 0⟩ ∧ KeepBut W W' g none) := Lib.hid (fun W hm => hm.call (fun hi hb => by have := ccount w0 W g _ 16384 (by omega) hi hb; rwa [S3] at this))
  clear h hb hc hne hf S0 S1 S2 S3
  obtain ⟨R, hR⟩ : ∃ R, R = w.heap.size := ⟨_, rfl⟩
  have RG : Hid (R ≠ g) := Lib.hid (by have := HG.out; omega)
  have BR : Hid (Bc ≠ R) := Lib.hid (by have := blk_lt HC.out; omega)
  have RB : Hid (w.heap.size ≤ R) := Lib.hid (by omega)
  have K0 : Hid ((w.alloc (.cells #[.int .i64 0, .int .i64 0, .int .i64 0, .int .i64 0] 134)).heap[R]? = some (.cells #[.int .i64 0, .int .i64 0, .int .i64 0, .int .i64 0] 134 (0, 0))) := Lib.hid (by rw [hR]; exact heap_alloc_new _ _)
  have M1 := Lib.hid (M0.out.alloc (.cells #[.int .i64 0, .int .i64 0, .int .i64 0, .int .i64 0] 134))
  have B0 : Hid ((w.alloc (.cells #[.int .i64 0, .int .i64 0, .int .i64 0, .int .i64 0] 134)).heap[Bc]? = some (.cells #[.pointer (some ⟨g, 0, none⟩)] 44 (0, 0))) := Lib.hid (((b1 w _).block _ (blk_lt HC.out)).trans HC.out)
  clear M0 HC
  go_enter Try.func98, Try.ntmps98
  go_upto_region 1 with fail
  rw [← hR]
  clear hR
  generalize w.alloc (.cells #[.int .i64 0, .int .i64 0, .int .i64 0, .int .i64 0] 134) = W at *
  have q0 : W.drew.cell? ⟨Bc, 0, none⟩ = some (.pointer (some ⟨g, 0, none⟩)) := (blk_cell B0.out 0).trans rfl
  have MD0 := Lib.hid M1.out.drew
  have KD0 : Hid (W.drew.heap[R]? = _) := Lib.hid K0.out
  have BD0 : Hid (W.drew.heap[Bc]? = _) := Lib.hid B0.out
  clear M1 K0 B0
  have hbr := BR.out
  have hrb := Ne.symm hbr
  go_region_held3 (fun w' => w'.cell? ⟨Bc, 0, none⟩ = some (.pointer (some ⟨g, 0, none⟩))) (first | exact q0 | exact q1 | exact q2 | exact q3 | exact q4 | go_keep) (first | (go_at_call 40; refine (C3.out _ MD3.out).mono ?_; rintro e wd4 ⟨rfl, md, kd⟩; have MD4 := Lib.hid md; have KD4 := Lib.hid (kd.blk KD3.out RG.out (by simp)); have BD4 := Lib.hid (kd.blk BD3.out NE.out (by simp)); clear md kd; have q4 : wd4.cell? ⟨Bc, 0, none⟩ = some (.pointer (some ⟨g, 0, none⟩)) := (blk_cell BD4.out 0).trans rfl; have r0 := blk_cell KD4.out 0; have z0 := blk_frozen KD4.out 0; have r1 := blk_cell KD4.out 1; have z1 := blk_frozen KD4.out 1; have r2 := blk_cell KD4.out 2; have z2 := blk_frozen KD4.out 2; have r3 := blk_cell KD4.out 3; have z3 := blk_frozen KD4.out 3; simp only [List.getElem?_toArray, List.getElem?_cons_zero, List.getElem?_cons_succ] at r0 r1 r2 r3) | (go_at_call 40; refine (C2.out _ MD2.out).mono ?_; rintro e wd3 ⟨rfl, md, kd⟩; have MD3 := Lib.hid md; have KD3 := Lib.hid (kd.blk KD2.out RG.out (by simp)); have BD3 := Lib.hid (kd.blk BD2.out NE.out (by simp)); clear md kd; have q3 : wd3.cell? ⟨Bc, 0, none⟩ = some (.pointer (some ⟨g, 0, none⟩)) := (blk_cell BD3.out 0).trans rfl) | (go_at_call 40; refine (C1.out _ MD1.out).mono ?_; rintro e wd2 ⟨rfl, md, kd⟩; have MD2 := Lib.hid md; have KD2 := Lib.hid (kd.blk KD1.out RG.out (by simp)); have BD2 := Lib.hid (kd.blk BD1.out NE.out (by simp)); clear md kd; have q2 : wd2.cell? ⟨Bc, 0, none⟩ = some (.pointer (some ⟨g, 0, none⟩)) := (blk_cell BD2.out 0).trans rfl) | (go_at_call 40; refine (C0.out _ MD0.out).mono ?_; rintro e wd1 ⟨rfl, md, kd⟩; have MD1 := Lib.hid md; have KD1 := Lib.hid (kd.blk KD0.out RG.out (by simp)); have BD1 := Lib.hid (kd.blk BD0.out NE.out (by simp)); clear md kd; have q1 : wd1.cell? ⟨Bc, 0, none⟩ = some (.pointer (some ⟨g, 0, none⟩)) := (blk_cell BD1.out 0).trans rfl))
  go_wp2
  have P0 := blk_put KD4.out 0 (.int .i64 f0) (cs' := #[.int .i64 f0, .int .i64 0, .int .i64 0, .int .i64 0]) rfl
  have P1 := blk_put P0 1 (.int .i64 f1) (cs' := #[.int .i64 f0, .int .i64 f1, .int .i64 0, .int .i64 0]) rfl
  have P2 := blk_put P1 2 (.int .i64 f2) (cs' := #[.int .i64 f0, .int .i64 f1, .int .i64 f2, .int .i64 0]) rfl
  have P3 := blk_put P2 3 (.int .i64 f3) (cs' := #[.int .i64 f0, .int .i64 f1, .int .i64 f2, .int .i64 f3]) rfl
  refine bodyPost_ret (results_cell_row rfl _ _ R 134 #[.int .i64 f0, .int .i64 f1, .int .i64 f2, .int .i64 f3] (0, 0) _ rfl P3 Try.underlying134 rfl (by kernel_rfl)) rfl ?_
  have MF := (Mid.set (Mid.set (Mid.set (Mid.set MD4.out RB.out HG.out (j := 0) (.int .i64 f0)) RB.out HG.out (j := 1) (.int .i64 f1)) RB.out HG.out (j := 2) (.int .i64 f2)) RB.out HG.out (j := 3) (.int .i64 f3))
  exact ⟨rfl, MF.rd, MF.low, MF.keep⟩
set_option maxHeartbeats 4000000 in
set_option maxRecDepth 100000 in
theorem cl100 (w0 w : World) (g Bc : Nat) (f : S131) (rest : List Int) (h : IsR w0 w g ⟨segB f ++ rest, 0⟩) (hb : Below w0.heap.size w0 w) (hc : w.heap[Bc]? = some (.cells #[.pointer (some ⟨g, 0, none⟩)] 44 (0, 0))) (hne : Bc ≠ g) (hf : Fits131 f) :
    Calls Try.prog 100 #[.pointer (some ⟨Bc, 0, none⟩)] w (RPost w0 w g (.agg #[.int .i64 f.f0, .int .i64 f.f1]) ⟨rest, 0⟩) := by
  obtain ⟨f0, f1⟩ := f
  unfold Fits131 at hf
  simp only at hf ⊢
  have M0 : Hid (Mid w0 w w g ⟨(cnt f0.toNat ++ (cnt (f1 + 1).toNat ++ rest)), 0⟩) := Lib.hid ⟨by have := h; unfold segB at this; simp only [List.append_assoc] at this; exact this, hb, KeepBut.refl _ _ _⟩
  have HG := Lib.hid M0.out.lt
  have HC := Lib.hid hc
  have NE := Lib.hid hne
  have S0 : countS 16384 ⟨(cnt f0.toNat ++ (cnt (f1 + 1).toNat ++ rest)), 0⟩ = (f0, ⟨(cnt (f1 + 1).toNat ++ rest), 0⟩) := by have := countS_cnt 16384 f0.toNat (cnt (f1 + 1).toNat ++ rest) (by omega) (by omega); rwa [show ((f0.toNat : Nat) : Int) = f0 by omega] at this
  have S1 : countS 16384 ⟨(cnt (f1 + 1).toNat ++ rest), 0⟩ = ((f1 + 1), ⟨rest, 0⟩) := by have := countS_cnt 16384 (f1 + 1).toNat rest (by omega) (by omega); rwa [show (((f1 + 1).toNat : Nat) : Int) = (f1 + 1) by omega] at this
  have hw_ : IntKind.i64.wrap f1 = f1 := by rw [i64_w]; unfold wrap64; omega
  generalize (cnt f0.toNat ++ (cnt (f1 + 1).toNat ++ rest)) = t0 at *
  generalize (cnt (f1 + 1).toNat ++ rest) = t1 at *
  skip
  have C0 : Hid (∀ W, Mid w0 w W g ⟨t0, 0⟩ → Calls Try.prog 40 #[.pointer (some ⟨g, 0, none⟩), .int .i64 16384] W fun e W' => e = .returned (.int .i64 f0) ∧ Mid w0 w W' g ⟨t1, 0⟩ ∧ KeepBut W W' g none) := Lib.hid (fun W hm => hm.call (fun hi hb => by have := ccount w0 W g _ 16384 (by omega) hi hb; rwa [S0] at this))
  have C1 : Hid (∀ W, Mid w0 w W g ⟨t1, 0⟩ → Calls Try.prog 40 #[.pointer (some ⟨g, 0, none⟩), .int .i64 16384] W fun e W' => e = .returned (.int .i64 (f1 + 1)) ∧ Mid w0 w W' g ⟨rest, 0⟩ ∧ KeepBut W W' g none) := Lib.hid (fun W hm => hm.call (fun hi hb => by have := ccount w0 W g _ 16384 (by omega) hi hb; rwa [S1] at this))
  clear h hb hc hne hf S0 S1
  obtain ⟨R, hR⟩ : ∃ R, R = w.heap.size := ⟨_, rfl⟩
  have RG : Hid (R ≠ g) := Lib.hid (by have := HG.out; omega)
  have BR : Hid (Bc ≠ R) := Lib.hid (by have := blk_lt HC.out; omega)
  have RB : Hid (w.heap.size ≤ R) := Lib.hid (by omega)
  have K0 : Hid ((w.alloc (.cells #[.int .i64 0, .int .i64 0] 131)).heap[R]? = some (.cells #[.int .i64 0, .int .i64 0] 131 (0, 0))) := Lib.hid (by rw [hR]; exact heap_alloc_new _ _)
  have M1 := Lib.hid (M0.out.alloc (.cells #[.int .i64 0, .int .i64 0] 131))
  have B0 : Hid ((w.alloc (.cells #[.int .i64 0, .int .i64 0] 131)).heap[Bc]? = some (.cells #[.pointer (some ⟨g, 0, none⟩)] 44 (0, 0))) := Lib.hid (((b1 w _).block _ (blk_lt HC.out)).trans HC.out)
  clear M0 HC
  go_enter Try.func100, Try.ntmps100
  go_upto_region 1 with fail
  rw [← hR]
  clear hR
  generalize w.alloc (.cells #[.int .i64 0, .int .i64 0] 131) = W at *
  have q0 : W.drew.cell? ⟨Bc, 0, none⟩ = some (.pointer (some ⟨g, 0, none⟩)) := (blk_cell B0.out 0).trans rfl
  have MD0 := Lib.hid M1.out.drew
  have KD0 : Hid (W.drew.heap[R]? = _) := Lib.hid K0.out
  have BD0 : Hid (W.drew.heap[Bc]? = _) := Lib.hid B0.out
  clear M1 K0 B0
  have hbr := BR.out
  have hrb := Ne.symm hbr
  go_region_held3 (fun w' => w'.cell? ⟨Bc, 0, none⟩ = some (.pointer (some ⟨g, 0, none⟩))) (first | exact q0 | exact q1 | exact q2 | go_keep) (first | (go_at_call 40; refine (C1.out _ MD1.out).mono ?_; rintro e wd2 ⟨rfl, md, kd⟩; have MD2 := Lib.hid md; have KD2 := Lib.hid (kd.blk KD1.out RG.out (by simp)); have BD2 := Lib.hid (kd.blk BD1.out NE.out (by simp)); clear md kd; have q2 : wd2.cell? ⟨Bc, 0, none⟩ = some (.pointer (some ⟨g, 0, none⟩)) := (blk_cell BD2.out 0).trans rfl; have r0 := blk_cell KD2.out 0; have z0 := blk_frozen KD2.out 0; have r1 := blk_cell KD2.out 1; have z1 := blk_frozen KD2.out 1; simp only [List.getElem?_toArray, List.getElem?_cons_zero, List.getElem?_cons_succ] at r0 r1) | (go_at_call 40; refine (C0.out _ MD0.out).mono ?_; rintro e wd1 ⟨rfl, md, kd⟩; have MD1 := Lib.hid md; have KD1 := Lib.hid (kd.blk KD0.out RG.out (by simp)); have BD1 := Lib.hid (kd.blk BD0.out NE.out (by simp)); clear md kd; have q1 : wd1.cell? ⟨Bc, 0, none⟩ = some (.pointer (some ⟨g, 0, none⟩)) := (blk_cell BD1.out 0).trans rfl))
  go_wp2
  have P0 := blk_put KD2.out 0 (.int .i64 f0) (cs' := #[.int .i64 f0, .int .i64 0]) rfl
  have P1 := blk_put P0 1 (.int .i64 f1) (cs' := #[.int .i64 f0, .int .i64 f1]) rfl
  refine bodyPost_ret (results_cell_row rfl _ _ R 131 #[.int .i64 f0, .int .i64 f1] (0, 0) _ rfl P1 Try.underlying131 rfl (by kernel_rfl)) rfl ?_
  have MF := (Mid.set (Mid.set MD2.out RB.out HG.out (j := 0) (.int .i64 f0)) RB.out HG.out (j := 1) (.int .i64 f1))
  exact ⟨rfl, MF.rd, MF.low, MF.keep⟩
end Go.Proofs.Ytehdhmhpmkkneaa
