/- Wf. -/
import Derived.Deep.RegionHeld3
import Derived.Test.YtehdhmhpmkkneaaBWe
/- objfile.Decode, walked where the bytes are an object's that may be. -/
namespace Go.Proofs.Ytehdhmhpmkkneaa
open Go.RowKit Go.Proofs.YtehdhmhpmkkneaaW.PrintWords Go.Proofs.YtehdhmhpmkkneaaW.PrintMore Go.Proofs.Ytehdhmhpmkkneaa.PAll
set_option maxHeartbeats 8000000 in
set_option maxRecDepth 100000 in
theorem odecode (m : ByteArray) (z d e y : Int) (l2 : List S93) (l3 : List Int) (l4 : List S134) (l5 : List S131) (A : Option Addr) (n c : Nat) (w : World) (hr : ReadsInt w .u8 A n (objB m z l2 l3 l4 l5 d e y)) (hb : AllB (objB m z l2 l3 l4 l5 d e y))
    (hf : objS m l2 l3 l4 l5 d e y = 0) :
    Calls Try.prog 68 #[.slice A n c] w fun en w' => ∃ B2 B3 B4 B5 d2 d3 d4 d5, en = .returned (.tuple #[objV m z d e y B2 B3 B4 B5 d2 d3 d4 d5 l2 l3 l4 l5, .int .i64 0]) ∧ ObjAt B2 B3 B4 B5 d2 d3 d4 d5 l2 l3 l4 l5 w' ∧ Below w.heap.size w w' := by
  have F := obj_fits m l2 l3 l4 l5 d e y hf
  have HT := Lib.hid (objB_le m z l2 l3 l4 l5 d e y F)
  have S1 : wordS ⟨objB m z l2 l3 l4 l5 d e y, 0⟩ = (1347371521, ⟨(cnt m.size ++ bytesOf m) ++ (wrd z ++ (impsB l2 ++ (codesB l3 ++ (fixesB l4 ++ (segsB l5 ++ endB d e y))))), 0⟩) := by unfold objB; exact wordS_wrd _ _
  have S2 : textS 32 ⟨(cnt m.size ++ bytesOf m) ++ (wrd z ++ (impsB l2 ++ (codesB l3 ++ (fixesB l4 ++ (segsB l5 ++ endB d e y))))), 0⟩ = (m, ⟨wrd z ++ (impsB l2 ++ (codesB l3 ++ (fixesB l4 ++ (segsB l5 ++ endB d e y)))), 0⟩) := textS_put' 32 m _ (by have := F.b; omega) (by have := F.b; omega)
  have S3 : wordS ⟨wrd z ++ (impsB l2 ++ (codesB l3 ++ (fixesB l4 ++ (segsB l5 ++ endB d e y)))), 0⟩ = (z, ⟨impsB l2 ++ (codesB l3 ++ (fixesB l4 ++ (segsB l5 ++ endB d e y))), 0⟩) := wordS_wrd _ _
  have S4 : readI ⟨impsB l2 ++ (codesB l3 ++ (fixesB l4 ++ (segsB l5 ++ endB d e y))), 0⟩ = (l2, ⟨codesB l3 ++ (fixesB l4 ++ (segsB l5 ++ endB d e y)), 0⟩) := readI_put l2 _ F.n2 F.s2
  have S8 : countS 16384 ⟨endB d e y, 0⟩ = (d, ⟨cnt e.toNat ++ cnt y.toNat, 0⟩) := by have h := F.d; have := countS_cnt 16384 d.toNat (cnt e.toNat ++ cnt y.toNat) (by omega) (by omega); rwa [show ((d.toNat : Nat) : Int) = d by omega] at this
  have S9 : countS 4096 ⟨cnt e.toNat ++ cnt y.toNat, 0⟩ = (e, ⟨cnt y.toNat, 0⟩) := by have h := F.e; have := countS_cnt 4096 e.toNat (cnt y.toNat) (by omega) (by omega); rwa [show ((e.toNat : Nat) : Int) = e by omega] at this
  have S10 : countS 16384 ⟨cnt y.toNat, 0⟩ = (y, ⟨[], 0⟩) := by have h := F.y; have := countS_cnt 16384 y.toNat [] (by omega) (by omega); rwa [show ((y.toNat : Nat) : Int) = y by omega, List.append_nil] at this
  have S11 : endS ⟨[], 0⟩ = ⟨[], 0⟩ := rfl
  have hb32 := F.b
  have hs2 := F.s2
  have CK : Hid (∀ B2 B3 B4 B5 d2 d3 d4 d5 ww, ObjAt B2 B3 B4 B5 d2 d3 d4 d5 l2 l3 l4 l5 ww → Calls Try.prog 36 #[objV m z d e y B2 B3 B4 B5 d2 d3 d4 d5 l2 l3 l4 l5] ww fun en w' => en = .returned (.int .i64 0) ∧ Below ww.heap.size ww w') := Lib.hid (fun B2 B3 B4 B5 d2 d3 d4 d5 ww ho => by have h := obj_check m z d e y ww ho (by omega) (fun x hx => by have := hs2 x hx; omega); rwa [hf] at h)
  have C5 : Hid (∀ (w0 W : World) (g : Nat), IsR w0 W g ⟨codesB l3 ++ (fixesB l4 ++ (segsB l5 ++ endB d e y)), 0⟩ → Below w0.heap.size w0 W → Calls Try.prog 96 #[.pointer (some ⟨g, 0, none⟩), .func (.func 47) #[.pointer (some ⟨g, 0, none⟩)] #[]] W (ManyPost (Kd.int .u32) 39 w0 W g l3 ⟨fixesB l4 ++ (segsB l5 ++ endB d e y), 0⟩)) := Lib.hid (fun w0 W g hi hB => manyU w0 W g l3 _ hi hB F.n3)
  have C6 : Hid (∀ (w0 W : World) (g Bc : Nat), IsR w0 W g ⟨fixesB l4 ++ (segsB l5 ++ endB d e y), 0⟩ → Below w0.heap.size w0 W → W.heap[Bc]? = some (.cells #[.pointer (some ⟨g, 0, none⟩)] 44 (0, 0)) → Bc ≠ g → Calls Try.prog 97 #[.pointer (some ⟨g, 0, none⟩), .func (.func 98) #[] #[.pointer (some ⟨Bc, 0, none⟩)]] W (ManyPost k134 134 w0 W g l4 ⟨segsB l5 ++ endB d e y, 0⟩)) := Lib.hid (fun w0 W g Bc hi hB hk hn => many134 w0 W g Bc l4 _ hi hB F.n4 hk hn F.s4)
  have C7 : Hid (∀ (w0 W : World) (g Bc : Nat), IsR w0 W g ⟨segsB l5 ++ endB d e y, 0⟩ → Below w0.heap.size w0 W → W.heap[Bc]? = some (.cells #[.pointer (some ⟨g, 0, none⟩)] 44 (0, 0)) → Bc ≠ g → Calls Try.prog 99 #[.pointer (some ⟨g, 0, none⟩), .func (.func 100) #[] #[.pointer (some ⟨Bc, 0, none⟩)]] W (ManyPost k131 131 w0 W g l5 ⟨endB d e y, 0⟩)) := Lib.hid (fun w0 W g Bc hi hB hk hn => many131 w0 W g Bc l5 _ hi hB F.n5 hk hn F.s5)
  generalize objB m z l2 l3 l4 l5 d e y = t0 at *
  generalize (cnt m.size ++ bytesOf m) ++ (wrd z ++ (impsB l2 ++ (codesB l3 ++ (fixesB l4 ++ (segsB l5 ++ endB d e y))))) = t1 at *
  generalize wrd z ++ (impsB l2 ++ (codesB l3 ++ (fixesB l4 ++ (segsB l5 ++ endB d e y)))) = t2 at *
  generalize impsB l2 ++ (codesB l3 ++ (fixesB l4 ++ (segsB l5 ++ endB d e y))) = t3 at *
  generalize codesB l3 ++ (fixesB l4 ++ (segsB l5 ++ endB d e y)) = t4 at *
  generalize fixesB l4 ++ (segsB l5 ++ endB d e y) = t5 at *
  generalize segsB l5 ++ endB d e y = t6 at *
  generalize endB d e y = t7 at *
  generalize cnt e.toNat ++ cnt y.toNat = t8 at *
  generalize cnt y.toNat = t9 at *
  have C1 : Hid (∀ (w0 W : World) (g : Nat), IsR w0 W g ⟨t0, 0⟩ → Below w0.heap.size w0 W → Calls Try.prog 47 #[.pointer (some ⟨g, 0, none⟩)] W (RPost w0 W g (.int .u32 1347371521) ⟨t1, 0⟩)) := Lib.hid (fun w0 W g hi hB => by have := cword0 w0 W g _ hi hB; rwa [S1] at this)
  have CE : Hid (∀ (w0 W : World) (g : Nat), IsR w0 W g ⟨t1, 0⟩ → Below w0.heap.size w0 W → Calls Try.prog 31 #[.pointer (some ⟨g, 0, none⟩)] W (RPost w0 W g (.int .i64 0) ⟨t1, 0⟩)) := Lib.hid (fun w0 W g hi hB => cerr w0 W g _ hi hB)
  have C2 : Hid (∀ (w0 W : World) (g : Nat), IsR w0 W g ⟨t1, 0⟩ → Below w0.heap.size w0 W → Calls Try.prog 44 #[.pointer (some ⟨g, 0, none⟩), .int .i64 32] W (RPost w0 W g (.string m) ⟨t2, 0⟩)) := Lib.hid (fun w0 W g hi hB => by have := ctext w0 W g _ 32 (by omega) hi hB; rwa [S2] at this)
  have C3 : Hid (∀ (w0 W : World) (g : Nat), IsR w0 W g ⟨t2, 0⟩ → Below w0.heap.size w0 W → Calls Try.prog 47 #[.pointer (some ⟨g, 0, none⟩)] W (RPost w0 W g (.int .u32 z) ⟨t3, 0⟩)) := Lib.hid (fun w0 W g hi hB => by have := cword0 w0 W g _ hi hB; rwa [S3] at this)
  have C4 : Hid (∀ (w0 W : World) (g : Nat), IsR w0 W g ⟨t3, 0⟩ → Below w0.heap.size w0 W → Calls Try.prog 64 #[.pointer (some ⟨g, 0, none⟩)] W (ReadPostI w0 W g l2 ⟨t4, 0⟩)) := Lib.hid (fun w0 W g hi hB => by have := sread w0 W g _ hi hB; rwa [S4] at this)
  have C8 : Hid (∀ (w0 W : World) (g : Nat), IsR w0 W g ⟨t7, 0⟩ → Below w0.heap.size w0 W → Calls Try.prog 40 #[.pointer (some ⟨g, 0, none⟩), .int .i64 16384] W (RPost w0 W g (.int .i64 d) ⟨t8, 0⟩)) := Lib.hid (fun w0 W g hi hB => by have := ccount w0 W g _ 16384 (by omega) hi hB; rwa [S8] at this)
  have C9 : Hid (∀ (w0 W : World) (g : Nat), IsR w0 W g ⟨t8, 0⟩ → Below w0.heap.size w0 W → Calls Try.prog 40 #[.pointer (some ⟨g, 0, none⟩), .int .i64 4096] W (RPost w0 W g (.int .i64 e) ⟨t9, 0⟩)) := Lib.hid (fun w0 W g hi hB => by have := ccount w0 W g _ 4096 (by omega) hi hB; rwa [S9] at this)
  have C10 : Hid (∀ (w0 W : World) (g : Nat), IsR w0 W g ⟨t9, 0⟩ → Below w0.heap.size w0 W → Calls Try.prog 40 #[.pointer (some ⟨g, 0, none⟩), .int .i64 16384] W (RPost w0 W g (.int .i64 y) ⟨[], 0⟩)) := Lib.hid (fun w0 W g hi hB => by have := ccount w0 W g _ 16384 (by omega) hi hB; rwa [S10] at this)
  have C11 : Hid (∀ (w0 W : World) (g : Nat), IsR w0 W g ⟨[], 0⟩ → Below w0.heap.size w0 W → Calls Try.prog 45 #[.pointer (some ⟨g, 0, none⟩)] W (RPost w0 W g (.int .i64 0) ⟨[], 0⟩)) := Lib.hid (fun w0 W g hi hB => by have := cend w0 W g _ hi hB; rwa [S11] at this)
  have HR := Lib.hid hr
  have HBY := Lib.hid hb
  clear hr hb hf F hb32 hs2 S1 S2 S3 S4 S8 S9 S10 S11
  have hmf : ∀ (fn : Fn) (first cap : Array Value) (w : World), (Instr.makeFunc fn first cap).run Try.prog w = .ok (.func fn first cap) w := fun _ _ _ _ => rfl
  have ba : Below w.heap.size w (w.alloc (.cells #[.string ⟨#[]⟩, .int .u32 0, .slice none 0 0, .slice none 0 0, .slice none 0 0, .slice none 0 0, .int .i64 0, .int .i64 0, .int .i64 0] 60)) := (Below.refl _ _).alloc (Nat.le_refl _) _
  have K0 := Lib.hid (heap_alloc_new w (.cells #[.string ⟨#[]⟩, .int .u32 0, .slice none 0 0, .slice none 0 0, .slice none 0 0, .slice none 0 0, .int .i64 0, .int .i64 0, .int .i64 0] 60))
  have BA := Lib.hid ba
  obtain ⟨R, hR⟩ : ∃ R, R = w.heap.size := ⟨_, rfl⟩
  have HRR := Lib.hid hR
  clear ba hR
  go_enter Try.func68, Try.ntmps68
  go_wp2_with fail
  refine (cread A n c t0 _ (HR.out.below BA.out) HBY.out (by have := HT.out; omega)).mono ?_
  rintro en w2 ⟨w0, g, rfl, hi, hb, hb2⟩
  have M1 : Hid (Mid w0 w2 w2 g ⟨t0, 0⟩) := Lib.hid ⟨hi, hb, KeepBut.refl _ _ _⟩
  have HG := Lib.hid M1.out.lt
  have HB0 := Lib.hid hb
  have B1 : Hid (Below w.heap.size w w2) := Lib.hid (BA.out.trans ((hb2.trans (hb.mono hb2.size)).mono BA.out.size))
  have RG : Hid (R < g) := Lib.hid (by have h1 := M1.out.base; have h2 := blk_lt K0.out; have h3 := hb2.size; have h4 := HRR.out; omega)
  have K1 : Hid (w2.heap[R]? = some (.cells #[.string ⟨#[]⟩, .int .u32 0, .slice none 0 0, .slice none 0 0, .slice none 0 0, .slice none 0 0, .int .i64 0, .int .i64 0, .int .i64 0] 60 (0, 0))) := Lib.hid (by have h2 := blk_lt K0.out; have h3 := hb2.size; rw [HRR.out, hb.block _ (by omega), hb2.block _ h2]; exact K0.out)
  have RNG : Hid (R ≠ g) := Lib.hid (by have := RG.out; omega)
  clear hi hb hb2 K0 BA
  obtain ⟨Bc, hB⟩ : ∃ Bc, Bc = w2.heap.size := ⟨_, rfl⟩
  have BNG : Hid (Bc ≠ g) := Lib.hid (by have := HG.out; omega)
  have GB : Hid (w2.heap.size ≤ Bc) := Lib.hid (by omega)
  have RB : Hid (R < Bc) := Lib.hid (by have := RG.out; have := HG.out; omega)
  have KB2 : Hid ((w2.alloc (.cells #[.pointer (some ⟨g, 0, none⟩)] 44)).heap[Bc]? = some (.cells #[.pointer (some ⟨g, 0, none⟩)] 44 (0, 0))) := Lib.hid (by rw [hB]; exact heap_alloc_new _ _)
  have M2 := Lib.hid (M1.out.alloc (.cells #[.pointer (some ⟨g, 0, none⟩)] 44))
  have K2 : Hid ((w2.alloc (.cells #[.pointer (some ⟨g, 0, none⟩)] 44)).heap[R]? = some (.cells #[.string ⟨#[]⟩, .int .u32 0, .slice none 0 0, .slice none 0 0, .slice none 0 0, .slice none 0 0, .int .i64 0, .int .i64 0, .int .i64 0] 60 (0, 0))) := Lib.hid (((b1 w2 _).block _ (blk_lt K1.out)).trans K1.out)
  go_upto_region 2 with fail
  rw [← hB]
  clear M1 K1 hB
  generalize w2.alloc (.cells #[.pointer (some ⟨g, 0, none⟩)] 44) = W2 at *
  have qb := (blk_cell KB2.out 0).trans rfl
  go_wp2_with fail
  refine (M2.out.call (C1.out w0 _ g)).mono ?_
  rintro en w103 ⟨rfl, mm, kk⟩
  have M3 := Lib.hid mm
  have K3 := Lib.hid (kk.blk K2.out RNG.out (by simp))
  have KB3 := Lib.hid (kk.blk KB2.out BNG.out (by simp))
  clear M2 K2 KB2 mm kk qb C1
  have qb := (blk_cell KB3.out 0).trans rfl
  go_wp2_with fail
  refine (M3.out.call (CE.out w0 _ g)).mono ?_
  rintro en w104 ⟨rfl, mm, kk⟩
  have M4 := Lib.hid mm
  have K4 := Lib.hid (kk.blk K3.out RNG.out (by simp))
  have KB4 := Lib.hid (kk.blk KB3.out BNG.out (by simp))
  clear M3 K3 KB3 mm kk qb CE
  have qb := (blk_cell KB4.out 0).trans rfl
  go_wp2_with fail
  refine (M4.out.call (C2.out w0 _ g)).mono ?_
  rintro en w105 ⟨rfl, mm, kk⟩
  have M5 := Lib.hid mm
  have K5 := Lib.hid (kk.blk K4.out RNG.out (by simp))
  have KB5 := Lib.hid (kk.blk KB4.out BNG.out (by simp))
  clear M4 K4 KB4 mm kk qb C2
  obtain ⟨T, hT⟩ : ∃ T, T = w105.heap.size := ⟨_, rfl⟩
  have HTG : Hid (w2.heap.size ≤ T) := Lib.hid (by rw [hT]; exact M5.out.size)
  have TNG : Hid (T ≠ g) := Lib.hid (by have := HG.out; have := HTG.out; omega)
  have RT : Hid (R < T) := Lib.hid (by have := RG.out; have := HG.out; have := HTG.out; omega)
  have BT : Hid (Bc < T) := Lib.hid (by have := blk_lt KB5.out; omega)
  have KT6 : Hid ((w105.alloc (.cells #[.string m, .int .u32 0, .slice none 0 0, .slice none 0 0, .slice none 0 0, .slice none 0 0, .int .i64 0, .int .i64 0, .int .i64 0] 60)).heap[T]? = some (.cells #[.string m, .int .u32 0, .slice none 0 0, .slice none 0 0, .slice none 0 0, .slice none 0 0, .int .i64 0, .int .i64 0, .int .i64 0] 60 (0, 0))) := Lib.hid (by rw [hT]; exact heap_alloc_new _ _)
  have M6 := Lib.hid (M5.out.alloc (.cells #[.string m, .int .u32 0, .slice none 0 0, .slice none 0 0, .slice none 0 0, .slice none 0 0, .int .i64 0, .int .i64 0, .int .i64 0] 60))
  have K6 := Lib.hid (((b1 w105 (.cells #[.string m, .int .u32 0, .slice none 0 0, .slice none 0 0, .slice none 0 0, .slice none 0 0, .int .i64 0, .int .i64 0, .int .i64 0] 60)).block _ (blk_lt K5.out)).trans K5.out)
  have KB6 := Lib.hid (((b1 w105 (.cells #[.string m, .int .u32 0, .slice none 0 0, .slice none 0 0, .slice none 0 0, .slice none 0 0, .int .i64 0, .int .i64 0, .int .i64 0] 60)).block _ (blk_lt KB5.out)).trans KB5.out)
  go_upto_region 6 with fail
  rw [← hT]
  clear hT M5 K5 KB5
  generalize w105.alloc (.cells #[.string m, .int .u32 0, .slice none 0 0, .slice none 0 0, .slice none 0 0, .slice none 0 0, .int .i64 0, .int .i64 0, .int .i64 0] 60) = W6 at *
  have nRT : R ≠ T := by have := RT.out; omega
  have nBT : Bc ≠ T := by have := BT.out; omega
  have nTB : T ≠ Bc := Ne.symm nBT
  have qb := (blk_cell KB6.out 0).trans rfl
  go_wp2_with fail
  refine (M6.out.call (C3.out w0 _ g)).mono ?_
  rintro en w107 ⟨rfl, mm, kk⟩
  have M7 := Lib.hid mm
  have K7 := Lib.hid (kk.blk K6.out RNG.out (by simp))
  have KB7 := Lib.hid (kk.blk KB6.out BNG.out (by simp))
  have KT7 := Lib.hid (kk.blk KT6.out TNG.out (by simp))
  clear M6 K6 KB6 KT6 mm kk qb C3
  have q1 := blk_cell KT7.out 1
  have z1 := blk_frozen KT7.out 1
  simp only [List.getElem?_toArray, List.getElem?_cons_zero, List.getElem?_cons_succ] at q1
  have M8 := Lib.hid (M7.out.set (j := 1) HTG.out HG.out (.int .u32 z))
  have KT8 := Lib.hid (blk_put KT7.out 1 (.int .u32 z) (cs' := #[.string m, .int .u32 z, .slice none 0 0, .slice none 0 0, .slice none 0 0, .slice none 0 0, .int .i64 0, .int .i64 0, .int .i64 0]) rfl)
  have K8 := Lib.hid (blk_far (p := ⟨T, 1, none⟩) K7.out (by show R ≠ T; exact nRT) (.int .u32 z))
  have KB8 := Lib.hid (blk_far (p := ⟨T, 1, none⟩) KB7.out (by show Bc ≠ T; exact nBT) (.int .u32 z))
  clear M7 K7 KB7 KT7 
  go_upto_region 7 with fail
  clear q1 z1
  generalize w107.setCell ⟨T, 1, none⟩ (.int .u32 z) = W8 at *
  have qb := (blk_cell KB8.out 0).trans rfl
  go_wp2_with fail
  refine (C4.out w0 _ g M8.out.rd M8.out.low).mono ?_
  rintro en w109 ⟨vv, rfl, rr, ii, ll, kk⟩
  have M9 : Hid (Mid w0 w2 w109 g _) := Lib.hid ⟨ii, ll, keep_trans M8.out.keep kk⟩
  have K9 := Lib.hid (kk.blk K8.out RNG.out (by simp))
  have KB9 := Lib.hid (kk.blk KB8.out BNG.out (by simp))
  have KT9 := Lib.hid (kk.blk KT8.out TNG.out (by simp))
  have RA9 := Lib.hid (Kd.R_mono rr (ok' := fun k => T < k) (fun k hk => by have := blk_lt KT8.out; omega))
  obtain ⟨A2, c2, rfl, hc2, _⟩ := Kd.R_reads rr
  have HC2 := Lib.hid hc2
  clear M8 K8 KB8 KT8 rr ii ll kk hc2 qb C4
  have q2 := blk_cell KT9.out 2
  have z2 := blk_frozen KT9.out 2
  simp only [List.getElem?_toArray, List.getElem?_cons_zero, List.getElem?_cons_succ] at q2
  have M10 := Lib.hid (M9.out.set (j := 2) HTG.out HG.out (.slice A2 l2.length c2))
  have KT10 := Lib.hid (blk_put KT9.out 2 (.slice A2 l2.length c2) (cs' := #[.string m, .int .u32 z, .slice A2 l2.length c2, .slice none 0 0, .slice none 0 0, .slice none 0 0, .int .i64 0, .int .i64 0, .int .i64 0]) rfl)
  have K10 := Lib.hid (blk_far (p := ⟨T, 2, none⟩) K9.out (by show R ≠ T; exact nRT) (.slice A2 l2.length c2))
  have KB10 := Lib.hid (blk_far (p := ⟨T, 2, none⟩) KB9.out (by show Bc ≠ T; exact nBT) (.slice A2 l2.length c2))
  have RA10 := Lib.hid (Kd.R_far (p := ⟨T, 2, none⟩) RA9.out (fun k hk => by show k ≠ T; omega) (.slice A2 l2.length c2))
  clear M9 K9 KB9 KT9 RA9 
  go_upto_region 8 with fail
  clear q2 z2
  generalize w109.setCell ⟨T, 2, none⟩ (.slice A2 l2.length c2) = W10 at *
  have qb := (blk_cell KB10.out 0).trans rfl
  go_wp2_with fail
  refine (C5.out w0 _ g M10.out.rd M10.out.low).mono ?_
  rintro en w111 ⟨vv, rfl, rr, ii, ll, kk⟩
  have M11 : Hid (Mid w0 w2 w111 g _) := Lib.hid ⟨ii, ll, keep_trans M10.out.keep kk⟩
  have K11 := Lib.hid (kk.blk K10.out RNG.out (by simp))
  have KB11 := Lib.hid (kk.blk KB10.out BNG.out (by simp))
  have KT11 := Lib.hid (kk.blk KT10.out TNG.out (by simp))
  have RA11 := Lib.hid (Kd.R_keep RA10.out kk (fun k hk => by have := HG.out; have := HTG.out; omega))
  have RU11 := Lib.hid (Kd.R_mono rr (ok' := fun k => T < k) (fun k hk => by have := blk_lt KT10.out; omega))
  obtain ⟨A3, c3, rfl, hc3, _⟩ := Kd.R_reads rr
  have HC3 := Lib.hid hc3
  clear M10 K10 KB10 KT10 RA10 rr ii ll kk hc3 qb C5
  have q3 := blk_cell KT11.out 3
  have z3 := blk_frozen KT11.out 3
  simp only [List.getElem?_toArray, List.getElem?_cons_zero, List.getElem?_cons_succ] at q3
  have M12 := Lib.hid (M11.out.set (j := 3) HTG.out HG.out (.slice A3 l3.length c3))
  have KT12 := Lib.hid (blk_put KT11.out 3 (.slice A3 l3.length c3) (cs' := #[.string m, .int .u32 z, .slice A2 l2.length c2, .slice A3 l3.length c3, .slice none 0 0, .slice none 0 0, .int .i64 0, .int .i64 0, .int .i64 0]) rfl)
  have K12 := Lib.hid (blk_far (p := ⟨T, 3, none⟩) K11.out (by show R ≠ T; exact nRT) (.slice A3 l3.length c3))
  have KB12 := Lib.hid (blk_far (p := ⟨T, 3, none⟩) KB11.out (by show Bc ≠ T; exact nBT) (.slice A3 l3.length c3))
  have RA12 := Lib.hid (Kd.R_far (p := ⟨T, 3, none⟩) RA11.out (fun k hk => by show k ≠ T; omega) (.slice A3 l3.length c3))
  have RU12 := Lib.hid (Kd.R_far (p := ⟨T, 3, none⟩) RU11.out (fun k hk => by show k ≠ T; omega) (.slice A3 l3.length c3))
  clear M11 K11 KB11 KT11 RA11 RU11 
  go_upto_region 9 with fail
  clear q3 z3
  generalize w111.setCell ⟨T, 3, none⟩ (.slice A3 l3.length c3) = W12 at *
  have qb := (blk_cell KB12.out 0).trans rfl
  go_wp2_with fail
  refine (C6.out w0 _ g Bc M12.out.rd M12.out.low KB12.out BNG.out).mono ?_
  rintro en w113 ⟨vv, rfl, rr, ii, ll, kk⟩
  have M13 : Hid (Mid w0 w2 w113 g _) := Lib.hid ⟨ii, ll, keep_trans M12.out.keep kk⟩
  have K13 := Lib.hid (kk.blk K12.out RNG.out (by simp))
  have KB13 := Lib.hid (kk.blk KB12.out BNG.out (by simp))
  have KT13 := Lib.hid (kk.blk KT12.out TNG.out (by simp))
  have RA13 := Lib.hid (Kd.R_keep RA12.out kk (fun k hk => by have := HG.out; have := HTG.out; omega))
  have RU13 := Lib.hid (Kd.R_keep RU12.out kk (fun k hk => by have := HG.out; have := HTG.out; omega))
  have RF13 := Lib.hid (Kd.R_mono rr (ok' := fun k => T < k) (fun k hk => by have := blk_lt KT12.out; omega))
  obtain ⟨A4, c4, rfl, hc4, _⟩ := Kd.R_reads rr
  have HC4 := Lib.hid hc4
  clear M12 K12 KB12 KT12 RA12 RU12 rr ii ll kk hc4 qb C6
  have q4 := blk_cell KT13.out 4
  have z4 := blk_frozen KT13.out 4
  simp only [List.getElem?_toArray, List.getElem?_cons_zero, List.getElem?_cons_succ] at q4
  have M14 := Lib.hid (M13.out.set (j := 4) HTG.out HG.out (.slice A4 l4.length c4))
  have KT14 := Lib.hid (blk_put KT13.out 4 (.slice A4 l4.length c4) (cs' := #[.string m, .int .u32 z, .slice A2 l2.length c2, .slice A3 l3.length c3, .slice A4 l4.length c4, .slice none 0 0, .int .i64 0, .int .i64 0, .int .i64 0]) rfl)
  have K14 := Lib.hid (blk_far (p := ⟨T, 4, none⟩) K13.out (by show R ≠ T; exact nRT) (.slice A4 l4.length c4))
  have KB14 := Lib.hid (blk_far (p := ⟨T, 4, none⟩) KB13.out (by show Bc ≠ T; exact nBT) (.slice A4 l4.length c4))
  have RA14 := Lib.hid (Kd.R_far (p := ⟨T, 4, none⟩) RA13.out (fun k hk => by show k ≠ T; omega) (.slice A4 l4.length c4))
  have RU14 := Lib.hid (Kd.R_far (p := ⟨T, 4, none⟩) RU13.out (fun k hk => by show k ≠ T; omega) (.slice A4 l4.length c4))
  have RF14 := Lib.hid (Kd.R_far (p := ⟨T, 4, none⟩) RF13.out (fun k hk => by show k ≠ T; omega) (.slice A4 l4.length c4))
  clear M13 K13 KB13 KT13 RA13 RU13 RF13 
  go_upto_region 10 with fail
  clear q4 z4
  generalize w113.setCell ⟨T, 4, none⟩ (.slice A4 l4.length c4) = W14 at *
  have qb := (blk_cell KB14.out 0).trans rfl
  go_wp2_with fail
  refine (C7.out w0 _ g Bc M14.out.rd M14.out.low KB14.out BNG.out).mono ?_
  rintro en w115 ⟨vv, rfl, rr, ii, ll, kk⟩
  have M15 : Hid (Mid w0 w2 w115 g _) := Lib.hid ⟨ii, ll, keep_trans M14.out.keep kk⟩
  have K15 := Lib.hid (kk.blk K14.out RNG.out (by simp))
  have KB15 := Lib.hid (kk.blk KB14.out BNG.out (by simp))
  have KT15 := Lib.hid (kk.blk KT14.out TNG.out (by simp))
  have RA15 := Lib.hid (Kd.R_keep RA14.out kk (fun k hk => by have := HG.out; have := HTG.out; omega))
  have RU15 := Lib.hid (Kd.R_keep RU14.out kk (fun k hk => by have := HG.out; have := HTG.out; omega))
  have RF15 := Lib.hid (Kd.R_keep RF14.out kk (fun k hk => by have := HG.out; have := HTG.out; omega))
  have RS15 := Lib.hid (Kd.R_mono rr (ok' := fun k => T < k) (fun k hk => by have := blk_lt KT14.out; omega))
  obtain ⟨A5, c5, rfl, hc5, _⟩ := Kd.R_reads rr
  have HC5 := Lib.hid hc5
  clear M14 K14 KB14 KT14 RA14 RU14 RF14 rr ii ll kk hc5 qb C7
  have q5 := blk_cell KT15.out 5
  have z5 := blk_frozen KT15.out 5
  simp only [List.getElem?_toArray, List.getElem?_cons_zero, List.getElem?_cons_succ] at q5
  have M16 := Lib.hid (M15.out.set (j := 5) HTG.out HG.out (.slice A5 l5.length c5))
  have KT16 := Lib.hid (blk_put KT15.out 5 (.slice A5 l5.length c5) (cs' := #[.string m, .int .u32 z, .slice A2 l2.length c2, .slice A3 l3.length c3, .slice A4 l4.length c4, .slice A5 l5.length c5, .int .i64 0, .int .i64 0, .int .i64 0]) rfl)
  have K16 := Lib.hid (blk_far (p := ⟨T, 5, none⟩) K15.out (by show R ≠ T; exact nRT) (.slice A5 l5.length c5))
  have KB16 := Lib.hid (blk_far (p := ⟨T, 5, none⟩) KB15.out (by show Bc ≠ T; exact nBT) (.slice A5 l5.length c5))
  have RA16 := Lib.hid (Kd.R_far (p := ⟨T, 5, none⟩) RA15.out (fun k hk => by show k ≠ T; omega) (.slice A5 l5.length c5))
  have RU16 := Lib.hid (Kd.R_far (p := ⟨T, 5, none⟩) RU15.out (fun k hk => by show k ≠ T; omega) (.slice A5 l5.length c5))
  have RF16 := Lib.hid (Kd.R_far (p := ⟨T, 5, none⟩) RF15.out (fun k hk => by show k ≠ T; omega) (.slice A5 l5.length c5))
  have RS16 := Lib.hid (Kd.R_far (p := ⟨T, 5, none⟩) RS15.out (fun k hk => by show k ≠ T; omega) (.slice A5 l5.length c5))
  clear M15 K15 KB15 KT15 RA15 RU15 RF15 RS15 
  go_upto_region 11 with fail
  clear q5 z5
  generalize w115.setCell ⟨T, 5, none⟩ (.slice A5 l5.length c5) = W16 at *
  have qb : W16.drew.cell? ⟨Bc, 0, none⟩ = some (.pointer (some ⟨g, 0, none⟩)) := (blk_cell KB16.out 0).trans rfl
  have M17 := Lib.hid M16.out.drew
  have K17 : Hid (W16.drew.heap[_]? = _) := Lib.hid K16.out
  have KB17 : Hid (W16.drew.heap[_]? = _) := Lib.hid KB16.out
  have KT17 : Hid (W16.drew.heap[_]? = _) := Lib.hid KT16.out
  have RA17 := Lib.hid (Kd.R_drew RA16.out)
  have RU17 := Lib.hid (Kd.R_drew RU16.out)
  have RF17 := Lib.hid (Kd.R_drew RF16.out)
  have RS17 := Lib.hid (Kd.R_drew RS16.out)
  clear M16 K16 KB16 KT16 RA16 RU16 RF16 RS16 
  go_region_held3 (fun w' => w'.cell? ⟨Bc, 0, none⟩ = some (.pointer (some ⟨g, 0, none⟩))) (first | exact qb | exact qb18 | exact qb19 | exact qb20 | go_keep) (first | (go_at_call 40; refine (M19.out.call (C10.out w0 _ g)).mono ?_; rintro en w120 ⟨rfl, mm, kk⟩; have M20 := Lib.hid mm; have K20 := Lib.hid (kk.blk K19.out RNG.out (by simp)); have KB20 := Lib.hid (kk.blk KB19.out BNG.out (by simp)); have KT20 := Lib.hid (kk.blk KT19.out TNG.out (by simp)); have RA20 := Lib.hid (Kd.R_keep RA19.out kk (fun k hk => by have := HG.out; have := HTG.out; omega)); have RU20 := Lib.hid (Kd.R_keep RU19.out kk (fun k hk => by have := HG.out; have := HTG.out; omega)); have RF20 := Lib.hid (Kd.R_keep RF19.out kk (fun k hk => by have := HG.out; have := HTG.out; omega)); have RS20 := Lib.hid (Kd.R_keep RS19.out kk (fun k hk => by have := HG.out; have := HTG.out; omega)); clear mm kk; have qb20 : w120.cell? ⟨Bc, 0, none⟩ = some (.pointer (some ⟨g, 0, none⟩)) := (blk_cell KB20.out 0).trans rfl; have q6 := blk_cell KT20.out 6; have z6 := blk_frozen KT20.out 6; have q7 := blk_cell KT20.out 7; have z7 := blk_frozen KT20.out 7; have q8 := blk_cell KT20.out 8; have z8 := blk_frozen KT20.out 8; simp only [List.getElem?_toArray, List.getElem?_cons_zero, List.getElem?_cons_succ] at q6 q7 q8) | (go_at_call 40; refine (M18.out.call (C9.out w0 _ g)).mono ?_; rintro en w119 ⟨rfl, mm, kk⟩; have M19 := Lib.hid mm; have K19 := Lib.hid (kk.blk K18.out RNG.out (by simp)); have KB19 := Lib.hid (kk.blk KB18.out BNG.out (by simp)); have KT19 := Lib.hid (kk.blk KT18.out TNG.out (by simp)); have RA19 := Lib.hid (Kd.R_keep RA18.out kk (fun k hk => by have := HG.out; have := HTG.out; omega)); have RU19 := Lib.hid (Kd.R_keep RU18.out kk (fun k hk => by have := HG.out; have := HTG.out; omega)); have RF19 := Lib.hid (Kd.R_keep RF18.out kk (fun k hk => by have := HG.out; have := HTG.out; omega)); have RS19 := Lib.hid (Kd.R_keep RS18.out kk (fun k hk => by have := HG.out; have := HTG.out; omega)); clear mm kk; have qb19 : w119.cell? ⟨Bc, 0, none⟩ = some (.pointer (some ⟨g, 0, none⟩)) := (blk_cell KB19.out 0).trans rfl) | (go_at_call 40; refine (M17.out.call (C8.out w0 _ g)).mono ?_; rintro en w118 ⟨rfl, mm, kk⟩; have M18 := Lib.hid mm; have K18 := Lib.hid (kk.blk K17.out RNG.out (by simp)); have KB18 := Lib.hid (kk.blk KB17.out BNG.out (by simp)); have KT18 := Lib.hid (kk.blk KT17.out TNG.out (by simp)); have RA18 := Lib.hid (Kd.R_keep RA17.out kk (fun k hk => by have := HG.out; have := HTG.out; omega)); have RU18 := Lib.hid (Kd.R_keep RU17.out kk (fun k hk => by have := HG.out; have := HTG.out; omega)); have RF18 := Lib.hid (Kd.R_keep RF17.out kk (fun k hk => by have := HG.out; have := HTG.out; omega)); have RS18 := Lib.hid (Kd.R_keep RS17.out kk (fun k hk => by have := HG.out; have := HTG.out; omega)); clear mm kk; have qb18 : w118.cell? ⟨Bc, 0, none⟩ = some (.pointer (some ⟨g, 0, none⟩)) := (blk_cell KB18.out 0).trans rfl))
  clear qb qb18 qb19 qb20 q6 q7 q8 z6 z7 z8
  have q6 := blk_cell KT20.out 6
  have z6 := blk_frozen KT20.out 6
  simp only [List.getElem?_toArray, List.getElem?_cons_zero, List.getElem?_cons_succ] at q6
  have M21 := Lib.hid (M20.out.set (j := 6) HTG.out HG.out (.int .i64 d))
  have KT21 := Lib.hid (blk_put KT20.out 6 (.int .i64 d) (cs' := #[.string m, .int .u32 z, .slice A2 l2.length c2, .slice A3 l3.length c3, .slice A4 l4.length c4, .slice A5 l5.length c5, .int .i64 d, .int .i64 0, .int .i64 0]) rfl)
  have K21 := Lib.hid (blk_far (p := ⟨T, 6, none⟩) K20.out (by show R ≠ T; exact nRT) (.int .i64 d))
  have KB21 := Lib.hid (blk_far (p := ⟨T, 6, none⟩) KB20.out (by show Bc ≠ T; exact nBT) (.int .i64 d))
  have RA21 := Lib.hid (Kd.R_far (p := ⟨T, 6, none⟩) RA20.out (fun k hk => by show k ≠ T; omega) (.int .i64 d))
  have RU21 := Lib.hid (Kd.R_far (p := ⟨T, 6, none⟩) RU20.out (fun k hk => by show k ≠ T; omega) (.int .i64 d))
  have RF21 := Lib.hid (Kd.R_far (p := ⟨T, 6, none⟩) RF20.out (fun k hk => by show k ≠ T; omega) (.int .i64 d))
  have RS21 := Lib.hid (Kd.R_far (p := ⟨T, 6, none⟩) RS20.out (fun k hk => by show k ≠ T; omega) (.int .i64 d))
  clear M20 K20 KB20 KT20 RA20 RU20 RF20 RS20 
  clear q6 z6
  have q7 := blk_cell KT21.out 7
  have z7 := blk_frozen KT21.out 7
  simp only [List.getElem?_toArray, List.getElem?_cons_zero, List.getElem?_cons_succ] at q7
  have M22 := Lib.hid (M21.out.set (j := 7) HTG.out HG.out (.int .i64 e))
  have KT22 := Lib.hid (blk_put KT21.out 7 (.int .i64 e) (cs' := #[.string m, .int .u32 z, .slice A2 l2.length c2, .slice A3 l3.length c3, .slice A4 l4.length c4, .slice A5 l5.length c5, .int .i64 d, .int .i64 e, .int .i64 0]) rfl)
  have K22 := Lib.hid (blk_far (p := ⟨T, 7, none⟩) K21.out (by show R ≠ T; exact nRT) (.int .i64 e))
  have KB22 := Lib.hid (blk_far (p := ⟨T, 7, none⟩) KB21.out (by show Bc ≠ T; exact nBT) (.int .i64 e))
  have RA22 := Lib.hid (Kd.R_far (p := ⟨T, 7, none⟩) RA21.out (fun k hk => by show k ≠ T; omega) (.int .i64 e))
  have RU22 := Lib.hid (Kd.R_far (p := ⟨T, 7, none⟩) RU21.out (fun k hk => by show k ≠ T; omega) (.int .i64 e))
  have RF22 := Lib.hid (Kd.R_far (p := ⟨T, 7, none⟩) RF21.out (fun k hk => by show k ≠ T; omega) (.int .i64 e))
  have RS22 := Lib.hid (Kd.R_far (p := ⟨T, 7, none⟩) RS21.out (fun k hk => by show k ≠ T; omega) (.int .i64 e))
  clear M21 K21 KB21 KT21 RA21 RU21 RF21 RS21 
  clear q7 z7
  have q8 := blk_cell KT22.out 8
  have z8 := blk_frozen KT22.out 8
  simp only [List.getElem?_toArray, List.getElem?_cons_zero, List.getElem?_cons_succ] at q8
  have M23 := Lib.hid (M22.out.set (j := 8) HTG.out HG.out (.int .i64 y))
  have KT23 := Lib.hid (blk_put KT22.out 8 (.int .i64 y) (cs' := #[.string m, .int .u32 z, .slice A2 l2.length c2, .slice A3 l3.length c3, .slice A4 l4.length c4, .slice A5 l5.length c5, .int .i64 d, .int .i64 e, .int .i64 y]) rfl)
  have K23 := Lib.hid (blk_far (p := ⟨T, 8, none⟩) K22.out (by show R ≠ T; exact nRT) (.int .i64 y))
  have KB23 := Lib.hid (blk_far (p := ⟨T, 8, none⟩) KB22.out (by show Bc ≠ T; exact nBT) (.int .i64 y))
  have RA23 := Lib.hid (Kd.R_far (p := ⟨T, 8, none⟩) RA22.out (fun k hk => by show k ≠ T; omega) (.int .i64 y))
  have RU23 := Lib.hid (Kd.R_far (p := ⟨T, 8, none⟩) RU22.out (fun k hk => by show k ≠ T; omega) (.int .i64 y))
  have RF23 := Lib.hid (Kd.R_far (p := ⟨T, 8, none⟩) RF22.out (fun k hk => by show k ≠ T; omega) (.int .i64 y))
  have RS23 := Lib.hid (Kd.R_far (p := ⟨T, 8, none⟩) RS22.out (fun k hk => by show k ≠ T; omega) (.int .i64 y))
  clear M22 K22 KB22 KT22 RA22 RU22 RF22 RS22 
  clear q8 z8
  generalize ((w120.setCell ⟨T, 6, none⟩ (.int .i64 d)).setCell ⟨T, 7, none⟩ (.int .i64 e)).setCell ⟨T, 8, none⟩ (.int .i64 y) = W23 at *
  have qb := (blk_cell KB23.out 0).trans rfl
  go_wp2_with fail
  refine (M23.out.call (C11.out w0 _ g)).mono ?_
  rintro en w124 ⟨rfl, mm, kk⟩
  have M24 := Lib.hid mm
  have K24 := Lib.hid (kk.blk K23.out RNG.out (by simp))
  have KB24 := Lib.hid (kk.blk KB23.out BNG.out (by simp))
  have KT24 := Lib.hid (kk.blk KT23.out TNG.out (by simp))
  have RA24 := Lib.hid (Kd.R_keep RA23.out kk (fun k hk => by have := HG.out; have := HTG.out; omega))
  have RU24 := Lib.hid (Kd.R_keep RU23.out kk (fun k hk => by have := HG.out; have := HTG.out; omega))
  have RF24 := Lib.hid (Kd.R_keep RF23.out kk (fun k hk => by have := HG.out; have := HTG.out; omega))
  have RS24 := Lib.hid (Kd.R_keep RS23.out kk (fun k hk => by have := HG.out; have := HTG.out; omega))
  clear M23 K23 KB23 KT23 RA23 RU23 RF23 RS23 mm kk qb C11
  have q0 := blk_cell KT24.out 0
  have q1 := blk_cell KT24.out 1
  have q2 := blk_cell KT24.out 2
  have q3 := blk_cell KT24.out 3
  have q4 := blk_cell KT24.out 4
  have q5 := blk_cell KT24.out 5
  have q6 := blk_cell KT24.out 6
  have q7 := blk_cell KT24.out 7
  have q8 := blk_cell KT24.out 8
  simp only [List.getElem?_toArray, List.getElem?_cons_zero, List.getElem?_cons_succ] at q0 q1 q2 q3 q4 q5 q6 q7 q8
  have FO : Hid (ObjAt A2 A3 A4 A5 c2 c3 c4 c5 l2 l3 l4 l5 w124) := Lib.hid (by
    obtain ⟨_, _, e0, _, h0⟩ := Kd.R_reads RA24.out
    injection e0 with e0 _ _
    obtain ⟨_, _, e1, _, h1⟩ := Kd.R_reads RU24.out
    injection e1 with e1 _ _
    obtain ⟨_, _, e2, _, h2⟩ := Kd.R_reads RF24.out
    injection e2 with e2 _ _
    obtain ⟨_, _, e3, _, h3⟩ := Kd.R_reads RS24.out
    injection e3 with e3 _ _
    subst e0 e1 e2 e3
    exact ⟨h0, HC2.out, h1, HC3.out, h2, HC4.out, h3, HC5.out⟩)
  go_wp2_with fail
  refine (CK.out _ _ _ _ _ _ _ _ _ FO.out).mono ?_
  rintro en wz ⟨rfl, bz⟩
  have BZ : Hid (Below w.heap.size w wz) := Lib.hid (by
    have hk := M24.out.keep
    have hl := M24.out.low
    have b13 : Below w.heap.size w w124 := B1.out.trans ⟨hl.os.trans HB0.out.os.symm, hl.tape.trans HB0.out.tape.symm, hl.output.trans HB0.out.output.symm, hk.1, fun i hi => hk.2 i (Nat.lt_of_lt_of_le hi B1.out.size) (by have := RG.out; have := HRR.out; omega) (by simp)⟩
    exact b13.trans (bz.mono b13.size))
  have KTz := Lib.hid ((bz.block _ (blk_lt KT24.out)).trans KT24.out)
  have Kz := Lib.hid ((bz.block _ (blk_lt K24.out)).trans K24.out)
  have RAz := Lib.hid (Kd.R_below RA24.out bz)
  have RUz := Lib.hid (Kd.R_below RU24.out bz)
  have RFz := Lib.hid (Kd.R_below RF24.out bz)
  have RSz := Lib.hid (Kd.R_below RS24.out bz)
  clear M24 K24 KB24 KT24 RA24 RU24 RF24 RS24 bz FO CK B1 HB0 q0 q1 q2 q3 q4 q5 q6 q7 q8
  have q0 := blk_cell KTz.out 0
  have q1 := blk_cell KTz.out 1
  have q2 := blk_cell KTz.out 2
  have q3 := blk_cell KTz.out 3
  have q4 := blk_cell KTz.out 4
  have q5 := blk_cell KTz.out 5
  have q6 := blk_cell KTz.out 6
  have q7 := blk_cell KTz.out 7
  have q8 := blk_cell KTz.out 8
  have r0 := blk_cell Kz.out 0
  have r1 := blk_cell Kz.out 1
  have r2 := blk_cell Kz.out 2
  have r3 := blk_cell Kz.out 3
  have r4 := blk_cell Kz.out 4
  have r5 := blk_cell Kz.out 5
  have r6 := blk_cell Kz.out 6
  have r7 := blk_cell Kz.out 7
  have r8 := blk_cell Kz.out 8
  simp only [List.getElem?_toArray, List.getElem?_cons_zero, List.getElem?_cons_succ] at q0 r0 q1 r1 q2 r2 q3 r3 q4 r4 q5 r5 q6 r6 q7 r7 q8 r8
  have z0 := blk_frozen Kz.out 0
  have z1 := blk_frozen Kz.out 1
  have z2 := blk_frozen Kz.out 2
  have z3 := blk_frozen Kz.out 3
  have z4 := blk_frozen Kz.out 4
  have z5 := blk_frozen Kz.out 5
  have z6 := blk_frozen Kz.out 6
  have z7 := blk_frozen Kz.out 7
  have z8 := blk_frozen Kz.out 8
  rw [HRR.out] at r0 z0 r1 z1 r2 z2 r3 z3 r4 z4 r5 z5 r6 z6 r7 z7 r8 z8
  go_wp2
  have hR := HRR.out
  rw [← hR]
  have P0 := blk_put Kz.out 0 (.string m) (cs' := #[.string m, .int .u32 0, .slice none 0 0, .slice none 0 0, .slice none 0 0, .slice none 0 0, .int .i64 0, .int .i64 0, .int .i64 0]) rfl
  have P1 := blk_put P0 1 (.int .u32 z) (cs' := #[.string m, .int .u32 z, .slice none 0 0, .slice none 0 0, .slice none 0 0, .slice none 0 0, .int .i64 0, .int .i64 0, .int .i64 0]) rfl
  have P2 := blk_put P1 2 (.slice A2 l2.length c2) (cs' := #[.string m, .int .u32 z, .slice A2 l2.length c2, .slice none 0 0, .slice none 0 0, .slice none 0 0, .int .i64 0, .int .i64 0, .int .i64 0]) rfl
  have P3 := blk_put P2 3 (.slice A3 l3.length c3) (cs' := #[.string m, .int .u32 z, .slice A2 l2.length c2, .slice A3 l3.length c3, .slice none 0 0, .slice none 0 0, .int .i64 0, .int .i64 0, .int .i64 0]) rfl
  have P4 := blk_put P3 4 (.slice A4 l4.length c4) (cs' := #[.string m, .int .u32 z, .slice A2 l2.length c2, .slice A3 l3.length c3, .slice A4 l4.length c4, .slice none 0 0, .int .i64 0, .int .i64 0, .int .i64 0]) rfl
  have P5 := blk_put P4 5 (.slice A5 l5.length c5) (cs' := #[.string m, .int .u32 z, .slice A2 l2.length c2, .slice A3 l3.length c3, .slice A4 l4.length c4, .slice A5 l5.length c5, .int .i64 0, .int .i64 0, .int .i64 0]) rfl
  have P6 := blk_put P5 6 (.int .i64 d) (cs' := #[.string m, .int .u32 z, .slice A2 l2.length c2, .slice A3 l3.length c3, .slice A4 l4.length c4, .slice A5 l5.length c5, .int .i64 d, .int .i64 0, .int .i64 0]) rfl
  have P7 := blk_put P6 7 (.int .i64 e) (cs' := #[.string m, .int .u32 z, .slice A2 l2.length c2, .slice A3 l3.length c3, .slice A4 l4.length c4, .slice A5 l5.length c5, .int .i64 d, .int .i64 e, .int .i64 0]) rfl
  have P8 := blk_put P7 8 (.int .i64 y) (cs' := #[.string m, .int .u32 z, .slice A2 l2.length c2, .slice A3 l3.length c3, .slice A4 l4.length c4, .slice A5 l5.length c5, .int .i64 d, .int .i64 e, .int .i64 y]) rfl
  have E0 := (Kd.R_far (p := ⟨R, 8, none⟩) (Kd.R_far (p := ⟨R, 7, none⟩) (Kd.R_far (p := ⟨R, 6, none⟩) (Kd.R_far (p := ⟨R, 5, none⟩) (Kd.R_far (p := ⟨R, 4, none⟩) (Kd.R_far (p := ⟨R, 3, none⟩) (Kd.R_far (p := ⟨R, 2, none⟩) (Kd.R_far (p := ⟨R, 1, none⟩) (Kd.R_far (p := ⟨R, 0, none⟩) RAz.out (fun k hk => by show k ≠ R; have := RT.out; omega) (.string m)) (fun k hk => by show k ≠ R; have := RT.out; omega) (.int .u32 z)) (fun k hk => by show k ≠ R; have := RT.out; omega) (.slice A2 l2.length c2)) (fun k hk => by show k ≠ R; have := RT.out; omega) (.slice A3 l3.length c3)) (fun k hk => by show k ≠ R; have := RT.out; omega) (.slice A4 l4.length c4)) (fun k hk => by show k ≠ R; have := RT.out; omega) (.slice A5 l5.length c5)) (fun k hk => by show k ≠ R; have := RT.out; omega) (.int .i64 d)) (fun k hk => by show k ≠ R; have := RT.out; omega) (.int .i64 e)) (fun k hk => by show k ≠ R; have := RT.out; omega) (.int .i64 y))
  obtain ⟨_, _, e0, _, h0⟩ := Kd.R_reads E0
  injection e0 with e0 _ _
  have E1 := (Kd.R_far (p := ⟨R, 8, none⟩) (Kd.R_far (p := ⟨R, 7, none⟩) (Kd.R_far (p := ⟨R, 6, none⟩) (Kd.R_far (p := ⟨R, 5, none⟩) (Kd.R_far (p := ⟨R, 4, none⟩) (Kd.R_far (p := ⟨R, 3, none⟩) (Kd.R_far (p := ⟨R, 2, none⟩) (Kd.R_far (p := ⟨R, 1, none⟩) (Kd.R_far (p := ⟨R, 0, none⟩) RUz.out (fun k hk => by show k ≠ R; have := RT.out; omega) (.string m)) (fun k hk => by show k ≠ R; have := RT.out; omega) (.int .u32 z)) (fun k hk => by show k ≠ R; have := RT.out; omega) (.slice A2 l2.length c2)) (fun k hk => by show k ≠ R; have := RT.out; omega) (.slice A3 l3.length c3)) (fun k hk => by show k ≠ R; have := RT.out; omega) (.slice A4 l4.length c4)) (fun k hk => by show k ≠ R; have := RT.out; omega) (.slice A5 l5.length c5)) (fun k hk => by show k ≠ R; have := RT.out; omega) (.int .i64 d)) (fun k hk => by show k ≠ R; have := RT.out; omega) (.int .i64 e)) (fun k hk => by show k ≠ R; have := RT.out; omega) (.int .i64 y))
  obtain ⟨_, _, e1, _, h1⟩ := Kd.R_reads E1
  injection e1 with e1 _ _
  have E2 := (Kd.R_far (p := ⟨R, 8, none⟩) (Kd.R_far (p := ⟨R, 7, none⟩) (Kd.R_far (p := ⟨R, 6, none⟩) (Kd.R_far (p := ⟨R, 5, none⟩) (Kd.R_far (p := ⟨R, 4, none⟩) (Kd.R_far (p := ⟨R, 3, none⟩) (Kd.R_far (p := ⟨R, 2, none⟩) (Kd.R_far (p := ⟨R, 1, none⟩) (Kd.R_far (p := ⟨R, 0, none⟩) RFz.out (fun k hk => by show k ≠ R; have := RT.out; omega) (.string m)) (fun k hk => by show k ≠ R; have := RT.out; omega) (.int .u32 z)) (fun k hk => by show k ≠ R; have := RT.out; omega) (.slice A2 l2.length c2)) (fun k hk => by show k ≠ R; have := RT.out; omega) (.slice A3 l3.length c3)) (fun k hk => by show k ≠ R; have := RT.out; omega) (.slice A4 l4.length c4)) (fun k hk => by show k ≠ R; have := RT.out; omega) (.slice A5 l5.length c5)) (fun k hk => by show k ≠ R; have := RT.out; omega) (.int .i64 d)) (fun k hk => by show k ≠ R; have := RT.out; omega) (.int .i64 e)) (fun k hk => by show k ≠ R; have := RT.out; omega) (.int .i64 y))
  obtain ⟨_, _, e2, _, h2⟩ := Kd.R_reads E2
  injection e2 with e2 _ _
  have E3 := (Kd.R_far (p := ⟨R, 8, none⟩) (Kd.R_far (p := ⟨R, 7, none⟩) (Kd.R_far (p := ⟨R, 6, none⟩) (Kd.R_far (p := ⟨R, 5, none⟩) (Kd.R_far (p := ⟨R, 4, none⟩) (Kd.R_far (p := ⟨R, 3, none⟩) (Kd.R_far (p := ⟨R, 2, none⟩) (Kd.R_far (p := ⟨R, 1, none⟩) (Kd.R_far (p := ⟨R, 0, none⟩) RSz.out (fun k hk => by show k ≠ R; have := RT.out; omega) (.string m)) (fun k hk => by show k ≠ R; have := RT.out; omega) (.int .u32 z)) (fun k hk => by show k ≠ R; have := RT.out; omega) (.slice A2 l2.length c2)) (fun k hk => by show k ≠ R; have := RT.out; omega) (.slice A3 l3.length c3)) (fun k hk => by show k ≠ R; have := RT.out; omega) (.slice A4 l4.length c4)) (fun k hk => by show k ≠ R; have := RT.out; omega) (.slice A5 l5.length c5)) (fun k hk => by show k ≠ R; have := RT.out; omega) (.int .i64 d)) (fun k hk => by show k ≠ R; have := RT.out; omega) (.int .i64 e)) (fun k hk => by show k ≠ R; have := RT.out; omega) (.int .i64 y))
  obtain ⟨_, _, e3, _, h3⟩ := Kd.R_reads E3
  injection e3 with e3 _ _
  subst e0 e1 e2 e3
  refine bodyPost_ret (results_ct rfl _ _ R 60 #[.string m, .int .u32 z, .slice A2 l2.length c2, .slice A3 l3.length c3, .slice A4 l4.length c4, .slice A5 l5.length c5, .int .i64 d, .int .i64 e, .int .i64 y] (0, 0) _ rfl P8 Try.underlying60 rfl (by kernel_rfl)) rfl ?_
  exact ⟨A2, A3, A4, A5, c2, c3, c4, c5, rfl, ⟨h0, HC2.out, h1, HC3.out, h2, HC4.out, h3, HC5.out⟩, by
    have b := BZ.out
    rw [hR]
    exact (below_set (below_set (below_set (below_set (below_set (below_set (below_set (below_set (below_set b (Nat.le_refl _)) (Nat.le_refl _)) (Nat.le_refl _)) (Nat.le_refl _)) (Nat.le_refl _)) (Nat.le_refl _)) (Nat.le_refl _)) (Nat.le_refl _)) (Nat.le_refl _))⟩
end Go.Proofs.Ytehdhmhpmkkneaa
