/- The texts Ta, Tb, Tc, Td, Te, Tf, Tg, one behind the other. -/
import Derived.Test.YtehdhmhpmkkneaaBMBase
import Derived.RegionTactic
import Derived.Test.YtehdhmhpmkkneaaBMKey
import Derived.Deep.RegionLaw
/- Layer 12: the document's reader, which goes by value: walks of fail, Byte, Left. -/
namespace Go.Proofs.Ytehdhmhpmkkneaa
open Go.RowKit Go.Proofs.YtehdhmhpmkkneaaW.PrintWords Go.Proofs.YtehdhmhpmkkneaaW.PrintMore Go.Proofs.Ytehdhmhpmkkneaa.PAll
/-- A reader by value that reads s; its bytes lie in w. -/
def IsV (w : World) (v : Value) (s : RS) : Prop :=
  ∃ A n c, v = .agg #[.slice A n c, .int .i64 s.err] ∧ ReadsInt w .u8 A n s.xs ∧ n ≤ c ∧ AllB s.xs ∧ n ≤ 140737488351232
theorem b1 (w : World) (o : Obj) : Below w.heap.size w (w.alloc o) := (Below.refl _ _).alloc (Nat.le_refl _) _
theorem b2 (w : World) (o o' : Obj) : Below w.heap.size w ((w.alloc o).alloc o') := (b1 w o).alloc (by simp) _
theorem b3 (w : World) (o o' o2 : Obj) : Below w.heap.size w (((w.alloc o).alloc o').alloc o2) := (b2 w o o').alloc (by simp; omega) _
end Go.Proofs.Ytehdhmhpmkkneaa
/- Layer 12: the document's reader: the walk of TakeCount. -/
namespace Go.Proofs.Ytehdhmhpmkkneaa
open Go.RowKit Go.Proofs.YtehdhmhpmkkneaaW.PrintWords Go.Proofs.YtehdhmhpmkkneaaW.PrintMore Go.Proofs.Ytehdhmhpmkkneaa.PAll
section
attribute [local go_sem] max2_mx max_two
end
end Go.Proofs.Ytehdhmhpmkkneaa
/- Layer 12: the document's reader: the walks of TakeNumber and TakeText. -/
namespace Go.Proofs.Ytehdhmhpmkkneaa
open Go.RowKit Go.Proofs.YtehdhmhpmkkneaaW.PrintWords Go.Proofs.YtehdhmhpmkkneaaW.PrintMore Go.Proofs.Ytehdhmhpmkkneaa.PAll
end Go.Proofs.Ytehdhmhpmkkneaa
/- Layer 13: what is read of a fingerprint's bytes, in plain words. -/
namespace Go.Proofs.Ytehdhmhpmkkneaa
open Go.RowKit Go.Proofs.YtehdhmhpmkkneaaW.PrintWords Go.Proofs.YtehdhmhpmkkneaaW.PrintMore Go.Proofs.Ytehdhmhpmkkneaa.PAll
/-- One parameter. -/
def parS (s : RS) : S119 × RS := (⟨(countS 4096 s).1, (countS 1 (countS 4096 s).2).1 == 1⟩, (countS 1 (countS 4096 s).2).2)
/-- So many parameters, behind those that are there. -/
def parsGo : Nat → List S119 → RS → List S119 × RS
  | 0, ps, s => (ps, s)
  | k + 1, ps, s => parsGo k (ps ++ [(parS s).1]) (parS s).2
/-- The reader behind an export's first four fields. -/
def hd1 (s : RS) : RS := (textS 32 s).2
def hd2 (s : RS) : RS := (countS 8 (hd1 s)).2
def hd3 (s : RS) : RS := (countS 4096 (hd2 s)).2
def hd4 (s : RS) : RS := (numS (hd3 s)).2
def hd5 (s : RS) : RS := (countS 16 (hd4 s)).2
/-- One export. -/
def exS (s : RS) : S80 × RS :=
  (⟨(textS 32 s).1, (countS 8 (hd1 s)).1, (countS 4096 (hd2 s)).1, (numS (hd3 s)).1, (parsGo (countS 16 (hd4 s)).1.toNat [] (hd5 s)).1⟩, (parsGo (countS 16 (hd4 s)).1.toNat [] (hd5 s)).2)
/-- So many exports, behind those that are there. -/
def exsGo : Nat → List S80 → RS → List S80 × RS
  | 0, l, s => (l, s)
  | k + 1, l, s => if (exS s).2.err = 0 then exsGo k (l ++ [(exS s).1]) (exS s).2 else ([], (exS s).2)
def readS (s : RS) : List S80 × RS := exsGo (countS 4096 s).1.toNat [] (countS 4096 s).2
end Go.Proofs.Ytehdhmhpmkkneaa
/- Layer 13: the walk of finger.Read. -/
namespace Go.Proofs.Ytehdhmhpmkkneaa
open Go.RowKit Go.Proofs.YtehdhmhpmkkneaaW.PrintWords Go.Proofs.YtehdhmhpmkkneaaW.PrintMore Go.Proofs.Ytehdhmhpmkkneaa.PAll
theorem info119 : (Try.prog.info? 119).map (fun i => (i.zero, i.size, i.bytes)) = some (some (.agg #[.int .i64 0, .bool false]), 2, 16) := by kernel_rfl
theorem info80 : (Try.prog.info? 80).map (fun i => (i.zero, i.size, i.bytes)) = some (some (.agg #[.string ⟨#[]⟩, .int .i64 0, .int .i64 0, .int .i32 0, .slice none 0 0]), 5, 64) := by kernel_rfl
/-- Behind Read: the list lies in new rows; the reader has moved on. -/
def ReadPost (w0 w : World) (g : Nat) (l : List S80) (s : RS) (e : Ending) (w' : World) : Prop :=
  ∃ v, e = .returned v ∧ Kd.R k80 80 w' w.heap.size (fun k => w.heap.size ≤ k) v l ∧ IsR w0 w' g s ∧ Below w0.heap.size w0 w' ∧ KeepBut w w' g none
/-- A world that has changed in the reader's block and in new ones. -/
structure Mid (w0 w W : World) (g : Nat) (s : RS) : Prop where
  rd : IsR w0 W g s
  low : Below w0.heap.size w0 W
  keep : KeepBut w W g none
theorem Mid.size {w0 w W : World} {g : Nat} {s : RS} (h : Mid w0 w W g s) : w.heap.size ≤ W.heap.size := h.keep.1
theorem Mid.base {w0 w W : World} {g : Nat} {s : RS} (h : Mid w0 w W g s) : w0.heap.size ≤ g := by
  obtain ⟨_, _, _, _, _, hg, _⟩ := h.rd
  exact hg
theorem Mid.lt {w0 w W : World} {g : Nat} {s : RS} (h : Mid w0 w W g s) : g < W.heap.size := by
  obtain ⟨_, _, _, _, hb, _⟩ := h.rd
  exact blk_lt hb
/-- A call of the reader. -/
theorem Mid.call {w0 w W : World} {g : Nat} {s s' : RS} {i : Nat} {args : Array Value} {v : Value} (h : Mid w0 w W g s)
    (hc : IsR w0 W g s → Below w0.heap.size w0 W → Calls Try.prog i args W (RPost w0 W g v s')) :
    Calls Try.prog i args W fun e W' => e = .returned v ∧ Mid w0 w W' g s' ∧ KeepBut W W' g none := by
  refine (hc h.rd h.low).mono ?_
  rintro e W' ⟨rfl, i1, b1, k1⟩
  exact ⟨rfl, ⟨i1, b1, keep_trans h.keep k1⟩, k1⟩
theorem IsR.blk {w0 W W' : World} {g : Nat} {s : RS} (h : IsR w0 W g s) (e : W'.heap[g]? = W.heap[g]?) : IsR w0 W' g s := by
  unfold IsR at *
  rw [e]
  exact h
theorem Mid.alloc {w0 w W : World} {g : Nat} {s : RS} (h : Mid w0 w W g s) (o : Obj) : Mid w0 w (W.alloc o) g s := by
  refine ⟨h.rd.blk ?_, h.low.alloc h.low.size _, keep_alloc h.keep o⟩
  exact (b1 W o).block g h.lt
theorem Mid.drew {w0 w W : World} {g : Nat} {s : RS} (h : Mid w0 w W g s) : Mid w0 w W.drew g s := ⟨h.rd, h.low.drew, h.keep⟩
/-- A store into a new block. -/
theorem Mid.set {w0 w W : World} {g : Nat} {s : RS} (h : Mid w0 w W g s) {b j : Nat} (hb : w.heap.size ≤ b) (hg : g < w.heap.size) (u : Value) : Mid w0 w (W.setCell ⟨b, j, none⟩ u) g s := by
  have := h.base
  refine ⟨h.rd.blk (Below.heap_setCell W ⟨b, j, none⟩ u g (by show g ≠ b; omega)), h.low.setCell (by show w0.heap.size ≤ b; omega) _, keep_far h.keep hb u⟩
/-- A row of the call's own has grown. -/
theorem Mid.grown {w0 w W W' : World} {g : Nat} {s : RS} (h : Mid w0 w W g s) {r : Option Nat} (hr : ∀ k, r = some k → w.heap.size ≤ k) (hg : g < w.heap.size) (hw : W.grownBy W' r) : Mid w0 w W' g s := by
  have hb := h.base
  refine ⟨h.rd.blk (hw.block g h.lt (fun e => by have := hr g e.symm; omega)), h.low.grown hw h.low.size (fun k e => by have := hr k e; omega), ?_⟩
  refine h.keep.trans (KeepBut.of_grown hw g) ?_
  rcases r with _ | k
  · exact .inl rfl
  · exact .inr ⟨k, rfl, hr k rfl⟩
set_option maxHeartbeats 4000000 in
set_option maxRecDepth 100000 in
theorem fread (w0 w : World) (g : Nat) (s : RS) (h : IsR w0 w g s) (hb : Below w0.heap.size w0 w) :
    Calls Try.prog 29 #[.pointer (some ⟨g, 0, none⟩)] w (ReadPost w0 w g (readS s).1 (readS s).2) := by
  have M0 : Hid (Mid w0 w w g s) := Lib.hid ⟨h, hb, KeepBut.refl _ _ _⟩
  have HG := Lib.hid M0.out.lt
  have hbd := countS_bd 4096 s h.bytes
  obtain ⟨n, hn⟩ : ∃ n : Nat, (countS 4096 s).1 = (n : Int) := ⟨(countS 4096 s).1.toNat, by omega⟩
  have hn2 : n ≤ 4096 := by omega
  have HRS : Hid (exsGo n [] (countS 4096 s).2 = readS s) := Lib.hid (by unfold readS; rw [hn]; rfl)
  have HNN := Lib.hid hn
  clear h hb hbd
  go_enter Try.func29, Try.ntmps29
  go_wp2_with fail
  refine (M0.out.call (fun hi hb => ccount w0 w g s 4096 (by omega) hi hb)).mono ?_
  rintro e w1 ⟨rfl, m1, _⟩
  rw [hn]
  clear hn
  generalize (countS 4096 s).2 = s1 at *
  generalize readS s = q at *
  obtain ⟨ql, qs⟩ := q
  simp only
  have M1 := Lib.hid m1
  clear m1 M0 HNN
  go_wp2
  go_loopw [2, 3, 4, 7] (fun r2 r3 _ r7 wr => ∃ (k : Nat) (v : Value) (l : List S80) (s : RS), k ≤ n ∧ l.length ≤ k ∧ r2 = .slice none 0 0 ∧ r3 = v ∧ r7 = .int .i64 k ∧ Hid (Mid w0 w wr g s) ∧ Hid (Kd.R k80 80 wr w.heap.size (fun k => w.heap.size ≤ k) v l) ∧ Hid (exsGo (n - k) l s = (ql, qs)))
    (fun _ _ _ r7 _ => n - (intOf r7).toNat)
  case atStart => exact ⟨0, _, [], s1, by omega, by simp, rfl, rfl, rfl, M1, Lib.hid (Kd.R_nil _ _ _ _ _), HRS⟩
  case round =>
    obtain ⟨k, v, l, s, hk, hl, rfl, rfl, rfl, M2, RO, HE⟩ := hrel
    by_cases hlt : k < n
    rotate_left
    · have hk0 : n - k = 0 := by omega
      have HE2 := HE.out
      rw [hk0] at HE2
      have e0 : (l, s) = (ql, qs) := HE2
      injection e0 with e1 e2
      subst e1 e2
      clear HE2 hk0
      obtain ⟨A, c, rfl, _⟩ := Kd.R_reads RO.out
      go_wp2
      go_ret
      exact ⟨_, rfl, RO.out, M2.out.rd, M2.out.low, M2.out.keep⟩
    obtain ⟨d, hd⟩ : ∃ d, n - k = d + 1 := ⟨n - k - 1, by omega⟩
    have HE2 : Hid ((if (exS s).2.err = 0 then exsGo d (l ++ [(exS s).1]) (exS s).2 else ([], (exS s).2)) = (ql, qs)) := Lib.hid (by
      have h := HE.out
      rw [hd] at h
      exact h)
    have HD : Hid (n - (k + 1) = d) := Lib.hid (by omega)
    clear HE hd
    obtain ⟨AO, cO, rfl, _⟩ := Kd.R_reads RO.out
    go_wp2_with fail
    refine (M2.out.call (fun hi hb => ctext w0 _ g s 32 (by omega) hi hb)).mono ?_
    rintro e w2 ⟨rfl, m3, k3⟩
    have RO2 := Lib.hid (Kd.R_keep RO.out k3 (fun k hk => by have := HG.out; omega))
    have M3 := Lib.hid m3
    clear m3 k3
    go_wp2_with fail
    refine (M3.out.call (fun hi hb => ccount w0 _ g _ 8 (by omega) hi hb)).mono ?_
    rintro e w3 ⟨rfl, m4, k4⟩
    have RO3 := Lib.hid (Kd.R_keep RO2.out k4 (fun k hk => by have := HG.out; omega))
    have M4 := Lib.hid m4
    clear m4 k4
    go_wp2_with fail
    refine (M4.out.call (fun hi hb => ccount w0 _ g _ 4096 (by omega) hi hb)).mono ?_
    rintro e w4 ⟨rfl, m5, k5⟩
    have RO4 := Lib.hid (Kd.R_keep RO3.out k5 (fun k hk => by have := HG.out; omega))
    have M5 := Lib.hid m5
    clear m5 k5
    go_wp2_with fail
    refine (M5.out.call (fun hi hb => cnumber w0 _ g _ hi hb)).mono ?_
    rintro e w5 ⟨rfl, m6, k6⟩
    have RO5 := Lib.hid (Kd.R_keep RO4.out k6 (fun k hk => by have := HG.out; omega))
    have M6 := Lib.hid m6
    clear m6 k6 RO RO2 RO3 RO4 M2 M3 M4 M5
    have hbd := countS_bd 16 (hd4 s) M6.out.rd.bytes
    obtain ⟨np, hnp⟩ : ∃ n : Nat, (countS 16 (hd4 s)).1 = (n : Int) := ⟨(countS 16 (hd4 s)).1.toNat, by omega⟩
    have hnp2 : np ≤ 16 := by omega
    have HX : Hid (exS s = (⟨(textS 32 s).1, (countS 8 (hd1 s)).1, (countS 4096 (hd2 s)).1, (numS (hd3 s)).1, (parsGo np [] (hd5 s)).1⟩, (parsGo np [] (hd5 s)).2)) := Lib.hid (by unfold exS; rw [hnp]; rfl)
    have e1 : (textS 32 s).2 = hd1 s := rfl
    have e2 : (countS 8 (hd1 s)).2 = hd2 s := rfl
    have e3 : (countS 4096 (hd2 s)).2 = hd3 s := rfl
    have e4 : (numS (hd3 s)).2 = hd4 s := rfl
    have e5 : (countS 16 (hd4 s)).2 = hd5 s := rfl
    rw [e1, e2, e3, e4] at M6
    rw [e1, e2, e3]
    clear hbd
    have C5 : Hid (∀ W, Mid w0 w W g (hd4 s) → Calls Try.prog 40 #[.pointer (some ⟨g, 0, none⟩), .int .i64 16] W fun e W' => e = .returned (.int .i64 np) ∧ Mid w0 w W' g (hd5 s) ∧ KeepBut W W' g none) := Lib.hid (fun W hm => by
      have := hm.call (fun hi hb => ccount w0 W g (hd4 s) 16 (by omega) hi hb)
      rwa [hnp, e5] at this)
    generalize (textS 32 s).1 = f0 at *
    generalize (countS 8 (hd1 s)).1 = f1 at *
    generalize (countS 4096 (hd2 s)).1 = f2 at *
    generalize (numS (hd3 s)).1 = f3 at *
    generalize exS s = x at *
    generalize hd5 s = t5 at *
    generalize hd4 s = t4 at *
    clear e1 e2 e3 e4 e5 hnp
    obtain ⟨T, hT⟩ : ∃ T, T = w5.heap.size := ⟨_, rfl⟩
    go_wp2_with fail
    rw [← hT]
    refine (C5.out _ (M6.out.alloc _)).mono ?_
    rintro e w6 ⟨rfl, m7, k7⟩
    have HTG : Hid (w.heap.size ≤ T) := Lib.hid (by have := M6.out.size; omega)
    have HT0 : Hid (w6.heap[T]? = some (.cells #[.string f0, .int .i64 f1, .int .i64 f2, .int .i32 f3, .slice none 0 0] 80 (0, 0))) := Lib.hid (k7.blk (by rw [hT]; exact heap_alloc_new _ _) (by have := HG.out; have := HTG.out; omega) (by simp))
    have RO6 : Hid (Kd.R k80 80 w6 w.heap.size (fun k => w.heap.size ≤ k ∧ k < T) (.slice AO l.length cO) l) := Lib.hid (Kd.R_keep (Kd.R_alloc (Kd.R_mono (Kd.R_bound RO5.out) (fun k hk => ⟨hk.1, by have := hk.2.2.1; omega⟩)) _) k7 (fun k hk => by have := HG.out; omega))
    have M7 := Lib.hid m7
    generalize hy : parsGo np [] t5 = y at HX
    have HY := Lib.hid hy
    obtain ⟨yp, ys⟩ := y
    clear m7 k7 hT RO5 M6 C5 hy
    obtain ⟨wo, rfl⟩ : ∃ wo : World, wo = wr := ⟨_, rfl⟩
    go_wp2
    go_loopw [20] (fun r20 wr => ∃ (j : Nat) (A4 : Option Addr) (c4 : Nat) (ps : List S119) (u : RS), j ≤ np ∧ ps.length ≤ j ∧ r20 = .int .i64 j ∧ Hid (Mid w0 w wr g u) ∧ Hid (wr.heap[T]? = some (.cells #[.string f0, .int .i64 f1, .int .i64 f2, .int .i32 f3, .slice A4 ps.length c4] 80 (0, 0))) ∧ Hid (Kd.R k119 119 wr w.heap.size (fun k => T < k) (.slice A4 ps.length c4) ps) ∧ Hid (Kd.R k80 80 wr w.heap.size (fun k => w.heap.size ≤ k ∧ k < T) (.slice AO l.length cO) l) ∧ Hid (parsGo (np - j) ps u = (yp, ys)))
      (fun r20 _ => np - (intOf r20).toNat)
    case atStart => exact ⟨0, none, 0, [], t5, by omega, by simp, rfl, M7, HT0, Lib.hid (Kd.R_nil _ _ _ _ _), RO6, HY⟩
    case round =>
      obtain ⟨j, A4, c4, ps, u, hj, hps, rfl, M8, HT8, RP, RO8, HPS⟩ := hrel
      clear M7 HT0 RO6 HY
      by_cases hjl : j < np
      · obtain ⟨dj, hdj⟩ : ∃ d, np - j = d + 1 := ⟨np - j - 1, by omega⟩
        have HP2 : Hid (parsGo dj (ps ++ [(parS u).1]) (parS u).2 = (yp, ys)) := Lib.hid (by
          have h := HPS.out
          rw [hdj] at h
          exact h)
        have HDJ : Hid (np - (j + 1) = dj) := Lib.hid (by omega)
        clear HPS hdj
        have c4x := blk_cell HT8.out 4
        simp only [List.getElem?_toArray, List.getElem?_cons_zero, List.getElem?_cons_succ] at c4x
        have HTNG : Hid (T ≠ g) := Lib.hid (by have := HG.out; have := HTG.out; omega)
        have ex : parS u = (⟨(countS 4096 u).1, (countS 1 (countS 4096 u).2).1 == 1⟩, (countS 1 (countS 4096 u).2).2) := rfl
        rw [ex] at HP2
        simp only at HP2
        have CA : Hid (∀ W, Mid w0 w W g u → Calls Try.prog 40 #[.pointer (some ⟨g, 0, none⟩), .int .i64 4096] W fun e W' => e = .returned (.int .i64 (countS 4096 u).1) ∧ Mid w0 w W' g (countS 4096 u).2 ∧ KeepBut W W' g none) := Lib.hid (fun W hm => hm.call (fun hi hb => ccount w0 W g u 4096 (by omega) hi hb))
        have CB : Hid (∀ W, Mid w0 w W g (countS 4096 u).2 → Calls Try.prog 40 #[.pointer (some ⟨g, 0, none⟩), .int .i64 1] W fun e W' => e = .returned (.int .i64 (countS 1 (countS 4096 u).2).1) ∧ Mid w0 w W' g (countS 1 (countS 4096 u).2).2 ∧ KeepBut W W' g none) := Lib.hid (fun W hm => hm.call (fun hi hb => ccount w0 W g _ 1 (by omega) hi hb))
        clear ex
        generalize (countS 1 (countS 4096 u).2).1 = pb at *
        generalize (countS 1 (countS 4096 u).2).2 = u2 at *
        generalize (countS 4096 u).1 = pa at *
        generalize (countS 4096 u).2 = u1 at *
        go_wp2
        go_region_law (first
          | (go_simp; go_at_call_of 40 (Value.int IntKind.i64 4096); refine (CA.out _ (by first | exact M8.out | exact M8.out.drew | exact M8.out.drawn _)).mono ?_; rintro e wa ⟨rfl, ma, ka⟩; have MA := Lib.hid ma; have TA := Lib.hid (ka.blk HT8.out HTNG.out (by simp)); have PA := Lib.hid (Kd.R_keep (w1 := wa) (by first | exact RP.out | exact Kd.R_drew RP.out) ka (fun k hk => by have := HG.out; have := HTG.out; omega)); have OA := Lib.hid (Kd.R_keep (w1 := wa) (by first | exact RO8.out | exact Kd.R_drew RO8.out) ka (fun k hk => by have := HG.out; omega)); have ca := blk_cell TA.out 4; simp only [List.getElem?_toArray, List.getElem?_cons_zero, List.getElem?_cons_succ] at ca; have la := blk_lt TA.out; clear ma ka)
          | (go_simp; go_at_call_of 40 (Value.int IntKind.i64 1); refine (CB.out _ (by first | exact MA.out | exact MA.out.drew | exact MA.out.drawn _)).mono ?_; rintro e wb ⟨rfl, mb, kb⟩; have MB := Lib.hid mb; have TB := Lib.hid (kb.blk TA.out HTNG.out (by simp)); have PB := Lib.hid (Kd.R_keep (w1 := wb) (by first | exact PA.out | exact Kd.R_drew PA.out) kb (fun k hk => by have := HG.out; have := HTG.out; omega)); have OB := Lib.hid (Kd.R_keep (w1 := wb) (by first | exact OA.out | exact Kd.R_drew OA.out) kb (fun k hk => by have := HG.out; omega)); have cb := blk_cell TB.out 4; simp only [List.getElem?_toArray, List.getElem?_cons_zero, List.getElem?_cons_succ] at cb; have lb := blk_lt TB.out; clear mb kb)
          | (refine Kd.R_append_step k119 w.heap.size (by rfl) (.tmp 23) (.tmp 30) 78 119 (.agg #[.int .i64 0, .bool false]) 16 rfl Try.underlying78 info119 rfl (by decide) (by decide) (.slice A4 ps.length c4) ps ⟨pa, pb == 1⟩ [.int .i64 pa, .bool (pb == 1)] (fun k => T < k) (fun _ => False) (by simp [Act.eval]) (by simp [Act.eval]) (k119_mkM _ _ _ ⟨pa, pb == 1⟩) (fun _ h => h.elim) (fun k hk => by have := blk_lt TB.out; omega) PB.out (Below.refl _ _) MB.out.size (by omega) ?_; intro v1 wc hown hbel hgrow hlie; have TC := Lib.hid (blk_grown TB.out hgrow (fun e => by have := PB.out.1 T e.symm; omega)); have MC := Lib.hid (MB.out.grown (fun k e => by have := PB.out.1 k e; have := HTG.out; omega) HG.out hgrow); have OC := Lib.hid (Kd.R_grown OB.out hgrow (fun k hk e => by have := PB.out.1 k e.symm; omega)); have PC := Lib.hid hown; obtain ⟨A5, c5, ev, _⟩ := Kd.R_reads hown; obtain ⟨m5, hm5⟩ : ∃ m, m = (ps ++ [(⟨pa, pb == 1⟩ : S119)]).length := ⟨_, rfl⟩; rw [← hm5] at ev; subst ev; have HM5 := Lib.hid hm5; have cc := blk_cell TC.out 4; simp only [List.getElem?_toArray, List.getElem?_cons_zero, List.getElem?_cons_succ] at cc; have zc := blk_frozen TC.out 4; clear hown hbel hgrow hlie hm5))
        all_goals
          go_wp2
          go_roundw
          case rel =>
            refine ⟨j + 1, A5, c5, ps ++ [⟨pa, pb == 1⟩], u2, by omega, by rw [List.length_append]; simp; omega, by go_num, Lib.hid (MC.out.set HTG.out HG.out _), Lib.hid ?_, Lib.hid ?_, Lib.hid (Kd.R_far OC.out (fun k hk => by show k ≠ T; omega) _), Lib.hid (by rw [HDJ.out]; exact HP2.out)⟩
            · rw [← HM5.out]; exact blk_put TC.out 4 _ rfl
            · rw [← HM5.out]; exact Kd.R_far PC.out (fun k hk => by show k ≠ T; omega) _
          case measure => simp [intOf]; omega
      · have hnj : np - j = 0 := by omega
        have HP2 := HPS.out
        rw [hnj] at HP2
        have e0 : (ps, u) = (yp, ys) := HP2
        injection e0 with e1 e2
        subst e1 e2
        clear HPS HP2 hnj
        have ce : Hid (∀ W, Mid w0 w W g u → Calls Try.prog 31 #[.pointer (some ⟨g, 0, none⟩)] W fun e W' => e = .returned (.int .i64 u.err) ∧ Mid w0 w W' g u ∧ KeepBut W W' g none) := Lib.hid (fun W hm => hm.call (fun hi hb => cerr w0 W g u hi hb))
        have HTNG : Hid (T ≠ g) := Lib.hid (by have := HG.out; have := HTG.out; omega)
        by_cases hue : u.err = 0
        · have HE3 : Hid (exsGo (n - (k + 1)) (l ++ [x.1]) u = (ql, qs)) := Lib.hid (by
            have h := HE2.out
            rw [HX.out] at h
            simp only at h
            rw [if_pos hue] at h
            rw [HD.out, HX.out]
            exact h)
          have hu2 : (u.err != 0) = false := by rw [hue]; rfl
          clear hue
          go_wp2_with fail
          refine (ce.out _ M8.out).mono ?_
          rintro e wd ⟨rfl, md, kd⟩
          have MD := Lib.hid md
          have TD := Lib.hid (kd.blk HT8.out HTNG.out (by simp))
          have PD := Lib.hid (Kd.R_keep RP.out kd (fun k hk => by have := HG.out; have := HTG.out; omega))
          have OD := Lib.hid (Kd.R_keep RO8.out kd (fun k hk => by have := HG.out; omega))
          have LD := blk_lt TD.out
          have q0 := blk_cell TD.out 0
          have q1 := blk_cell TD.out 1
          have q2 := blk_cell TD.out 2
          have q3 := blk_cell TD.out 3
          have q4 := blk_cell TD.out 4
          simp only [List.getElem?_toArray, List.getElem?_cons_zero, List.getElem?_cons_succ] at q0 q1 q2 q3 q4
          have OD' := Lib.hid (Kd.R_mono OD.out (fun k hk => hk.1))
          have hokp : Hid (∀ k, T < k → w.heap.size ≤ k ∧ some k ≠ (Value.slice AO l.length cO).ownBlock) := Lib.hid (fun k hk => ⟨by have := HTG.out; omega, fun e => by have := (OD.out.1 k e.symm).2; omega⟩)
          clear md kd
          go_wp2_with (at_builtin; go_must (refine Kd.R_append k80 w.heap.size rfl _ _ 35 80 (.agg #[.string ⟨#[]⟩, .int .i64 0, .int .i64 0, .int .i32 0, .slice none 0 0]) 64 rfl Try.underlying35 info80 rfl (by decide) (by decide) (.slice AO l.length cO) l ⟨f0, f1, f2, f3, ps⟩ [.string f0, .int .i64 f1, .int .i64 f2, .int .i32 f3, .slice A4 ps.length c4] (fun k => w.heap.size ≤ k) (fun k => T < k) rfl rfl (k80_mkM _ _ _ ⟨f0, f1, f2, f3, ps⟩ PD.out) hokp.out (fun k hk => Nat.le_trans MD.out.size hk) OD'.out (Below.refl _ _) MD.out.size (by omega) ?_; intro v1 we hown hbel hgrow hlie; have ME := Lib.hid (MD.out.grown (fun k e => by have := OD.out.1 k e; omega) HG.out hgrow); have OE := Lib.hid hown; clear hown hbel hgrow hlie))
          go_roundw
          case rel =>
            refine ⟨k + 1, v1, l ++ [⟨f0, f1, f2, f3, ps⟩], u, by omega, by rw [List.length_append]; simp; omega, rfl, rfl, by go_num, ME, OE, Lib.hid ?_⟩
            have h := HE3.out
            rw [HX.out] at h
            exact h
          case measure => simp [intOf]; omega
        · have HE3 : ([], u) = (ql, qs) := by
            have h := HE2.out
            rw [HX.out] at h
            simp only at h
            rwa [if_neg hue] at h
          injection HE3 with e1 e2
          subst e1 e2
          have hu2 : (u.err != 0) = true := bne_iff_ne.2 hue
          clear hue
          go_wp2_with fail
          refine (ce.out _ M8.out).mono ?_
          rintro e wd ⟨rfl, md, kd⟩
          have MD := Lib.hid md
          clear md kd
          go_wp2
          go_ret
          exact ⟨_, rfl, Kd.R_nil _ _ _ _ _, MD.out.rd, MD.out.low, MD.out.keep⟩
end Go.Proofs.Ytehdhmhpmkkneaa
/- Layer 13: the document's Take in plain words; what its calls leave. -/
namespace Go.Proofs.Ytehdhmhpmkkneaa
open Go.RowKit Go.Proofs.YtehdhmhpmkkneaaW.PrintWords Go.Proofs.YtehdhmhpmkkneaaW.PrintMore Go.Proofs.Ytehdhmhpmkkneaa.PAll
/-- The world of Take: the reader's box, the cell of the result. -/
structure Vm (w0 w W : World) (R : Nat) (A : Option Addr) (n c : Nat) (s : RS) : Prop where
  box : W.heap[R]? = some (.cells #[.slice A n c, .int .i64 s.err] 48 (0, 0))
  iv : IsV w0 (.agg #[.slice A n c, .int .i64 s.err]) s
  res : W.heap[R + 1]? = some (.cells #[.slice none 0 0, .int .i64 0] 48 (0, 0))
  low : Below w.heap.size w W
  base : w.heap.size ≤ R
end Go.Proofs.Ytehdhmhpmkkneaa
/- Layer 13: the walk of the document's Take. -/
namespace Go.Proofs.Ytehdhmhpmkkneaa
open Go.RowKit Go.Proofs.YtehdhmhpmkkneaaW.PrintWords Go.Proofs.YtehdhmhpmkkneaaW.PrintMore Go.Proofs.Ytehdhmhpmkkneaa.PAll
end Go.Proofs.Ytehdhmhpmkkneaa
