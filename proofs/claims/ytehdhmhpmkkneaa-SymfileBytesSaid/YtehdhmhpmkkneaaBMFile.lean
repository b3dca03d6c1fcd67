/- The texts Ud, Uc, Ua, Va, Vc, Vd, Ub, Ve, Vf, one behind the other. -/
import Derived.Deep.RegionHeld3
import Derived.Test.YtehdhmhpmkkneaaBMReads
import Derived.Test.YtehdhmhpmkkneaaBMKey
import Derived.Test.YtehdhmhpmkkneaaBMSym2
import Derived.Test.YtehdhmhpmkkneaaBPAlly39
import Derived.Test.YtehdhmhpmkkneaaBPAlly43
import Derived.Test.YtehdhmhpmkkneaaBMSame
/- Layer 12: the walk of the reader's Word, for one reader. -/
namespace Go.Proofs.Ytehdhmhpmkkneaa
open Go.RowKit Go.Proofs.YtehdhmhpmkkneaaW.PrintWords Go.Proofs.Ytehdhmhpmkkneaa.PAll
set_option maxHeartbeats 1000000 in
set_option maxRecDepth 100000 in
theorem cword0 (w0 w : World) (g : Nat) (s : RS) (h : IsR w0 w g s) (hb : Below w0.heap.size w0 w) :
    Calls Try.prog 47 #[.pointer (some ⟨g, 0, none⟩)] w (RPost w0 w g (.int .u32 (wordS s).1) (wordS s).2) := by
  have ok0 := h.bytes
  have bd1 := byteS_bd s ok0
  obtain ⟨q1, hq1⟩ : ∃ q, q = byteS s := ⟨_, rfl⟩
  rw [← hq1] at bd1
  have ok1 := bd1.2.2
  have bd2 := byteS_bd q1.2 ok1
  obtain ⟨q2, hq2⟩ : ∃ q, q = byteS q1.2 := ⟨_, rfl⟩
  rw [← hq2] at bd2
  have ok2 := bd2.2.2
  have bd3 := byteS_bd q2.2 ok2
  obtain ⟨q3, hq3⟩ : ∃ q, q = byteS q2.2 := ⟨_, rfl⟩
  rw [← hq3] at bd3
  have ok3 := bd3.2.2
  have bd4 := byteS_bd q3.2 ok3
  obtain ⟨q4, hq4⟩ : ∃ q, q = byteS q3.2 := ⟨_, rfl⟩
  rw [← hq4] at bd4
  have ok4 := bd4.2.2
  have hS : wordS s = if q4.2.err = 0 then (q1.1 + 256 * q2.1 + 65536 * q3.1 + 16777216 * q4.1, q4.2) else (0, q4.2) := by rw [hq4, hq3, hq2, hq1]; rfl
  rw [hS]
  have HQ1 := Lib.hid hq1
  have HQ2 := Lib.hid hq2
  have HQ3 := Lib.hid hq3
  have HQ4 := Lib.hid hq4
  have HI := Lib.hid h
  have HB := Lib.hid hb
  clear hS hq1 hq2 hq3 hq4 h hb ok0 ok1 ok2 ok3 ok4
  obtain ⟨b1, t1⟩ := q1
  obtain ⟨b2, t2⟩ := q2
  obtain ⟨b3, t3⟩ := q3
  obtain ⟨b4, t4⟩ := q4
  simp only at bd1 bd2 bd3 bd4 HQ2 HQ3 HQ4 ⊢
  have QA1 : Hid ((byteS s).1 = b1) := Lib.hid (by rw [← HQ1.out])
  have QB1 : Hid ((byteS s).2 = t1) := Lib.hid (by rw [← HQ1.out])
  have QA2 : Hid ((byteS t1).1 = b2) := Lib.hid (by rw [← HQ2.out])
  have QB2 : Hid ((byteS t1).2 = t2) := Lib.hid (by rw [← HQ2.out])
  have QA3 : Hid ((byteS t2).1 = b3) := Lib.hid (by rw [← HQ3.out])
  have QB3 : Hid ((byteS t2).2 = t3) := Lib.hid (by rw [← HQ3.out])
  have QA4 : Hid ((byteS t3).1 = b4) := Lib.hid (by rw [← HQ4.out])
  have QB4 : Hid ((byteS t3).2 = t4) := Lib.hid (by rw [← HQ4.out])
  clear HQ1 HQ2 HQ3 HQ4
  obtain ⟨l1, u1, _⟩ := bd1
  obtain ⟨l2, u2, _⟩ := bd2
  obtain ⟨l3, u3, _⟩ := bd3
  obtain ⟨l4, u4, _⟩ := bd4
  have K1 := or_0 b1 l1 u1
  have K2 := or_8 b1 b2 l1 (by omega) l2 u2
  have K3 := or_16 (b1 + 256 * b2) b3 (by omega) (by omega) l3 u3
  have K4 := or_24 (b1 + 256 * b2 + 65536 * b3) b4 (by omega) (by omega) l4 u4
  have e1 : shl .u32 (b1 % 4294967296) 0 = b1 % 4294967296 := by show IntKind.u32.wrap (b1 % 4294967296 * 1) = _; simp [IntKind.wrap, IntKind.bits, IntKind.signed]
  have e2 : shl .u32 (b2 % 4294967296) 8 = b2 % 4294967296 * 256 % 4294967296 := rfl
  have e3 : shl .u32 (b3 % 4294967296) 16 = b3 % 4294967296 * 65536 % 4294967296 := rfl
  have e4 : shl .u32 (b4 % 4294967296) 24 = b4 % 4294967296 * 16777216 % 4294967296 := rfl
  rw [e1] at K1; rw [e2] at K2; rw [e3] at K3; rw [e4] at K4
  have KK : bits .or .u32 (bits .or .u32 (bits .or .u32 (bits .or .u32 0 (b1 % 4294967296)) (b2 % 4294967296 * 256 % 4294967296)) (b3 % 4294967296 * 65536 % 4294967296)) (b4 % 4294967296 * 16777216 % 4294967296) = b1 + 256 * b2 + 65536 * b3 + 16777216 * b4 := by rw [K1, K2, K3, K4]
  clear K1 K2 K3 K4 e1 e2 e3 e4
  clear l1 u1 l2 u2 l3 u3 l4 u4
  have HE : Hid (∀ q : RS, q = q) := Lib.hid (fun _ => rfl)
  by_cases he : t4.err = 0
  · rw [if_pos he]
    have he' : (t4.err != 0) = false := by rw [he]; rfl
    clear he HE
    go_enter Try.func47, Try.ntmps47
    go_wp2
    refine wp_loop_rounds 5 ?_
    rw [rounds_succ]
    go_wp2_with fail
    refine (cbyte w0 _ g _ HI.out HB.out).mono ?_
    rintro e w1 ⟨rfl, r, bl, st⟩
    have B1 := Lib.hid bl
    clear bl
    rw [QB1.out] at r
    rw [QA1.out]
    have R1 := Lib.hid r
    have T1 := Lib.hid st
    clear r st
    go_wp2
    rw [rounds_succ]
    go_wp2_with fail
    refine (cbyte w0 _ g _ R1.out B1.out).mono ?_
    rintro e w2 ⟨rfl, r, bl, st⟩
    have B2 := Lib.hid bl
    clear bl
    rw [QB2.out] at r
    rw [QA2.out]
    have R2 := Lib.hid r
    have T2 := Lib.hid (keep_trans T1.out st)
    clear r st
    go_wp2
    rw [rounds_succ]
    go_wp2_with fail
    refine (cbyte w0 _ g _ R2.out B2.out).mono ?_
    rintro e w3 ⟨rfl, r, bl, st⟩
    have B3 := Lib.hid bl
    clear bl
    rw [QB3.out] at r
    rw [QA3.out]
    have R3 := Lib.hid r
    have T3 := Lib.hid (keep_trans T2.out st)
    clear r st
    go_wp2
    rw [rounds_succ]
    go_wp2_with fail
    refine (cbyte w0 _ g _ R3.out B3.out).mono ?_
    rintro e w4 ⟨rfl, r, bl, st⟩
    have B4 := Lib.hid bl
    clear bl
    rw [QB4.out] at r
    rw [QA4.out]
    have R4 := Lib.hid r
    have T4 := Lib.hid (keep_trans T3.out st)
    clear r st
    go_wp2
    rw [rounds_succ]
    obtain ⟨f0, p0, A0, c0, hblk, _⟩ : ∃ f0 p A c, w4.heap[g]? = some (.cells #[.slice A f0 c, .int .i64 p, .int .i64 t4.err] 123 (0, 0)) ∧ True := by
      obtain ⟨f0, p, A, c, hb, _⟩ := R4.out
      exact ⟨_, _, _, _, hb, trivial⟩
    have hc2 : w4.cell? ⟨g, 2, none⟩ = some (.int .i64 t4.err) := blk_cell hblk 2
    clear hblk
    go_wp2
    go_ret
    refine ⟨?_, R4.out, B4.out, T4.out⟩
    first | rfl | (rw [← KK]; rfl)
  · rw [if_neg he]
    have he' : (t4.err != 0) = true := bne_iff_ne.2 he
    clear he HE
    go_enter Try.func47, Try.ntmps47
    go_wp2
    refine wp_loop_rounds 5 ?_
    rw [rounds_succ]
    go_wp2_with fail
    refine (cbyte w0 _ g _ HI.out HB.out).mono ?_
    rintro e w1 ⟨rfl, r, bl, st⟩
    have B1 := Lib.hid bl
    clear bl
    rw [QB1.out] at r
    rw [QA1.out]
    have R1 := Lib.hid r
    have T1 := Lib.hid st
    clear r st
    go_wp2
    rw [rounds_succ]
    go_wp2_with fail
    refine (cbyte w0 _ g _ R1.out B1.out).mono ?_
    rintro e w2 ⟨rfl, r, bl, st⟩
    have B2 := Lib.hid bl
    clear bl
    rw [QB2.out] at r
    rw [QA2.out]
    have R2 := Lib.hid r
    have T2 := Lib.hid (keep_trans T1.out st)
    clear r st
    go_wp2
    rw [rounds_succ]
    go_wp2_with fail
    refine (cbyte w0 _ g _ R2.out B2.out).mono ?_
    rintro e w3 ⟨rfl, r, bl, st⟩
    have B3 := Lib.hid bl
    clear bl
    rw [QB3.out] at r
    rw [QA3.out]
    have R3 := Lib.hid r
    have T3 := Lib.hid (keep_trans T2.out st)
    clear r st
    go_wp2
    rw [rounds_succ]
    go_wp2_with fail
    refine (cbyte w0 _ g _ R3.out B3.out).mono ?_
    rintro e w4 ⟨rfl, r, bl, st⟩
    have B4 := Lib.hid bl
    clear bl
    rw [QB4.out] at r
    rw [QA4.out]
    have R4 := Lib.hid r
    have T4 := Lib.hid (keep_trans T3.out st)
    clear r st
    go_wp2
    rw [rounds_succ]
    obtain ⟨f0, p0, A0, c0, hblk, _⟩ : ∃ f0 p A c, w4.heap[g]? = some (.cells #[.slice A f0 c, .int .i64 p, .int .i64 t4.err] 123 (0, 0)) ∧ True := by
      obtain ⟨f0, p, A, c, hb, _⟩ := R4.out
      exact ⟨_, _, _, _, hb, trivial⟩
    have hc2 : w4.cell? ⟨g, 2, none⟩ = some (.int .i64 t4.err) := blk_cell hblk 2
    clear hblk
    go_wp2
    go_ret
    refine ⟨?_, R4.out, B4.out, T4.out⟩
    first | rfl | (rw [← KK]; rfl)
end Go.Proofs.Ytehdhmhpmkkneaa
/- Layer 14: what is read as imports, in plain words; the walk of symfile.Read. -/
namespace Go.Proofs.Ytehdhmhpmkkneaa
open Go.RowKit Go.Proofs.YtehdhmhpmkkneaaW.PrintWords Go.Proofs.YtehdhmhpmkkneaaW.PrintMore Go.Proofs.Ytehdhmhpmkkneaa.PAll
/-- One import. -/
def impRd (s : RS) : S93 × RS := (⟨(textS 32 s).1, (wordS (textS 32 s).2).1⟩, (wordS (textS 32 s).2).2)
/-- The code's loop: it gives up where something was wrong. -/
def impsGo : Nat → List S93 → RS → List S93 × RS
  | 0, l, s => (l, s)
  | k + 1, l, s => if (impRd s).2.err = 0 then impsGo k (l ++ [(impRd s).1]) (impRd s).2 else ([], (impRd s).2)
def readI (s : RS) : List S93 × RS := impsGo (countS 64 s).1.toNat [] (countS 64 s).2
theorem info93r : (Try.prog.info? 93).map (fun i => (i.zero, i.size, i.bytes)) = some (some (.agg #[.string ByteArray.empty, .int .u32 0]), 2, 24) := by kernel_rfl
/-- Behind Read: the list lies in new rows; the reader has moved on. -/
def ReadPostI (w0 w : World) (g : Nat) (l : List S93) (s : RS) (e : Ending) (w' : World) : Prop :=
  ∃ v, e = .returned v ∧ Kd.R k93 93 w' w.heap.size (fun k => w.heap.size ≤ k) v l ∧ IsR w0 w' g s ∧ Below w0.heap.size w0 w' ∧ KeepBut w w' g none
set_option maxHeartbeats 4000000 in
set_option maxRecDepth 100000 in
theorem sread (w0 w : World) (g : Nat) (s : RS) (h : IsR w0 w g s) (hb : Below w0.heap.size w0 w) :
    Calls Try.prog 64 #[.pointer (some ⟨g, 0, none⟩)] w (ReadPostI w0 w g (readI s).1 (readI s).2) := by
  have M0 : Hid (Mid w0 w w g s) := Lib.hid ⟨h, hb, KeepBut.refl _ _ _⟩
  have HG := Lib.hid M0.out.lt
  have hbd := countS_bd 64 s h.bytes
  obtain ⟨n, hn⟩ : ∃ n : Nat, (countS 64 s).1 = (n : Int) := ⟨(countS 64 s).1.toNat, by omega⟩
  have hn2 : n ≤ 64 := by omega
  have HRS : Hid (impsGo n [] (countS 64 s).2 = readI s) := Lib.hid (by unfold readI; rw [hn]; rfl)
  have HNN := Lib.hid hn
  clear h hb hbd
  go_enter Try.func64, Try.ntmps64
  go_wp2_with fail
  refine (M0.out.call (fun hi hb => ccount w0 w g s 64 (by omega) hi hb)).mono ?_
  rintro e w1 ⟨rfl, m1, _⟩
  rw [hn]
  clear hn
  generalize (countS 64 s).2 = s1 at *
  generalize readI s = q at *
  obtain ⟨ql, qs⟩ := q
  simp only
  have M1 := Lib.hid m1
  clear m1 M0 HNN
  go_wp2
  go_loopw [2, 3, 7] (fun r2 r3 r7 wr => ∃ (k : Nat) (v : Value) (l : List S93) (s : RS), k ≤ n ∧ l.length ≤ k ∧ r2 = .slice none 0 0 ∧ r3 = v ∧ r7 = .int .i64 k ∧ Hid (Mid w0 w wr g s) ∧ Hid (Kd.R k93 93 wr w.heap.size (fun k => w.heap.size ≤ k) v l) ∧ Hid (impsGo (n - k) l s = (ql, qs)))
    (fun _ _ r7 _ => n - (intOf r7).toNat)
  case atStart => exact ⟨0, _, [], s1, by omega, by simp, rfl, rfl, rfl, M1, Lib.hid (Kd.R_nil _ _ _ _ _), HRS⟩
  case round =>
    obtain ⟨k, v, l, s, hk, hl, rfl, rfl, rfl, M2, RO, HE⟩ := hrel
    by_cases hlt : k < n
    rotate_left
    · have hk0 : n - k = 0 := by omega
      have HE2 := HE.out
      rw [hk0] at HE2
      have e0 : (l, s) = (ql, qs) := HE2
      injection e0 with e1 e2
      subst e1 e2
      clear HE2 hk0
      obtain ⟨A, c, rfl, _⟩ := Kd.R_reads RO.out
      go_wp2
      go_ret
      exact ⟨_, rfl, RO.out, M2.out.rd, M2.out.low, M2.out.keep⟩
    obtain ⟨d, hd⟩ : ∃ d, n - k = d + 1 := ⟨n - k - 1, by omega⟩
    have HE2 : Hid ((if (impRd s).2.err = 0 then impsGo d (l ++ [(impRd s).1]) (impRd s).2 else ([], (impRd s).2)) = (ql, qs)) := Lib.hid (by
      have h := HE.out
      rw [hd] at h
      exact h)
    have HD : Hid (n - (k + 1) = d) := Lib.hid (by omega)
    have HX : Hid (impRd s = (⟨(textS 32 s).1, (wordS (textS 32 s).2).1⟩, (wordS (textS 32 s).2).2)) := Lib.hid rfl
    clear HE hd
    obtain ⟨AO, cO, rfl, _⟩ := Kd.R_reads RO.out
    go_wp2_with fail
    refine (M2.out.call (fun hi hb => ctext w0 _ g s 32 (by omega) hi hb)).mono ?_
    rintro e w2 ⟨rfl, m3, k3⟩
    have RO2 := Lib.hid (Kd.R_keep RO.out k3 (fun k hk => by have := HG.out; omega))
    have M3 := Lib.hid m3
    clear m3 k3
    generalize (textS 32 s).1 = f0 at *
    generalize (textS 32 s).2 = t1 at *
    obtain ⟨T, hT⟩ : ∃ T, T = w2.heap.size := ⟨_, rfl⟩
    have HTG : Hid (w.heap.size ≤ T) := Lib.hid (by rw [hT]; exact M3.out.size)
    have TT : Hid ((w2.alloc (.cells #[.string f0, .int .u32 0] 93)).heap[T]? = some (.cells #[.string f0, .int .u32 0] 93 (0, 0))) := Lib.hid (by rw [hT]; exact heap_alloc_new _ _)
    have M4 := Lib.hid (M3.out.alloc (.cells #[.string f0, .int .u32 0] 93))
    have RO3 : Hid (Kd.R k93 93 (w2.alloc (.cells #[.string f0, .int .u32 0] 93)) w.heap.size (fun x => w.heap.size ≤ x ∧ x < T) (.slice AO l.length cO) l) := Lib.hid (Kd.R_alloc (Kd.R_mono (Kd.R_bound RO2.out) (fun x hx => ⟨hx.1, by have := hx.2.2.1; omega⟩)) _)
    go_wp2_with fail
    rw [← hT]
    clear hT
    refine (M4.out.call (fun hi hb => cword0 w0 _ g t1 hi hb)).mono ?_
    rintro e w3 ⟨rfl, m5, k5⟩
    have HTNG : Hid (T ≠ g) := Lib.hid (by have := HG.out; have := HTG.out; omega)
    have TT5 := Lib.hid (k5.blk TT.out HTNG.out (by simp))
    have RO5 := Lib.hid (Kd.R_keep RO3.out k5 (fun k hk => by have := HG.out; omega))
    have M5 := Lib.hid m5
    clear m5 k5
    generalize (wordS t1).1 = f1 at *
    generalize (wordS t1).2 = u at *
    have q1 := blk_cell TT5.out 1
    have z1 := blk_frozen TT5.out 1
    simp only [List.getElem?_toArray, List.getElem?_cons_zero, List.getElem?_cons_succ] at q1
    have M6 := Lib.hid (M5.out.set (j := 1) HTG.out HG.out (.int .u32 f1))
    have TT6 := Lib.hid (blk_put TT5.out 1 (.int .u32 f1) (cs' := #[.string f0, .int .u32 f1]) rfl)
    have RO6 := Lib.hid (Kd.R_far (p := ⟨T, 1, none⟩) RO5.out (fun x hx => by show x ≠ T; omega) (.int .u32 f1))
    clear M4 M5 TT TT5 RO2 RO3 RO5 M2 M3
    have ce : Hid (∀ W, Mid w0 w W g u → Calls Try.prog 31 #[.pointer (some ⟨g, 0, none⟩)] W fun e W' => e = .returned (.int .i64 u.err) ∧ Mid w0 w W' g u ∧ KeepBut W W' g none) := Lib.hid (fun W hm => hm.call (fun hi hb => cerr w0 W g u hi hb))
    go_wp2_with fail
    refine (ce.out _ M6.out).mono ?_
    rintro e wd ⟨rfl, md, kd⟩
    have MD := Lib.hid md
    have TD := Lib.hid (kd.blk TT6.out HTNG.out (by simp))
    have OD := Lib.hid (Kd.R_keep RO6.out kd (fun k hk => by have := HG.out; omega))
    clear md kd q1 z1 M6 TT6 RO6
    by_cases hue : u.err = 0
    · have HE3 : Hid (impsGo (n - (k + 1)) (l ++ [⟨f0, f1⟩]) u = (ql, qs)) := Lib.hid (by
        have h := HE2.out
        rw [HX.out] at h
        simp only at h
        rw [if_pos hue] at h
        rw [HD.out]
        exact h)
      have hu2 : (u.err != 0) = false := by rw [hue]; rfl
      clear hue
      have LD := blk_lt TD.out
      have q0 := blk_cell TD.out 0
      have q1 := blk_cell TD.out 1
      simp only [List.getElem?_toArray, List.getElem?_cons_zero, List.getElem?_cons_succ] at q0 q1
      have OD' := Lib.hid (Kd.R_mono OD.out (fun k hk => hk.1))
      go_wp2_with (at_builtin; go_must (refine Kd.R_append k93 w.heap.size rfl _ _ 55 93 (.agg #[.string ByteArray.empty, .int .u32 0]) 24 rfl Try.underlying55 info93r rfl (by decide) (by decide) (.slice AO l.length cO) l ⟨f0, f1⟩ [.string f0, .int .u32 f1] (fun k => w.heap.size ≤ k) (fun _ => False) rfl rfl (k93_mkM _ _ _ ⟨f0, f1⟩) (fun _ h => h.elim) (fun k hk => Nat.le_trans MD.out.size hk) OD'.out (Below.refl _ _) MD.out.size (by omega) ?_; intro v1 we hown hbel hgrow hlie; have ME := Lib.hid (MD.out.grown (fun k e => by have := OD.out.1 k e; omega) HG.out hgrow); have OE := Lib.hid hown; clear hown hbel hgrow hlie))
      go_roundw
      case rel =>
        refine ⟨k + 1, v1, l ++ [⟨f0, f1⟩], u, by omega, by rw [List.length_append]; simp; omega, rfl, rfl, by go_num, ?_, ?_, HE3⟩
        · exact ME
        · exact OE
      case measure => simp [intOf]; omega
    · have HE3 : ([], u) = (ql, qs) := by
        have h := HE2.out
        rw [HX.out] at h
        simp only at h
        rwa [if_neg hue] at h
      injection HE3 with e1 e2
      subst e1 e2
      have hu2 : (u.err != 0) = true := bne_iff_ne.2 hue
      clear hue
      go_wp2
      go_ret
      exact ⟨_, rfl, Kd.R_nil _ _ _ _ _, MD.out.rd, MD.out.low, MD.out.keep⟩
end Go.Proofs.Ytehdhmhpmkkneaa
/- Layer 14: the walk of symfile.Write. -/
namespace Go.Proofs.Ytehdhmhpmkkneaa
open Go.RowKit Go.Proofs.YtehdhmhpmkkneaaW.PrintWords Go.Proofs.Ytehdhmhpmkkneaa.PAll
/-- An import's bytes. -/
def impB (x : S93) : List Int := (cnt x.f0.size ++ bytesOf x.f0) ++ wrd x.f1
/-- .. and of a list. -/
def impsB (l : List S93) : List Int := cnt l.length ++ l.flatMap impB
/-- An element of a row of imports. -/
theorem row93u {w : World} {A : Option Addr} {xs : List S93} (h : Kd.C k93 w A xs.length xs) (k : Nat) (hk : k < xs.length) :
    ∃ b off, A = some ⟨b, off, none⟩ ∧ b < w.heap.size ∧ w.cell? ⟨b, off + k * 2, none⟩ = some (.string xs[k].f0) ∧ w.cell? ⟨b, off + k * 2 + 1, none⟩ = some (.int .u32 xs[k].f1) := by
  obtain ⟨ad, rfl, d0, _⟩ := at_T93 h (0 : Int) (by omega) (by omega)
  obtain ⟨b, off, rfl⟩ := plain_of d0
  obtain ⟨ad, e0, c0, c1⟩ := at_T93 h (k : Int) (by omega) (by omega)
  injection e0 with e0
  subst e0
  simp only [Int.toNat_natCast] at c0 c1
  rw [plain_add] at c0 c1
  have ex : rd_T93 xs (k : Int) = xs[k] := by simp [rd_T93, hk]
  rw [ex] at c0 c1
  exact ⟨b, off, rfl, World.block_lt_of_cell? _ _ c0, c0, c1⟩
set_option maxHeartbeats 1000000 in
set_option maxRecDepth 100000 in
theorem swrite (w0 : World) (g : Nat) (v : Value) (xs : List Int) (l : List S93) (A : Option Addr) (c : Nat) (w : World) (h : Wr w0.heap.size w g v xs) (hb : Below w0.heap.size w0 w) (hr : Kd.C k93 w0 A l.length l) (hok : ∀ x ∈ l, Ok93 x)
    (hT : xs.length + (impsB l).length ≤ 1000000000) :
    Calls Try.prog 62 #[.pointer (some ⟨g, 0, none⟩), .slice A l.length c] w fun e w' => e = .returned (.tuple #[]) ∧ ∃ v', Wr w0.heap.size w' g v' (xs ++ impsB l) ∧ Mv w w' g v v' := by
  have HW := Lib.hid h
  have HB0 := Lib.hid hb
  have HR := Lib.hid hr
  have OK := Lib.hid hok
  have hl63 : l.length ≤ 9223372036854775807 := hr.2.1
  have HX : Hid (xs.length + (cnt l.length).length + (l.flatMap impB).length ≤ 1000000000) := Lib.hid (by unfold impsB at hT; rw [List.length_append] at hT; omega)
  clear h hb hr hok hT
  go_enter Try.func62, Try.ntmps62
  go_wp2_with fail
  refine (wcount w0.heap.size g v xs l.length _ HW.out (by have := HX.out; omega) hl63).mono ?_
  rintro e w1 ⟨rfl, v1, h1, m1⟩
  have H1 := Lib.hid h1
  have M1 := Lib.hid m1
  clear h1 m1
  have HBB : ∀ (w2 : World) (v2 : Value), Mv w w2 g v v2 → Below w0.heap.size w0 w2 := fun _ _ m => m.below HB0.out HB0.out.size HW.out.2.1 HW.out.base
  have BB := Lib.hid HBB
  clear HBB
  go_wp2
  go_loopw [12] (fun r12 wr => ∃ (k : Nat) (u : Value), k ≤ l.length ∧ r12 = .int .i64 k ∧ Hid (Wr w0.heap.size wr g u (xs ++ cnt l.length ++ (l.take k).flatMap impB)) ∧ Hid (Mv w wr g v u)) (fun r12 _ => l.length - (intOf r12).toNat)
  case atStart => exact ⟨0, v1, by omega, rfl, Lib.hid (by rw [List.take_zero, List.flatMap_nil, List.append_nil]; exact H1.out), M1⟩
  case round =>
    obtain ⟨k, u, hk, rfl, H2, M2⟩ := hrel
    by_cases hlt : k < l.length
    rotate_left
    · go_wp2
      go_end0
      refine ⟨rfl, u, ?_, M2.out⟩
      have h2 := H2.out
      rw [List.take_of_length_le (by omega), List.append_assoc] at h2
      exact h2
    obtain ⟨b, off, rfl, hbl, x0, x1⟩ := row93u HR.out k hlt
    have bw := Lib.hid (BB.out _ _ M2.out)
    have q0 := cell_old bw.out hbl x0
    have q1 := cell_old bw.out hbl x1
    have okx := OK.out l[k] (List.getElem_mem hlt)
    have FT := Lib.hid (flat_take impB l k hlt)
    have FS := Lib.hid (flat_snoc impB l k hlt)
    generalize l[k] = x at *
    obtain ⟨f0, f1⟩ := x
    simp only at q0 q1
    obtain ⟨o0, o1⟩ := okx
    simp only at o0 o1
    have O1 := Lib.hid (bdu32 o1)
    obtain ⟨ys, Y⟩ : ∃ ys, Hid (ys = xs ++ cnt l.length ++ (l.take k).flatMap impB) := ⟨_, Lib.hid rfl⟩
    have HY : Hid (ys.length + ((cnt f0.size).length + f0.size + 4) ≤ 1000000000) := Lib.hid (by
      rw [Y.out]
      have h1 := FT.out
      have h2 := HX.out
      have h3 : (impB ⟨f0, f1⟩).length = (cnt f0.size).length + f0.size + 4 := by
        show ((cnt f0.size ++ bytesOf f0) ++ wrd f1).length = _
        rw [List.length_append, List.length_append, bytesOf_length]
        rfl
      simp only [List.length_append] at *
      omega)
    rw [← Y.out] at H2
    have ba : Below wr.heap.size wr (wr.alloc (.cells #[.string f0, .int .u32 f1] 93)) := (Below.refl _ _).alloc (Nat.le_refl _) _
    have H3 := Lib.hid (H2.out.below ba)
    have M3 := Lib.hid (Mv.of_below ba g u)
    have K3 := Lib.hid (heap_alloc_new wr (.cells #[.string f0, .int .u32 f1] 93))
    have NG := Lib.hid (new_ne H2.out).1
    have E3 := Lib.hid (new_ne H2.out).2
    clear ba x0 x1 o0 o1
    go_wp2_with fail
    refine (wtext w0.heap.size g u ys f0 _ H3.out (by have := HY.out; omega) (by have := HY.out; omega)).mono ?_
    rintro e w4 ⟨rfl, v4, h4, m4⟩
    have K4 := Lib.hid (blk_mv m4 K3.out NG.out E3.out)
    have H4 := Lib.hid h4
    have M4 := Lib.hid m4
    clear h4 m4
    have c4 := blk_cell K4.out 1
    simp only [List.getElem?_toArray, List.getElem?_cons_succ, List.getElem?_cons_zero] at c4
    go_wp2_with fail
    refine (wword w0.heap.size g v4 _ f1 _ H4.out (by have := HY.out; simp only [List.length_append, bytesOf_length]; omega) O1.out.1 O1.out.2).mono ?_
    rintro e w5 ⟨rfl, v5, h5, m5⟩
    have H5 := Lib.hid h5
    have M5 := Lib.hid m5
    clear h5 m5
    go_wp2
    go_roundw
    case rel =>
      refine ⟨k + 1, v5, by omega, by go_num, Lib.hid ?_, Lib.hid (M2.out.trans (M3.out.trans (M4.out.trans M5.out)))⟩
      have h := H5.out
      rw [FS.out]
      have e : impB ⟨f0, f1⟩ = (cnt f0.size ++ bytesOf f0) ++ wrd f1 := rfl
      rw [e]
      rw [Y.out] at h
      simp only [List.append_assoc] at h ⊢
      exact h
    case measure => simp [intOf]; omega
end Go.Proofs.Ytehdhmhpmkkneaa
/- What is read of what was written is what it was: plain laws. -/
namespace Go.Proofs.Ytehdhmhpmkkneaa
open Go.RowKit Go.Proofs.YtehdhmhpmkkneaaW.PrintWords Go.Proofs.YtehdhmhpmkkneaaW.PrintMore Go.Proofs.Ytehdhmhpmkkneaa.PAll
theorem cntGo_cnt : ∀ (d m j : Nat) (n : Int) (rest : List Int), m < 128 ^ d → j + d ≤ 9 → (0 < j → 0 < m) → cntGo (cnt m ++ rest) j n = (n + (m : Int) * 2 ^ (7 * j), ⟨rest, 0⟩)
  | 0, m, j, n, rest, hm, hj, h0 => by
    have : m = 0 := by simpa using hm
    subst this
    by_cases hj0 : 0 < j
    · exact absurd (h0 hj0) (by omega)
    · obtain rfl : j = 0 := by omega
      rw [cnt_low (by omega)]
      simp [cntGo]
  | d + 1, m, j, n, rest, hm, hj, h0 => by
    by_cases hl : m < 128
    · rw [cnt_low hl]
      have h1 : ¬ (j = 9 ∨ (0 < j ∧ (m : Int) = 0)) := by rintro (h | ⟨h, e⟩); omega; have := h0 h; omega
      have h2 : (m : Int) < 128 := by omega
      have h3 : (m : Int) % 128 = m := by omega
      simp only [List.cons_append, List.nil_append, cntGo, if_neg h1, if_pos h2, h3]
    · rw [cnt_high hl]
      have h1 : ¬ (j = 9 ∨ (0 < j ∧ ((m % 128 + 128 : Nat) : Int) = 0)) := by rintro (h | ⟨h, e⟩) <;> omega
      have h2 : ¬ ((m % 128 + 128 : Nat) : Int) < 128 := by omega
      have h3 : ((m % 128 + 128 : Nat) : Int) % 128 = ((m % 128 : Nat) : Int) := by omega
      simp only [List.cons_append, cntGo, if_neg h1, if_neg h2, h3]
      rw [cntGo_cnt d (m / 128) (j + 1) _ rest (by rw [Nat.pow_succ] at hm; omega) (by omega) (fun _ => by omega)]
      congr 1
      rw [show 7 * (j + 1) = 7 * j + 7 by omega, Int.pow_add]
      have e : (m : Int) = ((m % 128 : Nat) : Int) + 128 * ((m / 128 : Nat) : Int) := by omega
      generalize (2 : Int) ^ (7 * j) = p
      rw [show ((m : Int) * p) = (((m % 128 : Nat) : Int) + 128 * ((m / 128 : Nat) : Int)) * p by rw [← e]]
      generalize ((m % 128 : Nat) : Int) = a
      generalize ((m / 128 : Nat) : Int) = b
      rw [Int.add_mul]
      have : 128 * b * p = b * (p * 2 ^ 7) := by
        rw [Int.mul_comm p, ← Int.mul_assoc, Int.mul_comm 128]; rfl
      omega
theorem countS_cnt (m : Int) (k : Nat) (rest : List Int) (hk : k ≤ 9223372036854775807) (hm : (k : Int) ≤ m) : countS m ⟨cnt k ++ rest, 0⟩ = ((k : Int), ⟨rest, 0⟩) := by
  have h := cntGo_cnt 9 k 0 0 rest (by omega) (by omega) (by omega)
  simp only [Nat.mul_zero, Int.pow_zero, Int.mul_one, Int.zero_add] at h
  unfold countS
  rw [if_pos rfl]
  simp only [h]
  unfold fin
  rw [if_pos rfl, if_neg (by simp only; omega)]
theorem numS_cnt (v : Int) (rest : List Int) (h0 : -2147483648 ≤ v) (h1 : v ≤ 2147483647) : numS ⟨cnt (sgn v) ++ rest, 0⟩ = (v, ⟨rest, 0⟩) := by
  have hs : sgn v ≤ 4294967295 := by unfold sgn; split <;> omega
  unfold numS
  rw [countS_cnt 4294967295 (sgn v) rest (by omega) (by omega)]
  congr 1
  simp only
  unfold sgn
  split <;> split <;> omega
theorem wordS_wrd (v : Int) (rest : List Int) : wordS ⟨wrd v ++ rest, 0⟩ = (v, ⟨rest, 0⟩) := by
  show (v % 256 + 256 * (v / 256 % 256) + 65536 * (v / 65536 % 256) + 16777216 * (v / 16777216), (⟨rest, 0⟩ : RS)) = _
  congr 1
  omega
theorem strOfNums_back (t : ByteArray) : strOfNums (bytesOf t) = t := by
  have : bytesOf t = t.data.toList.map fun x => (x.toNat : Int) := rfl
  rw [this]
  obtain ⟨⟨l⟩⟩ := t
  simp [strOfNums, Function.comp_def]
theorem textS_put' (m : Int) (s : ByteArray) (rest : List Int) (hs : s.size ≤ 9223372036854775807) (hm : (s.size : Int) ≤ m) : textS m ⟨cnt s.size ++ bytesOf s ++ rest, 0⟩ = (s, ⟨rest, 0⟩) := by
  have hl := bytesOf_length s
  unfold textS
  rw [List.append_assoc, countS_cnt m s.size _ hs hm]
  simp only
  rw [if_pos trivial, if_neg (by rw [List.length_append, hl]; omega), Int.toNat_natCast, ← hl, List.take_left, List.drop_left]
  congr 1
  exact strOfNums_back s
theorem impRd_put (x : S93) (rest : List Int) (h : x.f0.size ≤ 32) : impRd ⟨impB x ++ rest, 0⟩ = (x, ⟨rest, 0⟩) := by
  have ht := textS_put' 32 x.f0 (wrd x.f1 ++ rest) (by omega) (by omega)
  unfold impRd impB
  rw [List.append_assoc _ (wrd x.f1) rest, ht, wordS_wrd]
theorem impsGo_put : ∀ (l acc : List S93) (rest : List Int), (∀ x ∈ l, x.f0.size ≤ 32) → impsGo l.length acc ⟨l.flatMap impB ++ rest, 0⟩ = (acc ++ l, ⟨rest, 0⟩)
  | [], acc, rest, _ => by
    rw [List.append_nil]
    rfl
  | x :: r, acc, rest, h => by
    rw [List.flatMap_cons, List.append_assoc, List.length_cons, impsGo, impRd_put x _ (h x (List.mem_cons_self ..)), if_pos rfl, impsGo_put r _ rest (fun y hy => h y (List.mem_cons_of_mem _ hy)), List.append_assoc]
    rfl
theorem readI_put (l : List S93) (rest : List Int) (hl : l.length ≤ 64) (h : ∀ x ∈ l, x.f0.size ≤ 32) : readI ⟨impsB l ++ rest, 0⟩ = (l, ⟨rest, 0⟩) := by
  unfold readI impsB
  rw [List.append_assoc, countS_cnt 64 l.length _ (by omega) (by omega)]
  have e : ((l.length : Int)).toNat = l.length := by omega
  simp only [e]
  rw [impsGo_put l [] rest h, List.nil_append]
/-- A parameter that may be. -/
theorem parS_put (p : S119) (rest : List Int) (h0 : 0 ≤ p.f0) (h1 : p.f0 ≤ 4096) : parS ⟨parB p ++ rest, 0⟩ = (p, ⟨rest, 0⟩) := by
  obtain ⟨a, b⟩ := p
  simp only at h0 h1
  unfold parS parB
  simp only
  rw [List.append_assoc, countS_cnt 4096 a.toNat _ (by omega) (by omega)]
  simp only
  have ea : ((a.toNat : Nat) : Int) = a := by omega
  cases b
  · simp only [Bool.false_eq_true, if_false]
    rw [countS_cnt 1 0 rest (by omega) (by omega), ea]
    rfl
  · simp only [if_true]
    rw [countS_cnt 1 1 rest (by omega) (by omega), ea]
    rfl
theorem parsGo_put : ∀ (l acc : List S119) (rest : List Int), (∀ p ∈ l, 0 ≤ p.f0 ∧ p.f0 ≤ 4096) → parsGo l.length acc ⟨l.flatMap parB ++ rest, 0⟩ = (acc ++ l, ⟨rest, 0⟩)
  | [], acc, rest, _ => by
    rw [List.append_nil]
    rfl
  | x :: r, acc, rest, h => by
    have hx := h x (List.mem_cons_self ..)
    rw [List.flatMap_cons, List.append_assoc, List.length_cons, parsGo, parS_put x _ hx.1 hx.2, parsGo_put r _ rest (fun y hy => h y (List.mem_cons_of_mem _ hy)), List.append_assoc]
    rfl
/-- An export that may be read. -/
def Fits80 (x : S80) : Prop := x.f0.size ≤ 32 ∧ (0 ≤ x.f1 ∧ x.f1 ≤ 8) ∧ (0 ≤ x.f2 ∧ x.f2 ≤ 4096) ∧ (-2147483648 ≤ x.f3 ∧ x.f3 ≤ 2147483647) ∧ x.f4.length ≤ 16 ∧ ∀ p ∈ x.f4, 0 ≤ p.f0 ∧ p.f0 ≤ 4096
theorem exS_put (x : S80) (rest : List Int) (h : Fits80 x) : exS ⟨expB x ++ rest, 0⟩ = (x, ⟨rest, 0⟩) := by
  obtain ⟨f0, f1, f2, f3, f4⟩ := x
  obtain ⟨h0, h1, h2, h3, h4, h5⟩ := h
  simp only at h0 h1 h2 h3 h4 h5
  have e1 : ((f1.toNat : Nat) : Int) = f1 := by omega
  have e2 : ((f2.toNat : Nat) : Int) = f2 := by omega
  have s0 : textS 32 ⟨expB ⟨f0, f1, f2, f3, f4⟩ ++ rest, 0⟩ = (f0, ⟨cnt f1.toNat ++ (cnt f2.toNat ++ (cnt (sgn f3) ++ (cnt f4.length ++ (f4.flatMap parB ++ rest)))), 0⟩) := by
    have := textS_put' 32 f0 (cnt f1.toNat ++ (cnt f2.toNat ++ (cnt (sgn f3) ++ (cnt f4.length ++ (f4.flatMap parB ++ rest))))) (by omega) (by omega)
    rw [← this]
    unfold expB headB
    simp only [List.append_assoc]
  have s1 := countS_cnt 8 f1.toNat (cnt f2.toNat ++ (cnt (sgn f3) ++ (cnt f4.length ++ (f4.flatMap parB ++ rest)))) (by omega) (by omega)
  have s2 := countS_cnt 4096 f2.toNat (cnt (sgn f3) ++ (cnt f4.length ++ (f4.flatMap parB ++ rest))) (by omega) (by omega)
  have s3 := numS_cnt f3 (cnt f4.length ++ (f4.flatMap parB ++ rest)) h3.1 h3.2
  have s4 := countS_cnt 16 f4.length (f4.flatMap parB ++ rest) (by omega) (by omega)
  have e4 : ((f4.length : Int)).toNat = f4.length := by omega
  unfold exS hd5 hd4 hd3 hd2 hd1
  rw [s0]
  simp only
  rw [s1]
  simp only
  rw [s2]
  simp only
  rw [s3]
  simp only
  rw [s4]
  simp only
  rw [e4, parsGo_put f4 [] rest h5, e1, e2, List.nil_append]
theorem exsGo_put : ∀ (l acc : List S80) (rest : List Int), (∀ x ∈ l, Fits80 x) → exsGo l.length acc ⟨l.flatMap expB ++ rest, 0⟩ = (acc ++ l, ⟨rest, 0⟩)
  | [], acc, rest, _ => by
    rw [List.append_nil]
    rfl
  | x :: r, acc, rest, h => by
    rw [List.flatMap_cons, List.append_assoc, List.length_cons, exsGo, exS_put x _ (h x (List.mem_cons_self ..)), if_pos rfl, exsGo_put r _ rest (fun y hy => h y (List.mem_cons_of_mem _ hy)), List.append_assoc]
    rfl
theorem readS_put (l : List S80) (rest : List Int) (hl : l.length ≤ 4096) (h : ∀ x ∈ l, Fits80 x) : readS ⟨expsB l ++ rest, 0⟩ = (l, ⟨rest, 0⟩) := by
  unfold readS expsB
  rw [List.append_assoc, countS_cnt 4096 l.length _ (by omega) (by omega)]
  have e : ((l.length : Int)).toNat = l.length := by omega
  simp only [e]
  rw [exsGo_put l [] rest h, List.nil_append]
/-! ### what may be, may be read -/
theorem impS_fits : ∀ (l : List S93) (seen : List (List UInt8)), impS seen l = 0 → ∀ x ∈ l, x.f0.size ≤ 32
  | [], _, _, x, hx => by cases hx
  | y :: r, seen, h, x, hx => by
    unfold impS at h
    by_cases hb : nameB y.f0 = true
    · rw [if_pos hb] at h
      by_cases hc : seen.contains y.f0.data.toList = true
      · rw [if_pos hc] at h; cases h
      · rw [if_neg hc] at h
        rcases List.mem_cons.1 hx with rfl | hx
        · exact nameB_size hb
        · exact impS_fits r _ h x hx
    · rw [if_neg hb] at h; cases h
theorem mayS_fits (x : S80) (ok : Ok80 x) (h : mayS x = 0) : Fits80 x := by
  have b3 := bd32 ok.2.2.2.1
  unfold mayS at h
  by_cases hb : nameB x.f0 = true
  rotate_left
  · rw [if_neg hb] at h; cases h
  rw [if_pos hb] at h
  have ht : okS x = true := by
    cases ho : okS x
    · rw [ho] at h; unfold tailS at h; rw [if_neg (by decide)] at h; cases h
    · rfl
  have hbas : ∀ n : Int, basB n = true → 1 ≤ n ∧ n ≤ 3 := fun n hn => of_decide_eq_true hn
  refine ⟨nameB_size hb, ?_⟩
  unfold okS at ht
  by_cases k1 : x.f1 = 1 ∨ x.f1 = 3
  · rw [if_pos k1, Bool.and_eq_true] at ht
    have h2 := hbas _ ht.1
    have hl : x.f4.length = 0 := of_decide_eq_true ht.2
    exact ⟨by omega, by omega, b3, by omega, fun p hp => by rw [List.eq_nil_of_length_eq_zero hl] at hp; cases hp⟩
  rw [if_neg k1] at ht
  by_cases k7 : x.f1 = 7
  · rw [if_pos k7, Bool.and_eq_true] at ht
    have h2 : x.f2 = 0 := of_decide_eq_true ht.1
    have hl : x.f4.length = 0 := of_decide_eq_true ht.2
    exact ⟨by omega, by omega, b3, by omega, fun p hp => by rw [List.eq_nil_of_length_eq_zero hl] at hp; cases hp⟩
  rw [if_neg k7] at ht
  by_cases k6 : x.f1 = 6
  · rw [if_pos k6, Bool.and_eq_true, Bool.and_eq_true] at ht
    have h2 := of_decide_eq_true ht.1
    have hl : x.f4.length ≤ 16 := of_decide_eq_true ht.2.1
    exact ⟨by omega, by omega, b3, hl, fun p hp => by
      have := hbas _ (List.all_eq_true.1 ht.2.2 p hp)
      omega⟩
  · rw [if_neg k6] at ht; cases ht
theorem expS_fits : ∀ (l : List S80) (seen : List (List UInt8)), (∀ x ∈ l, Ok80 x) → expS seen l = 0 → ∀ x ∈ l, Fits80 x
  | [], _, _, _, x, hx => by cases hx
  | y :: r, seen, ok, h, x, hx => by
    unfold expS at h
    by_cases hm : mayS y = 0
    · rw [if_pos hm] at h
      by_cases hc : seen.contains y.f0.data.toList = true
      · rw [if_pos hc] at h; cases h
      · rw [if_neg hc] at h
        rcases List.mem_cons.1 hx with rfl | hx
        · exact mayS_fits _ (ok _ (List.mem_cons_self ..)) hm
        · exact expS_fits r _ (fun z hz => ok z (List.mem_cons_of_mem _ hz)) h x hx
    · rw [if_neg hm] at h; exact absurd h hm
/-- A file's bytes. -/
def fileB (m : ByteArray) (z : Int) (l2 : List S93) (l3 : List S80) : List Int := wrd 1347639553 ++ ((cnt m.size ++ bytesOf m) ++ (wrd z ++ (impsB l2 ++ expsB l3)))
/-- A file that may be: its parts may be read. -/
theorem file_fits (m : ByteArray) (z : Int) (l2 : List S93) (l3 : List S80) (ok : ∀ x ∈ l3, Ok80 x) (h : fileS m z l2 l3 = 0) : m.size ≤ 32 ∧ (l2.length ≤ 64 ∧ ∀ x ∈ l2, x.f0.size ≤ 32) ∧ l3.length ≤ 4096 ∧ ∀ x ∈ l3, Fits80 x := by
  unfold fileS at h
  by_cases hn : nameB m = true
  rotate_left
  · rw [if_neg hn] at h; cases h
  rw [if_pos hn] at h
  by_cases hi : impsS m l2 = 0
  rotate_left
  · rw [if_neg hi] at h; exact absurd h hi
  rw [if_pos hi] at h
  by_cases hl : l3.length > 4096
  · rw [if_pos hl] at h; cases h
  rw [if_neg hl] at h
  by_cases he : expS [] l3 = 0
  rotate_left
  · rw [if_neg he] at h; exact absurd h he
  unfold impsS at hi
  by_cases h64 : l2.length > 64
  · rw [if_pos h64] at hi; cases hi
  rw [if_neg h64] at hi
  exact ⟨nameB_size hn, ⟨by omega, impS_fits l2 _ hi⟩, by omega, expS_fits l3 _ ok he⟩
end Go.Proofs.Ytehdhmhpmkkneaa
/- symfile.Encode, walked. -/
namespace Go.Proofs.Ytehdhmhpmkkneaa
open Go.RowKit Go.Proofs.YtehdhmhpmkkneaaW.PrintWords Go.Proofs.YtehdhmhpmkkneaaW.PrintMore Go.Proofs.Ytehdhmhpmkkneaa.PAll
/-- Behind Encode: the bytes in a new row, or none, and what is wrong. -/
def EncPost (w : World) (code : Int) (xs : List Int) (e : Ending) (w' : World) : Prop :=
  ∃ v, e = .returned (.tuple #[v, .int .i64 code]) ∧ (code = 0 → w'.ownsRow w.heap.size 5 1 v xs.length (nums .u8 xs)) ∧ (code ≠ 0 → v = .slice none 0 0) ∧ Below w.heap.size w w'
theorem fileB_len (m : ByteArray) (z : Int) (l2 : List S93) (l3 : List S80) : (fileB m z l2 l3).length = 4 + ((cnt m.size).length + m.size) + 4 + (impsB l2).length + (expsB l3).length := by
  unfold fileB
  have h1 : ∀ n, (wrd n).length = 4 := fun _ => rfl
  simp only [List.length_append, bytesOf_length, h1]
  omega
theorem own_lower {w : World} {B B' e sz n : Nat} {v : Value} {xs : List Value} (h : w.ownsRow B e sz v n xs) (hb : B' ≤ B) : w.ownsRow B' e sz v n xs := by
  obtain ⟨h1, h2⟩ := h
  refine ⟨h1, ?_⟩
  rcases h2 with h | ⟨g, cap, cur, e1, e2, r⟩
  · exact .inl h
  · exact .inr ⟨g, cap, cur, e1, Nat.le_trans hb e2, r⟩
set_option maxHeartbeats 2000000 in
set_option maxRecDepth 100000 in
set_option linter.unusedSimpArgs false in
theorem sencode (m : ByteArray) (z : Int) (A2 A3 : Option Addr) (c2 c3 : Nat) (l2 : List S93) (l3 : List S80) (w : World) (h : FileAt A2 A3 c2 c3 l2 l3 w) (ok : OkFile m l2 l3) (o2 : ∀ x ∈ l2, Ok93 x) (hz : 0 ≤ z ∧ z ≤ 4294967295)
    (hT : fileS m z l2 l3 = 0 → (fileB m z l2 l3).length ≤ 1000000) :
    Calls Try.prog 71 #[fileV m z A2 A3 l2.length l3.length c2 c3] w (EncPost w (fileS m z l2 l3) (fileB m z l2 l3)) := by
  have FA := Lib.hid h
  have OK := Lib.hid ok
  have O2 := Lib.hid o2
  have HZ := Lib.hid hz
  have HT0 : Hid (fileS m z l2 l3 = 0 → 4 + ((cnt m.size).length + m.size) + 4 + (impsB l2).length + (expsB l3).length ≤ 1000000) := Lib.hid (by rw [← fileB_len m z]; exact hT)
  clear h ok o2 hz hT
  obtain ⟨W, hW⟩ : ∃ W, W = w.alloc (.cells #[.string m, .int .u32 z, .slice A2 l2.length c2, .slice A3 l3.length c3] 75) := ⟨_, rfl⟩
  obtain ⟨Q, hQ⟩ : ∃ Q, Q = w.heap.size := ⟨_, rfl⟩
  have bx := heap_alloc_new w (.cells #[.string m, .int .u32 z, .slice A2 l2.length c2, .slice A3 l3.length c3] 75)
  rw [← hW, ← hQ] at bx
  have bW : Below w.heap.size w W := by rw [hW]; exact (Below.refl _ _).alloc (Nat.le_refl _) _
  have F1 := Lib.hid (FA.out.below bW)
  have BW := Lib.hid bW
  have KX := Lib.hid bx
  have HW := Lib.hid hW
  have HQQ := Lib.hid hQ
  clear bx bW hW hQ
  have CK : Hid (∀ ww, FileAt A2 A3 c2 c3 l2 l3 ww → Calls Try.prog 54 #[fileV m z A2 A3 l2.length l3.length c2 c3] ww fun e w' => e = .returned (.int .i64 (fileS m z l2 l3)) ∧ Below ww.heap.size ww w') := Lib.hid (fun ww hf => file_check m z A2 A3 c2 c3 l2 l3 ww hf OK.out)
  obtain ⟨FB, HFB⟩ : ∃ FB, Hid (FB = fileB m z l2 l3) := ⟨_, Lib.hid rfl⟩
  rw [← HFB.out]
  generalize fileS m z l2 l3 = fs at *
  go_enter Try.func71, Try.ntmps71
  go_wp2_with fail
  rw [← HW.out]
  refine (CK.out _ F1.out).mono ?_
  rintro e w1 ⟨rfl, b1⟩
  have B1 := Lib.hid (BW.out.trans (b1.mono BW.out.size))
  have K1 := Lib.hid ((b1.block _ (blk_lt KX.out)).trans KX.out)
  clear b1 BW KX F1 CK
  rw [← HQQ.out]
  by_cases hf : fs = 0
  rotate_left
  · have e1 : (fs != 0) = true := bne_iff_ne.2 hf
    have HF := Lib.hid hf
    clear hf
    go_wp2
    go_ret2
    exact ⟨_, rfl, fun h => absurd h HF.out, fun _ => rfl, B1.out⟩
  have HT := Lib.hid (HT0.out hf)
  clear HT0
  subst hf
  have x0 := blk_cell K1.out 0
  simp only [List.getElem?_toArray, List.getElem?_cons_zero] at x0
  have H2 := Lib.hid (wr_newB w.heap.size w1 B1.out.size)
  have B2 := Lib.hid (B1.out.alloc B1.out.size (.cells #[.slice none 0 0] 26))
  have K2 := Lib.hid (((b1 w1 (.cells #[.slice none 0 0] 26)).block _ (blk_lt K1.out)).trans K1.out)
  have NG : Hid (Q ≠ w1.heap.size) := Lib.hid (by have := blk_lt K1.out; omega)
  have E2 : Hid (some Q ≠ (Value.slice none 0 0).ownBlock) := Lib.hid (by simp [Value.ownBlock])
  go_wp2_with fail
  refine (wword w.heap.size w1.heap.size (.slice none 0 0) [] 1347639553 _ H2.out (by simp) (by omega) (by omega)).mono ?_
  rintro e w3 ⟨rfl, v3, h3, m3⟩
  have K3 := Lib.hid (blk_mv m3 K2.out NG.out E2.out)
  have E3 := Lib.hid (ne_later m3 (blk_lt K2.out) E2.out)
  have H3 := Lib.hid h3
  have B3 := Lib.hid (m3.below B2.out B2.out.size H2.out.2.1 H2.out.base)
  clear h3 m3 K1 K2 E2 H2 B2
  have x0 := blk_cell K3.out 0
  simp only [List.getElem?_toArray, List.getElem?_cons_zero] at x0
  go_wp2_with fail
  refine (wtext w.heap.size w1.heap.size v3 _ m _ H3.out (by have := HT.out; have : ∀ n, (wrd n).length = 4 := fun _ => rfl; simp only [List.length_append, List.length_nil, bytesOf_length, this]; omega) (by have := HT.out; omega)).mono ?_
  rintro e w4 ⟨rfl, v4, h4, m4⟩
  have K4 := Lib.hid (blk_mv m4 K3.out NG.out E3.out)
  have E4 := Lib.hid (ne_later m4 (blk_lt K3.out) E3.out)
  have H4 := Lib.hid h4
  have B4 := Lib.hid (m4.below B3.out B3.out.size H3.out.2.1 H3.out.base)
  clear h4 m4 K3 E3 H3 B3 x0
  have x0 := blk_cell K4.out 1
  simp only [List.getElem?_toArray, List.getElem?_cons_zero, List.getElem?_cons_succ] at x0
  go_wp2_with fail
  refine (wword w.heap.size w1.heap.size v4 _ z _ H4.out (by have := HT.out; have : ∀ n, (wrd n).length = 4 := fun _ => rfl; simp only [List.length_append, List.length_nil, bytesOf_length, this]; omega) HZ.out.1 HZ.out.2).mono ?_
  rintro e w5 ⟨rfl, v5, h5, m5⟩
  have K5 := Lib.hid (blk_mv m5 K4.out NG.out E4.out)
  have E5 := Lib.hid (ne_later m5 (blk_lt K4.out) E4.out)
  have H5 := Lib.hid h5
  have B5 := Lib.hid (m5.below B4.out B4.out.size H4.out.2.1 H4.out.base)
  clear h5 m5 K4 E4 H4 B4 x0
  have x0 := blk_cell K5.out 2
  simp only [List.getElem?_toArray, List.getElem?_cons_zero, List.getElem?_cons_succ] at x0
  go_wp2_with fail
  refine (swrite w w1.heap.size v5 _ l2 A2 c2 _ H5.out B5.out FA.out.r2 O2.out (by have := HT.out; have : ∀ n, (wrd n).length = 4 := fun _ => rfl; simp only [List.length_append, List.length_nil, bytesOf_length, this]; omega)).mono ?_
  rintro e w6 ⟨rfl, v6, h6, m6⟩
  have K6 := Lib.hid (blk_mv m6 K5.out NG.out E5.out)
  have E6 := Lib.hid (ne_later m6 (blk_lt K5.out) E5.out)
  have H6 := Lib.hid h6
  have B6 := Lib.hid (m6.below B5.out B5.out.size H5.out.2.1 H5.out.base)
  clear h6 m6 K5 E5 H5 B5 x0
  have x0 := blk_cell K6.out 3
  simp only [List.getElem?_toArray, List.getElem?_cons_zero, List.getElem?_cons_succ] at x0
  go_wp2_with fail
  refine (fwrite w w1.heap.size v6 _ l3 A3 c3 _ H6.out B6.out FA.out.r3 OK.out.ok (by have := HT.out; have : ∀ n, (wrd n).length = 4 := fun _ => rfl; simp only [List.length_append, List.length_nil, bytesOf_length, this]; omega)).mono ?_
  rintro e w7 ⟨rfl, v7, h7, m7⟩
  have K7 := Lib.hid (blk_mv m7 K6.out NG.out E6.out)
  have E7 := Lib.hid (ne_later m7 (blk_lt K6.out) E6.out)
  have H7 := Lib.hid h7
  have B7 := Lib.hid (m7.below B6.out B6.out.size H6.out.2.1 H6.out.base)
  clear h7 m7 K6 E6 H6 B6 x0
  go_wp2_with fail
  have EF : ([] ++ wrd 1347639553 ++ (cnt m.size ++ bytesOf m) ++ wrd z ++ impsB l2 ++ expsB l3) = FB := by rw [HFB.out]; unfold fileB; simp only [List.nil_append, List.append_assoc]
  have HW8 := wbytes w.heap.size w1.heap.size v7 _ w7 H7.out (by have := HT.out; have : ∀ n, (wrd n).length = 4 := fun _ => rfl; simp only [List.length_append, List.length_nil, bytesOf_length, this]; omega)
  rw [EF] at HW8
  refine HW8.mono ?_
  clear EF HW8
  rintro e w8 ⟨v8, rfl, o8, b8⟩
  have O8 := Lib.hid o8
  have B8 := Lib.hid (B7.out.trans (b8.mono B7.out.size))
  have HS := Lib.hid B7.out.size
  clear o8 b8 H7 B7 K7 E7
  obtain ⟨A8, c8, rfl⟩ := own_slice O8.out
  go_wp2
  go_ret2
  exact ⟨_, rfl, fun _ => own_lower O8.out HS.out, fun h => absurd rfl h, B8.out⟩
end Go.Proofs.Ytehdhmhpmkkneaa
/- symfile.Decode, walked where the bytes are a file's that may be. -/
namespace Go.Proofs.Ytehdhmhpmkkneaa
open Go.RowKit Go.Proofs.YtehdhmhpmkkneaaW.PrintWords Go.Proofs.YtehdhmhpmkkneaaW.PrintMore Go.Proofs.Ytehdhmhpmkkneaa.PAll
set_option maxHeartbeats 4000000 in
set_option maxRecDepth 100000 in
theorem sdecode (m : ByteArray) (z : Int) (l2 : List S93) (l3 : List S80) (A : Option Addr) (n c : Nat) (w : World) (hr : ReadsInt w .u8 A n (fileB m z l2 l3)) (hb : AllB (fileB m z l2 l3)) (hT : (fileB m z l2 l3).length ≤ 1000000)
    (ok : OkFile m l2 l3) (o3 : ∀ x ∈ l3, Ok80 x) (hf : fileS m z l2 l3 = 0) :
    Calls Try.prog 72 #[.slice A n c] w fun e w' => ∃ B2 B3 d2 d3, e = .returned (.tuple #[fileV m z B2 B3 l2.length l3.length d2 d3, .int .i64 0]) ∧ FileAt B2 B3 d2 d3 l2 l3 w' ∧ Below w.heap.size w w' := by
  obtain ⟨hm, ⟨hl2, hn2⟩, hl3, hx3⟩ := file_fits m z l2 l3 o3 hf
  have S1 : wordS ⟨fileB m z l2 l3, 0⟩ = (1347639553, ⟨(cnt m.size ++ bytesOf m) ++ (wrd z ++ (impsB l2 ++ expsB l3)), 0⟩) := by unfold fileB; exact wordS_wrd _ _
  have S2 : textS 32 ⟨(cnt m.size ++ bytesOf m) ++ (wrd z ++ (impsB l2 ++ expsB l3)), 0⟩ = (m, ⟨wrd z ++ (impsB l2 ++ expsB l3), 0⟩) := textS_put' 32 m _ (by omega) (by omega)
  have S3 : wordS ⟨wrd z ++ (impsB l2 ++ expsB l3), 0⟩ = (z, ⟨impsB l2 ++ expsB l3, 0⟩) := wordS_wrd _ _
  have S4 : readI ⟨impsB l2 ++ expsB l3, 0⟩ = (l2, ⟨expsB l3, 0⟩) := readI_put l2 _ hl2 hn2
  have S5 : readS ⟨expsB l3, 0⟩ = (l3, ⟨[], 0⟩) := by
    have := readS_put l3 [] hl3 hx3
    rwa [List.append_nil] at this
  have S6 : endS ⟨[], 0⟩ = ⟨[], 0⟩ := rfl
  generalize hs0 : fileB m z l2 l3 = xs at *
  generalize (cnt m.size ++ bytesOf m) ++ (wrd z ++ (impsB l2 ++ expsB l3)) = r1 at *
  generalize wrd z ++ (impsB l2 ++ expsB l3) = r2 at *
  generalize impsB l2 ++ expsB l3 = r3 at *
  generalize expsB l3 = r4 at *
  have C1 : Hid (∀ (w0 W : World) (g : Nat), IsR w0 W g ⟨xs, 0⟩ → Below w0.heap.size w0 W → Calls Try.prog 47 #[.pointer (some ⟨g, 0, none⟩)] W (RPost w0 W g (.int .u32 1347639553) ⟨r1, 0⟩)) := Lib.hid (fun w0 W g hi hB => by have := cword0 w0 W g _ hi hB; rwa [S1] at this)
  have C2 : Hid (∀ (w0 W : World) (g : Nat), IsR w0 W g ⟨r1, 0⟩ → Below w0.heap.size w0 W → Calls Try.prog 44 #[.pointer (some ⟨g, 0, none⟩), .int .i64 32] W (RPost w0 W g (.string m) ⟨r2, 0⟩)) := Lib.hid (fun w0 W g hi hB => by have := ctext w0 W g _ 32 (by omega) hi hB; rwa [S2] at this)
  have C3 : Hid (∀ (w0 W : World) (g : Nat), IsR w0 W g ⟨r2, 0⟩ → Below w0.heap.size w0 W → Calls Try.prog 47 #[.pointer (some ⟨g, 0, none⟩)] W (RPost w0 W g (.int .u32 z) ⟨r3, 0⟩)) := Lib.hid (fun w0 W g hi hB => by have := cword0 w0 W g _ hi hB; rwa [S3] at this)
  have C4 : Hid (∀ (w0 W : World) (g : Nat), IsR w0 W g ⟨r3, 0⟩ → Below w0.heap.size w0 W → Calls Try.prog 64 #[.pointer (some ⟨g, 0, none⟩)] W (ReadPostI w0 W g l2 ⟨r4, 0⟩)) := Lib.hid (fun w0 W g hi hB => by have := sread w0 W g _ hi hB; rwa [S4] at this)
  have C5 : Hid (∀ (w0 W : World) (g : Nat), IsR w0 W g ⟨r4, 0⟩ → Below w0.heap.size w0 W → Calls Try.prog 29 #[.pointer (some ⟨g, 0, none⟩)] W (ReadPost w0 W g l3 ⟨[], 0⟩)) := Lib.hid (fun w0 W g hi hB => by have := fread w0 W g _ hi hB; rwa [S5] at this)
  have C6 : Hid (∀ (w0 W : World) (g : Nat), IsR w0 W g ⟨[], 0⟩ → Below w0.heap.size w0 W → Calls Try.prog 45 #[.pointer (some ⟨g, 0, none⟩)] W (RPost w0 W g (.int .i64 0) ⟨[], 0⟩)) := Lib.hid (fun w0 W g hi hB => by have := cend w0 W g _ hi hB; rwa [S6] at this)
  have CE : Hid (∀ (w0 W : World) (g : Nat), IsR w0 W g ⟨r1, 0⟩ → Below w0.heap.size w0 W → Calls Try.prog 31 #[.pointer (some ⟨g, 0, none⟩)] W (RPost w0 W g (.int .i64 0) ⟨r1, 0⟩)) := Lib.hid (fun w0 W g hi hB => cerr w0 W g _ hi hB)
  have HR := Lib.hid hr
  have HBY := Lib.hid hb
  have HT := Lib.hid hT
  have OK := Lib.hid ok
  have HF := Lib.hid hf
  clear hr hb hT ok hf S1 S2 S3 S4 S5 S6 hs0 hm hl2 hn2 hl3 hx3
  have ba : Below w.heap.size w (w.alloc (.cells #[.string ⟨#[]⟩, .int .u32 0, .slice none 0 0, .slice none 0 0] 75)) := (Below.refl _ _).alloc (Nat.le_refl _) _
  have K0 := Lib.hid (heap_alloc_new w (.cells #[.string ⟨#[]⟩, .int .u32 0, .slice none 0 0, .slice none 0 0] 75))
  have BA := Lib.hid ba
  obtain ⟨R, hR⟩ : ∃ R, R = w.heap.size := ⟨_, rfl⟩
  have HRR := Lib.hid hR
  clear ba hR
  go_enter Try.func72, Try.ntmps72
  go_wp2_with fail
  refine (cread A n c xs _ (HR.out.below BA.out) HBY.out (by have := HT.out; omega)).mono ?_
  rintro e w2 ⟨w0, g, rfl, hi, hb, hb2⟩
  have M1 : Hid (Mid w0 w2 w2 g ⟨xs, 0⟩) := Lib.hid ⟨hi, hb, KeepBut.refl _ _ _⟩
  have HG := Lib.hid M1.out.lt
  have HB0 := Lib.hid hb
  have B1 : Hid (Below w.heap.size w w2) := Lib.hid (BA.out.trans ((hb2.trans (hb.mono hb2.size)).mono BA.out.size))
  have RG : Hid (R < g) := Lib.hid (by have h1 := M1.out.base; have h2 := blk_lt K0.out; have h3 := hb2.size; have h4 := HRR.out; omega)
  have K1 : Hid (w2.heap[R]? = some (.cells #[.string ⟨#[]⟩, .int .u32 0, .slice none 0 0, .slice none 0 0] 75 (0, 0))) := Lib.hid (by
    have h2 := blk_lt K0.out
    have h3 := hb2.size
    rw [HRR.out, hb.block _ (by omega), hb2.block _ h2]
    exact K0.out)
  have RNG : Hid (R ≠ g) := Lib.hid (by have := RG.out; omega)
  clear hi hb hb2 K0 BA
  go_wp2_with fail
  refine (M1.out.call (C1.out w0 _ g)).mono ?_
  rintro e w3 ⟨rfl, m3, k3⟩
  have M3 := Lib.hid m3
  have K3 := Lib.hid (k3.blk K1.out RNG.out (by simp))
  clear m3 k3 M1 K1 C1
  go_wp2_with fail
  refine (M3.out.call (CE.out w0 _ g)).mono ?_
  rintro e w4 ⟨rfl, m4, k4⟩
  have M4 := Lib.hid m4
  have K4 := Lib.hid (k4.blk K3.out RNG.out (by simp))
  clear m4 k4 M3 K3 CE
  go_wp2_with fail
  refine (M4.out.call (C2.out w0 _ g)).mono ?_
  rintro e w5 ⟨rfl, m5, k5⟩
  have M5 := Lib.hid m5
  have K5 := Lib.hid (k5.blk K4.out RNG.out (by simp))
  clear m5 k5 M4 K4 C2
  obtain ⟨T, hT⟩ : ∃ T, T = w5.heap.size := ⟨_, rfl⟩
  have HTG : Hid (w2.heap.size ≤ T) := Lib.hid (by rw [hT]; exact M5.out.size)
  have TNG : Hid (T ≠ g) := Lib.hid (by have := HG.out; have := HTG.out; omega)
  have RT : Hid (R < T) := Lib.hid (by have := RG.out; have := HG.out; have := HTG.out; omega)
  have T6 : Hid ((w5.alloc (.cells #[.string m, .int .u32 0, .slice none 0 0, .slice none 0 0] 75)).heap[T]? = some (.cells #[.string m, .int .u32 0, .slice none 0 0, .slice none 0 0] 75 (0, 0))) := Lib.hid (by rw [hT]; exact heap_alloc_new _ _)
  have K6 : Hid ((w5.alloc (.cells #[.string m, .int .u32 0, .slice none 0 0, .slice none 0 0] 75)).heap[R]? = some (.cells #[.string ⟨#[]⟩, .int .u32 0, .slice none 0 0, .slice none 0 0] 75 (0, 0))) := Lib.hid (((b1 w5 _).block _ (blk_lt K5.out)).trans K5.out)
  have M6 := Lib.hid (M5.out.alloc (.cells #[.string m, .int .u32 0, .slice none 0 0, .slice none 0 0] 75))
  go_wp2_with fail
  rw [← hT]
  clear hT M5 K5
  refine (M6.out.call (C3.out w0 _ g)).mono ?_
  rintro e w7 ⟨rfl, m7, k7⟩
  have M7 := Lib.hid m7
  have K7 := Lib.hid (k7.blk K6.out RNG.out (by simp))
  have T7 := Lib.hid (k7.blk T6.out TNG.out (by simp))
  clear m7 k7 M6 K6 T6 C3
  have q1 := blk_cell T7.out 1
  have z1 := blk_frozen T7.out 1
  simp only [List.getElem?_toArray, List.getElem?_cons_zero, List.getElem?_cons_succ] at q1
  have M8 := Lib.hid (M7.out.set (j := 1) HTG.out HG.out (.int .u32 z))
  have T8 := Lib.hid (blk_put T7.out 1 (.int .u32 z) (cs' := #[.string m, .int .u32 z, .slice none 0 0, .slice none 0 0]) rfl)
  have K8 := Lib.hid (blk_far (p := ⟨T, 1, none⟩) K7.out (by show R ≠ T; have := RT.out; omega) (.int .u32 z))
  clear M7 K7 T7
  go_wp2_with fail
  refine (C4.out w0 _ g M8.out.rd M8.out.low).mono ?_
  rintro e w9 ⟨v2, rfl, r9, i9, l9, k9⟩
  have M9 : Hid (Mid w0 w2 w9 g ⟨r4, 0⟩) := Lib.hid ⟨i9, l9, keep_trans M8.out.keep k9⟩
  have K9 := Lib.hid (k9.blk K8.out RNG.out (by simp))
  have T9 := Lib.hid (k9.blk T8.out TNG.out (by simp))
  have RA := Lib.hid (Kd.R_mono r9 (ok' := fun k => T < k) (fun k hk => by have := blk_lt T8.out; omega))
  obtain ⟨A2, c2, rfl, hc2, _⟩ := Kd.R_reads r9
  have HC2 := Lib.hid hc2
  clear r9 i9 l9 k9 hc2 M8 K8 T8 C4 q1 z1
  have q2 := blk_cell T9.out 2
  have z2 := blk_frozen T9.out 2
  simp only [List.getElem?_toArray, List.getElem?_cons_zero, List.getElem?_cons_succ] at q2
  have M10 := Lib.hid (M9.out.set (j := 2) HTG.out HG.out (.slice A2 l2.length c2))
  have T10 := Lib.hid (blk_put T9.out 2 (.slice A2 l2.length c2) (cs' := #[.string m, .int .u32 z, .slice A2 l2.length c2, .slice none 0 0]) rfl)
  have K10 := Lib.hid (blk_far (p := ⟨T, 2, none⟩) K9.out (by show R ≠ T; have := RT.out; omega) (.slice A2 l2.length c2))
  have RA10 := Lib.hid (Kd.R_far (p := ⟨T, 2, none⟩) RA.out (fun k hk => by show k ≠ T; omega) (.slice A2 l2.length c2))
  clear M9 K9 T9 RA
  go_wp2_with fail
  refine (C5.out w0 _ g M10.out.rd M10.out.low).mono ?_
  rintro e w11 ⟨v3, rfl, r11, i11, l11, k11⟩
  have M11 : Hid (Mid w0 w2 w11 g ⟨[], 0⟩) := Lib.hid ⟨i11, l11, keep_trans M10.out.keep k11⟩
  have K11 := Lib.hid (k11.blk K10.out RNG.out (by simp))
  have T11 := Lib.hid (k11.blk T10.out TNG.out (by simp))
  have RA11 := Lib.hid (Kd.R_keep RA10.out k11 (fun k hk => by have := HG.out; have := HTG.out; omega))
  have RB := Lib.hid (Kd.R_mono r11 (ok' := fun k => T < k) (fun k hk => by have := blk_lt T10.out; omega))
  obtain ⟨A3, c3, rfl, hc3, _⟩ := Kd.R_reads r11
  have HC3 := Lib.hid hc3
  clear r11 i11 l11 k11 hc3 M10 K10 T10 RA10 C5 q2 z2
  have q3 := blk_cell T11.out 3
  have z3 := blk_frozen T11.out 3
  simp only [List.getElem?_toArray, List.getElem?_cons_zero, List.getElem?_cons_succ] at q3
  have M12 := Lib.hid (M11.out.set (j := 3) HTG.out HG.out (.slice A3 l3.length c3))
  have T12 := Lib.hid (blk_put T11.out 3 (.slice A3 l3.length c3) (cs' := #[.string m, .int .u32 z, .slice A2 l2.length c2, .slice A3 l3.length c3]) rfl)
  have K12 := Lib.hid (blk_far (p := ⟨T, 3, none⟩) K11.out (by show R ≠ T; have := RT.out; omega) (.slice A3 l3.length c3))
  have RA12 := Lib.hid (Kd.R_far (p := ⟨T, 3, none⟩) RA11.out (fun k hk => by show k ≠ T; omega) (.slice A3 l3.length c3))
  have RB12 := Lib.hid (Kd.R_far (p := ⟨T, 3, none⟩) RB.out (fun k hk => by show k ≠ T; omega) (.slice A3 l3.length c3))
  clear M11 K11 T11 RA11 RB
  go_wp2_with fail
  refine (M12.out.call (C6.out w0 _ g)).mono ?_
  rintro e w13 ⟨rfl, m13, k13⟩
  have M13 := Lib.hid m13
  have K13 := Lib.hid (k13.blk K12.out RNG.out (by simp))
  have T13 := Lib.hid (k13.blk T12.out TNG.out (by simp))
  have RA13 := Lib.hid (Kd.R_keep RA12.out k13 (fun k hk => by have := HG.out; have := HTG.out; omega))
  have RB13 := Lib.hid (Kd.R_keep RB12.out k13 (fun k hk => by have := HG.out; have := HTG.out; omega))
  clear m13 k13 M12 K12 T12 RA12 RB12 C6 q3 z3
  have t0 := blk_cell T13.out 0
  have t1 := blk_cell T13.out 1
  have t2 := blk_cell T13.out 2
  have t3 := blk_cell T13.out 3
  simp only [List.getElem?_toArray, List.getElem?_cons_zero, List.getElem?_cons_succ] at t0 t1 t2 t3
  have F13 : Hid (FileAt A2 A3 c2 c3 l2 l3 w13) := Lib.hid (by
    obtain ⟨_, _, e1, _, h1⟩ := Kd.R_reads RA13.out
    injection e1 with e1 _ _
    obtain ⟨_, _, e2, _, h2⟩ := Kd.R_reads RB13.out
    injection e2 with e2 _ _
    subst e1 e2
    exact ⟨h1, HC2.out, h2, HC3.out⟩)
  have CK : Hid (∀ ww, FileAt A2 A3 c2 c3 l2 l3 ww → Calls Try.prog 54 #[fileV m z A2 A3 l2.length l3.length c2 c3] ww fun e w' => e = .returned (.int .i64 0) ∧ Below ww.heap.size ww w') := Lib.hid (fun ww hf => by have h := file_check m z A2 A3 c2 c3 l2 l3 ww hf OK.out; rwa [HF.out] at h)
  go_wp2_with fail
  refine (CK.out _ F13.out).mono ?_
  rintro e w14 ⟨rfl, b14⟩
  have B14 : Hid (Below w.heap.size w w14) := Lib.hid (by
    have hk := M13.out.keep
    have hl := M13.out.low
    have b13 : Below w.heap.size w w13 := B1.out.trans ⟨hl.os.trans HB0.out.os.symm, hl.tape.trans HB0.out.tape.symm, hl.output.trans HB0.out.output.symm, hk.1, fun i hi => hk.2 i (Nat.lt_of_lt_of_le hi B1.out.size) (by have := RG.out; have := HRR.out; omega) (by simp)⟩
    exact b13.trans (b14.mono b13.size))
  have T14 := Lib.hid ((b14.block _ (blk_lt T13.out)).trans T13.out)
  have K14 := Lib.hid ((b14.block _ (blk_lt K13.out)).trans K13.out)
  have RA14 := Lib.hid (Kd.R_below RA13.out b14)
  have RB14 := Lib.hid (Kd.R_below RB13.out b14)
  clear b14 M13 K13 T13 RA13 RB13 F13 CK t0 t1 t2 t3 B1 HB0
  have t0 := blk_cell T14.out 0
  have t1 := blk_cell T14.out 1
  have t2 := blk_cell T14.out 2
  have t3 := blk_cell T14.out 3
  simp only [List.getElem?_toArray, List.getElem?_cons_zero, List.getElem?_cons_succ] at t0 t1 t2 t3
  have k0 := blk_cell K14.out 0
  have k1 := blk_cell K14.out 1
  have k2 := blk_cell K14.out 2
  have k3 := blk_cell K14.out 3
  simp only [List.getElem?_toArray, List.getElem?_cons_zero, List.getElem?_cons_succ] at k0 k1 k2 k3
  have z0 := blk_frozen K14.out 0
  have z1 := blk_frozen K14.out 1
  have z2 := blk_frozen K14.out 2
  have z3 := blk_frozen K14.out 3
  rw [HRR.out] at k0 k1 k2 k3 z0 z1 z2 z3
  go_wp2
  have P1 := blk_put K14.out 0 (.string m) (cs' := #[.string m, .int .u32 0, .slice none 0 0, .slice none 0 0]) rfl
  have P2 := blk_put P1 1 (.int .u32 z) (cs' := #[.string m, .int .u32 z, .slice none 0 0, .slice none 0 0]) rfl
  have P3 := blk_put P2 2 (.slice A2 l2.length c2) (cs' := #[.string m, .int .u32 z, .slice A2 l2.length c2, .slice none 0 0]) rfl
  have P4 := blk_put P3 3 (.slice A3 l3.length c3) (cs' := #[.string m, .int .u32 z, .slice A2 l2.length c2, .slice A3 l3.length c3]) rfl
  have ok := fun (v : Value) (W : World) (j : Nat) (hr : k93.R 93 W (w7.setCell { block := T, off := 1 } (Value.int IntKind.u32 z)).heap.size (fun k => T < k) (.slice A2 l2.length c2) l2) => Kd.R_far (p := ⟨R, j, none⟩) hr (fun k hk => by show k ≠ R; have := RT.out; omega) v
  have ok' := fun (v : Value) (W : World) (j : Nat) (hr : k80.R 80 W (w9.setCell { block := T, off := 2 } (Value.slice A2 l2.length c2)).heap.size (fun k => T < k) (.slice A3 l3.length c3) l3) => Kd.R_far (p := ⟨R, j, none⟩) hr (fun k hk => by show k ≠ R; have := RT.out; omega) v
  have RAe := ok (.slice A3 l3.length c3) _ 3 (ok (.slice A2 l2.length c2) _ 2 (ok (.int .u32 z) _ 1 (ok (.string m) _ 0 RA14.out)))
  have RBe := ok' (.slice A3 l3.length c3) _ 3 (ok' (.slice A2 l2.length c2) _ 2 (ok' (.int .u32 z) _ 1 (ok' (.string m) _ 0 RB14.out)))
  obtain ⟨_, _, e1, _, h1⟩ := Kd.R_reads RAe
  injection e1 with e1 _ _
  obtain ⟨_, _, e2, _, h2⟩ := Kd.R_reads RBe
  injection e2 with e2 _ _
  subst e1 e2
  have hR := HRR.out
  rw [← hR]
  refine bodyPost_ret (results_ct rfl _ _ R 75 #[.string m, .int .u32 z, .slice A2 l2.length c2, .slice A3 l3.length c3] (0, 0) _ rfl P4 Try.underlying75 rfl (by kernel_rfl)) rfl ?_
  exact ⟨A2, A3, c2, c3, rfl, ⟨h1, HC2.out, h2, HC3.out⟩, by
    have b := B14.out
    rw [hR]
    exact below_set (below_set (below_set (below_set b (Nat.le_refl _)) (Nat.le_refl _)) (Nat.le_refl _)) (Nat.le_refl _)⟩
end Go.Proofs.Ytehdhmhpmkkneaa
/- Layer 14: the document's imports' bytes. -/
namespace Go.Proofs.Ytehdhmhpmkkneaa
open Go.RowKit Go.Proofs.YtehdhmhpmkkneaaW.PrintWords Go.Proofs.Ytehdhmhpmkkneaa.PAll
theorem refBytesK {k : Nat} (hk : 5 ≤ k) (n : Int) (h0 : 0 ≤ n) (h1 : n ≤ 4294967295) : pascalineref01_Bytes.f k n = some (wrd n) := at_rounds (g := fun k => pascalineref01_Bytes.f k n) (fun j => pascalineref01_Bytes.mono n j) hk (refBytes n h0 h1)
theorem impB_len (x : S93) : (impB x).length = (cnt x.f0.size).length + x.f0.size + 4 := by
  show ((cnt x.f0.size ++ bytesOf x.f0) ++ wrd x.f1).length = _
  rw [List.length_append, List.length_append, bytesOf_length]
  rfl
theorem refImps (l : List S93) (hl : l.length < 9223372036854775807) (ok : ∀ x ∈ l, Ok93 x) (hs : ∀ x ∈ l, x.f0.size ≤ 1000000000) : ∀ (d i k : Nat) (acc : List Int), i + d = l.length → d + 11 ≤ k → acc.length + ((l.drop i).flatMap impB).length ≤ 1000000000 →
    pascalineref14_Write.l0 k l acc (i : Int) = some (acc ++ (l.drop i).flatMap impB)
  | 0, i, k, acc, h, hk, _ => by
    obtain ⟨k, rfl⟩ : ∃ m, k = m + 1 := ⟨k - 1, by omega⟩
    rw [List.drop_of_length_le (by omega), List.flatMap_nil, List.append_nil]
    simp only [pascalineref14_Write.l0]
    rw [if_neg (by omega)]
  | d + 1, i, k, acc, h, hk, hT => by
    obtain ⟨k, rfl⟩ : ∃ m, k = m + 1 := ⟨k - 1, by omega⟩
    have hi : i < l.length := by omega
    rw [List.drop_eq_getElem_cons hi, List.flatMap_cons, List.length_append, impB_len] at hT
    have e1 : rd_T93 l (i : Int) = l[i] := by simp [rd_T93, List.getD, hi]
    have o := bdu32 (ok _ (List.getElem_mem hi)).2
    have ih := refImps l hl ok hs d (i + 1) k (acc ++ impB l[i]) (by omega) (by omega) (by rw [List.length_append, impB_len]; omega)
    simp only [pascalineref14_Write.l0]
    rw [if_pos (by omega), if_pos (by omega), e1, refTextK (by omega) _ (hs _ (List.getElem_mem hi))]
    simp only [Option.bind_some]
    rw [if_pos (by rw [List.length_append, bytesOf_length]; omega), refBytesK (by omega) _ o.1 o.2]
    simp only [Option.bind_some]
    have hw : (wrd l[i].f1).length = 4 := rfl
    rw [if_pos (by rw [List.length_append, List.length_append, bytesOf_length, hw]; omega), wrap_succ i (by omega)]
    have e2 : acc ++ (cnt l[i].f0.size ++ bytesOf l[i].f0) ++ wrd l[i].f1 = acc ++ impB l[i] := by rw [List.append_assoc]; rfl
    rw [e2, ih, List.drop_eq_getElem_cons hi, List.flatMap_cons, List.append_assoc]
end Go.Proofs.Ytehdhmhpmkkneaa
/- A file's bytes: the document's; how many they are. -/
namespace Go.Proofs.Ytehdhmhpmkkneaa
open Go.RowKit Go.Proofs.YtehdhmhpmkkneaaW.PrintWords Go.Proofs.YtehdhmhpmkkneaaW.PrintMore Go.Proofs.Ytehdhmhpmkkneaa.PAll
theorem impsB_le : ∀ (l : List S93), (∀ x ∈ l, x.f0.size ≤ 32) → (l.flatMap impB).length ≤ 45 * l.length
  | [], _ => by simp
  | x :: r, h => by
    have h1 := impsB_le r (fun y hy => h y (List.mem_cons_of_mem _ hy))
    have h2 := h x (List.mem_cons_self ..)
    have h3 := cnt_len9 (n := x.f0.size) (by omega)
    rw [List.flatMap_cons, List.length_append, impB_len, List.length_cons]
    omega
theorem file_short (m : ByteArray) (z : Int) (l2 : List S93) (l3 : List S80) (o3 : ∀ x ∈ l3, Ok80 x) (sm : SmallFile m l2 l3) (h : fileS m z l2 l3 = 0) : (fileB m z l2 l3).length ≤ 1000000 := by
  obtain ⟨hm, ⟨hl2, hn2⟩, _, _⟩ := file_fits m z l2 l3 o3 h
  have h1 := expsB_len l3 o3 sm.s3
  have h2 := impsB_le l2 hn2
  have h3 := cnt_len9 (n := m.size) (by omega)
  have h4 := cnt_len9 (n := l2.length) (by omega)
  have h5 : (impsB l2).length = (cnt l2.length).length + (l2.flatMap impB).length := by unfold impsB; rw [List.length_append]
  rw [fileB_len]
  omega
theorem allB_app {a b : List Int} (h : AllB a) (k : AllB b) : AllB (a ++ b) := fun x hx => (List.mem_append.1 hx).elim (h x) (k x)
theorem allB_map {α : Type} {f : α → List Int} (h : ∀ x, AllB (f x)) (l : List α) : AllB (l.flatMap f) := fun x hx => by
  obtain ⟨y, _, hy⟩ := List.mem_flatMap.1 hx
  exact h y x hy
theorem allB_cnt (n : Nat) : AllB (cnt n) := by
  induction n using Nat.strongRecOn with
  | _ n ih =>
    by_cases h : n < 128
    · rw [cnt_low h]
      intro x hx
      obtain rfl := List.mem_singleton.1 hx
      omega
    · rw [cnt_high h]
      intro x hx
      rcases List.mem_cons.1 hx with rfl | hx
      · omega
      · exact ih (n / 128) (by omega) x hx
theorem allB_wrd {z : Int} (h : 0 ≤ z ∧ z ≤ 4294967295) : AllB (wrd z) := fun x hx => by
  simp only [wrd, List.mem_cons, List.not_mem_nil, or_false] at hx
  omega
theorem allB_str (s : ByteArray) : AllB (bytesOf s) := fun x hx => by
  have e : bytesOf s = s.data.toList.map fun x => (x.toNat : Int) := rfl
  rw [e] at hx
  obtain ⟨y, _, rfl⟩ := List.mem_map.1 hx
  have := y.toNat_lt
  omega
theorem allB_par (p : S119) : AllB (parB p) := allB_app (allB_cnt _) (allB_cnt _)
theorem allB_exp (x : S80) : AllB (expB x) := allB_app (allB_app (allB_app (allB_app (allB_app (allB_app (allB_cnt _) (allB_str _)) (allB_cnt _)) (allB_cnt _)) (allB_cnt _)) (allB_cnt _)) (allB_map allB_par _)
theorem fileB_all (m : ByteArray) (z : Int) (l2 : List S93) (l3 : List S80) (o2 : ∀ x ∈ l2, Ok93 x) (hz : 0 ≤ z ∧ z ≤ 4294967295) : AllB (fileB m z l2 l3) :=
  allB_app (allB_wrd (by omega)) (allB_app (allB_app (allB_cnt _) (allB_str _)) (allB_app (allB_wrd hz) (allB_app (allB_app (allB_cnt _) (fun x hx => by
    obtain ⟨y, hm, hy⟩ := List.mem_flatMap.1 hx
    exact allB_app (allB_app (allB_cnt _) (allB_str _)) (allB_wrd (bdu32 (o2 y hm).2)) x hy)) (allB_app (allB_cnt _) (allB_map allB_exp _)))))
theorem rfile (m : ByteArray) (z : Int) (A2 A3 : Option Addr) (c2 c3 : Nat) (l2 : List S93) (l3 : List S80) (w : World) (h : FileAt A2 A3 c2 c3 l2 l3 w) (ok : OkFile m l2 l3) (o2 : ∀ x ∈ l2, Ok93 x) (hz : 0 ≤ z ∧ z ≤ 4294967295)
    (s2 : ∀ x ∈ l2, x.f0.size ≤ 1000000000) (n2 : l2.length ≤ 1000000000) (hT : (fileB m z l2 l3).length ≤ 1000000) :
    Calls Try.prog 73 #[fileV m z A2 A3 l2.length l3.length c2 c3] w (Got w (fileB m z l2 l3)) := by
  rw [fileB_len] at hT
  have h4 : ∀ n, (wrd n).length = 4 := fun _ => rfl
  have e1 : ((l2.length : Int)).toNat = l2.length := by omega
  obtain ⟨k, hk⟩ : ∃ k, pascalineref14_Bytes.f k m z l2 l3 = some (fileB m z l2 l3) := by
    have hi : pascalineref14_Write.f (l2.length + 11) l2 = some (impsB l2) := by
      unfold pascalineref14_Write.f
      rw [refCountK (by omega) _ (by omega)]
      simp only [Option.bind_some]
      rw [e1]
      have h5 : (impsB l2).length = (cnt l2.length).length + (l2.flatMap impB).length := by unfold impsB; rw [List.length_append]
      have := refImps l2 (by omega) o2 s2 l2.length 0 (l2.length + 11) (cnt l2.length) (by omega) (by omega) (by rw [List.drop_zero]; omega)
      rw [List.drop_zero] at this
      exact this
    have he := refBytes13 l3 ok.ok ok.n3 (by omega) ok.s3
    refine ⟨l2.length + 11 + rounds80 l3, ?_⟩
    have hi' := at_rounds (g := fun k => pascalineref14_Write.f k l2) (fun j => pascalineref14_Write.mono l2 j) (show l2.length + 11 ≤ l2.length + 11 + rounds80 l3 by omega) hi
    have he' := at_rounds (g := fun k => pascalineref13_Bytes.f k l3) (fun j => pascalineref13_Bytes.mono l3 j) (show rounds80 l3 ≤ l2.length + 11 + rounds80 l3 by omega) he
    unfold pascalineref14_Bytes.f
    rw [refBytesK (by omega) 1347639553 (by omega) (by omega), refTextK (by omega) m ok.sm, refBytesK (by omega) z hz.1 hz.2, hi', he']
    simp only [Option.bind_some, List.length_append, h4, bytesOf_length]
    rw [if_pos (by omega), if_pos (by omega), if_pos (by omega), if_pos (by omega)]
    unfold fileB
    simp only [List.append_assoc]
  exact (pascalineref14_Bytes.calls k m z A2 c2 l2 A3 c3 l3 _ w h.r2 h.h2 h.r3 h.h3 hk).mono fun _ _ ⟨v, he, hr, hb⟩ => ⟨v, he, Kd.own_of_R hr, hb⟩
end Go.Proofs.Ytehdhmhpmkkneaa
/- SymfileBytes: the law's walk. -/
namespace Go.Proofs.Ytehdhmhpmkkneaa
open Go.RowKit Go.Proofs.YtehdhmhpmkkneaaW.PrintWords Go.Proofs.YtehdhmhpmkkneaaW.PrintLast Go.Proofs.YtehdhmhpmkkneaaW.PrintMore Go.Proofs.Ytehdhmhpmkkneaa.PAll
set_option maxHeartbeats 4000000 in
set_option maxRecDepth 100000 in
theorem symfileBytes_any (m : ByteArray) (z : Int) (A2 A3 : Option Addr) (c2 c3 : Nat) (l2 : List S93) (l3 : List S80) (w : World) (h : FileAt A2 A3 c2 c3 l2 l3 w) (h2 : ∀ x ∈ l2, x.f0.size ≤ 9223372036854775807) (h3 : ∀ x ∈ l3, Ok80 x) (o2 : ∀ x ∈ l2, Ok93 x) (hz : 0 ≤ z ∧ z ≤ 4294967295) :
    Calls Try.prog 14 #[fileV m z A2 A3 l2.length l3.length c2 c3] w fun e w' => e = .returned (.bool true) ∧ Below w.heap.size w w' := by
  have FA := Lib.hid h
  have H2 := Lib.hid h2
  have H3 := Lib.hid h3
  have O2 := Lib.hid o2
  have HZ := Lib.hid hz
  clear h h2 h3 o2 hz
  obtain ⟨W, HW⟩ : ∃ W, Hid (W = w.alloc (.cells #[.string m, .int .u32 z, .slice A2 l2.length c2, .slice A3 l3.length c3] 75)) := ⟨_, Lib.hid rfl⟩
  obtain ⟨Q, HQ⟩ : ∃ Q, Hid (Q = w.heap.size) := ⟨_, Lib.hid rfl⟩
  have bx := heap_alloc_new w (.cells #[.string m, .int .u32 z, .slice A2 l2.length c2, .slice A3 l3.length c3] 75)
  rw [← HW.out, ← HQ.out] at bx
  have bW : Below w.heap.size w W := by rw [HW.out]; exact (Below.refl _ _).alloc (Nat.le_refl _) _
  have BW := Lib.hid bW
  have K := Lib.hid bx
  clear bx bW
  go_enter Try.func14, Try.ntmps14
  go_wp2_with fail
  rw [← HW.out]
  refine (awake14 _).mono ?_
  rintro e w1 ⟨rfl, b1⟩
  have B1 := Lib.hid (BW.out.trans (b1.mono BW.out.size))
  have K1 := Lib.hid ((b1.block _ (blk_lt K.out)).trans K.out)
  clear b1 BW K
  rw [← HQ.out]
  have x0 := blk_cell K1.out 0
  have x1 := blk_cell K1.out 1
  have x2 := blk_cell K1.out 2
  have x3 := blk_cell K1.out 3
  simp only [List.getElem?_toArray, List.getElem?_cons_zero, List.getElem?_cons_succ] at x0 x1 x2 x3
  obtain ⟨sm, hsm, hcall⟩ := file_small (m := m) z w1 (FA.out.below B1.out)
  have SM := Lib.hid hsm
  have HC := Lib.hid hcall
  clear hsm hcall
  go_wp2_with fail
  refine HC.out.mono ?_
  rintro e w2 ⟨rfl, b2⟩
  have B2 := Lib.hid (B1.out.trans (b2.mono B1.out.size))
  have K2 := Lib.hid ((b2.block _ (blk_lt K1.out)).trans K1.out)
  clear b2 B1 HC K1 x0 x1 x2 x3
  cases sm
  · go_wp2
    go_ret
    exact ⟨rfl, B2.out⟩
  have SF := Lib.hid (SM.out rfl)
  have OK := Lib.hid (SF.out.ok H2.out H3.out)
  clear SM
  have x0 := blk_cell K2.out 0
  have x1 := blk_cell K2.out 1
  have x2 := blk_cell K2.out 2
  have x3 := blk_cell K2.out 3
  simp only [List.getElem?_toArray, List.getElem?_cons_zero, List.getElem?_cons_succ] at x0 x1 x2 x3
  go_wp2_with fail
  refine (sencode m z A2 A3 c2 c3 l2 l3 _ (FA.out.below B2.out) OK.out O2.out HZ.out (fun h => file_short m z l2 l3 H3.out SF.out h)).mono ?_
  rintro e w3 ⟨v, rfl, hv0, hv1, b3⟩
  have V0 := Lib.hid hv0
  have V1 := Lib.hid hv1
  have B3 := Lib.hid (B2.out.trans (b3.mono B2.out.size))
  have K3 := Lib.hid ((b3.block _ (blk_lt K2.out)).trans K2.out)
  have HS := Lib.hid B2.out.size
  clear b3 hv0 hv1 B2 K2 x0 x1 x2 x3
  have x0 := blk_cell K3.out 0
  have x1 := blk_cell K3.out 1
  have x2 := blk_cell K3.out 2
  have x3 := blk_cell K3.out 3
  simp only [List.getElem?_toArray, List.getElem?_cons_zero, List.getElem?_cons_succ] at x0 x1 x2 x3
  go_wp2_with fail
  refine (file_ref56 m z A2 A3 _ _ c2 c3 _).mono ?_
  rintro e w4 ⟨rfl, b4⟩
  have B4 := Lib.hid (B3.out.trans (b4.mono B3.out.size))
  have K4 := Lib.hid ((b4.block _ (blk_lt K3.out)).trans K3.out)
  have D4 := Lib.hid b4
  clear b4 B3 K3 x0 x1 x2 x3
  go_wp2_with fail
  refine (file_rcheck (m := m) z _ (FA.out.below B4.out) OK.out).mono ?_
  rintro e w5 ⟨rfl, b5⟩
  have B5 := Lib.hid (B4.out.trans (b5.mono B4.out.size))
  have K5 := Lib.hid ((b5.block _ (blk_lt K4.out)).trans K4.out)
  have D5 := Lib.hid (D4.out.trans (b5.mono D4.out.size))
  clear b5 B4 K4 D4
  by_cases hf : fileS m z l2 l3 = 0
  rotate_left
  · obtain rfl := V1.out hf
    have e1 : (fileS m z l2 l3 != 0) = true := bne_iff_ne.2 hf
    have e2 : (fileS m z l2 l3 == fileS m z l2 l3) = true := beq_self_eq_true _
    generalize fileS m z l2 l3 = fs at *
    clear hf V0 V1
    go_wp2
    go_ret
    exact ⟨rfl, B5.out⟩
  have O3 := Lib.hid (V0.out hf)
  have RF : Hid (∀ ww, FileAt A2 A3 c2 c3 l2 l3 ww → Calls Try.prog 73 #[fileV m z A2 A3 l2.length l3.length c2 c3] ww (Got ww (fileB m z l2 l3))) := Lib.hid (fun ww hww => by
    obtain ⟨_, ⟨_, hn⟩, _, _⟩ := file_fits m z l2 l3 H3.out hf
    exact rfile m z A2 A3 c2 c3 l2 l3 ww hww OK.out O2.out HZ.out (fun x hx => by have := hn x hx; omega) (by have := SF.out.s2; omega) (file_short m z l2 l3 H3.out SF.out hf))
  have DE : Hid (∀ (A : Option Addr) (n c : Nat) (ww : World), ReadsInt ww .u8 A n (fileB m z l2 l3) → Calls Try.prog 72 #[.slice A n c] ww fun e w' => ∃ B2 B3 d2 d3, e = .returned (.tuple #[fileV m z B2 B3 l2.length l3.length d2 d3, .int .i64 0]) ∧ FileAt B2 B3 d2 d3 l2 l3 w' ∧ Below ww.heap.size ww w') := Lib.hid (fun A n c ww hr => sdecode m z l2 l3 A n c ww hr (fileB_all m z l2 l3 O2.out HZ.out) (file_short m z l2 l3 H3.out SF.out hf) OK.out H3.out hf)
  have FS := Lib.hid (file_short m z l2 l3 H3.out SF.out hf)
  clear V0 V1
  generalize fileB m z l2 l3 = FB at *
  rw [hf]
  clear hf
  have O5 := Lib.hid (pw_own_below O3.out D5.out)
  obtain ⟨A, c, rfl⟩ := own_slice O5.out
  obtain ⟨A', c', ev, hr⟩ := own_reads O5.out
  injection ev with ev _ ec
  subst ev ec
  have HR := Lib.hid hr
  clear hr O3 D5
  go_wp2_with fail
  refine (DE.out A _ c _ HR.out).mono ?_
  rintro e w6 ⟨B2, B3', d2, d3, rfl, fg, b6⟩
  have FG := Lib.hid fg
  have B6 := Lib.hid (B5.out.trans (b6.mono B5.out.size))
  have K6 := Lib.hid ((b6.block _ (blk_lt K5.out)).trans K5.out)
  have O6 := Lib.hid (pw_own_below O5.out b6)
  clear fg b6 B5 K5 O5 HR DE
  obtain ⟨V, HV⟩ : ∃ V, Hid (V = w6.alloc (.cells #[.string m, .int .u32 z, .slice B2 l2.length d2, .slice B3' l3.length d3] 75)) := ⟨_, Lib.hid rfl⟩
  obtain ⟨M, HM⟩ : ∃ M, Hid (M = w6.heap.size) := ⟨_, Lib.hid rfl⟩
  have ba : Below w6.heap.size w6 V := by rw [HV.out]; exact (Below.refl _ _).alloc (Nat.le_refl _) _
  have KM := heap_alloc_new w6 (.cells #[.string m, .int .u32 z, .slice B2 l2.length d2, .slice B3' l3.length d3] 75)
  rw [← HV.out, ← HM.out] at KM
  have K7 := Lib.hid ((ba.block _ (blk_lt K6.out)).trans K6.out)
  have bd : Below w6.heap.size w6 V.drew := ba.drew
  have B := Lib.hid (B6.out.trans (bd.mono B6.out.size))
  have F := Lib.hid (FA.out.below B.out)
  have G := Lib.hid (FG.out.below bd)
  have O := Lib.hid (pw_own_below O6.out bd)
  have Q0 := Lib.hid (blk_lt K7.out)
  have Q1 := Lib.hid (blk_lt KM)
  have y0 := blk_cell K7.out 0
  have y1 := blk_cell K7.out 1
  have y2 := blk_cell K7.out 2
  have y3 := blk_cell K7.out 3
  have y4 := blk_cell KM 0
  have y5 := blk_cell KM 1
  have y6 := blk_cell KM 2
  have y7 := blk_cell KM 3
  simp only [List.getElem?_toArray, List.getElem?_cons_zero, List.getElem?_cons_succ] at y0 y1 y2 y3 y4 y5 y6 y7
  clear ba bd KM K6 K7 B6 FG O6
  go_wp2
  rw [← HV.out, ← HM.out]
  go_region_held3 (fun w' => w'.cell? ⟨Q, 0, none⟩ = some (.string m) ∧ w'.cell? ⟨Q, 1, none⟩ = some (.int .u32 z) ∧ w'.cell? ⟨Q, 2, none⟩ = some (.slice A2 l2.length c2) ∧ w'.cell? ⟨Q, 3, none⟩ = some (.slice A3 l3.length c3) ∧ w'.cell? ⟨M, 0, none⟩ = some (.string m) ∧ w'.cell? ⟨M, 1, none⟩ = some (.int .u32 z) ∧ w'.cell? ⟨M, 2, none⟩ = some (.slice B2 l2.length d2) ∧ w'.cell? ⟨M, 3, none⟩ = some (.slice B3' l3.length d3)) (first | exact ⟨y0, y1, y2, y3, y4, y5, y6, y7⟩ | exact ⟨ya0, ya1, ya2, ya3, ya4, ya5, ya6, ya7⟩ | exact ⟨yb0, yb1, yb2, yb3, yb4, yb5, yb6, yb7⟩ | exact ⟨yc0, yc1, yc2, yc3, yc4, yc5, yc6, yc7⟩ | exact ⟨yd0, yd1, yd2, yd3, yd4, yd5, yd6, yd7⟩ | exact ⟨ye0, ye1, ye2, ye3, ye4, ye5, ye6, ye7⟩ | exact ⟨yf0, yf1, yf2, yf3, yf4, yf5, yf6, yf7⟩ | go_keep) (first
    | (go_at_call 61; refine (file_same m m z z A2 A3 B2 B3' c2 c3 d2 d3 l2 l2 l3 l3 _ Fe.out Ge.out).mono ?_; rintro e wf ⟨r, rfl, hr, bf⟩; obtain rfl := hr.2 ⟨rfl, rfl, rfl, rfl⟩; have Bf := Lib.hid (Be.out.trans (bf.mono Be.out.size)); have Ff := Lib.hid (Fe.out.below bf); have Gf := Lib.hid (Ge.out.below bf); have Qf0 := Lib.hid (Nat.lt_of_lt_of_le Qe0.out bf.size); have Qf1 := Lib.hid (Nat.lt_of_lt_of_le Qe1.out bf.size); have yf0 := (bf.cell (p := ⟨Q, 0, none⟩) Qe0.out).trans ye0; have yf1 := (bf.cell (p := ⟨Q, 1, none⟩) Qe0.out).trans ye1; have yf2 := (bf.cell (p := ⟨Q, 2, none⟩) Qe0.out).trans ye2; have yf3 := (bf.cell (p := ⟨Q, 3, none⟩) Qe0.out).trans ye3; have yf4 := (bf.cell (p := ⟨M, 0, none⟩) Qe1.out).trans ye4; have yf5 := (bf.cell (p := ⟨M, 1, none⟩) Qe1.out).trans ye5; have yf6 := (bf.cell (p := ⟨M, 2, none⟩) Qe1.out).trans ye6; have yf7 := (bf.cell (p := ⟨M, 3, none⟩) Qe1.out).trans ye7; clear hr bf)
    | (go_at_call 60; refine (file_is m m z z B2 B3' A2 A3 d2 d3 c2 c3 l2 l2 l3 l3 _ Gd.out Fd.out).mono ?_; rintro e we ⟨r, rfl, hr, be⟩; obtain rfl := hr.2 ⟨rfl, rfl, rfl, rfl⟩; have Be := Lib.hid (Bd.out.trans (be.mono Bd.out.size)); have Fe := Lib.hid (Fd.out.below be); have Ge := Lib.hid (Gd.out.below be); have Qe0 := Lib.hid (Nat.lt_of_lt_of_le Qd0.out be.size); have Qe1 := Lib.hid (Nat.lt_of_lt_of_le Qd1.out be.size); have ye0 := (be.cell (p := ⟨Q, 0, none⟩) Qd0.out).trans yd0; have ye1 := (be.cell (p := ⟨Q, 1, none⟩) Qd0.out).trans yd1; have ye2 := (be.cell (p := ⟨Q, 2, none⟩) Qd0.out).trans yd2; have ye3 := (be.cell (p := ⟨Q, 3, none⟩) Qd0.out).trans yd3; have ye4 := (be.cell (p := ⟨M, 0, none⟩) Qd1.out).trans yd4; have ye5 := (be.cell (p := ⟨M, 1, none⟩) Qd1.out).trans yd5; have ye6 := (be.cell (p := ⟨M, 2, none⟩) Qd1.out).trans yd6; have ye7 := (be.cell (p := ⟨M, 3, none⟩) Qd1.out).trans yd7; clear hr be)
    | (go_at_call 17; refine (rsame _ _ _ _ FB FB _ (by have := FS.out; omega) Ob.out Yb.out).mono ?_; rintro e wc ⟨rfl, dc⟩; have bc := dc.below; have Bc := Lib.hid (Bb.out.trans (bc.mono Bb.out.size)); have Fc := Lib.hid (Fb.out.below bc); have Gc := Lib.hid (Gb.out.below bc); have Qc0 := Lib.hid (Nat.lt_of_lt_of_le Qb0.out bc.size); have Qc1 := Lib.hid (Nat.lt_of_lt_of_le Qb1.out bc.size); have yc0 := (bc.cell (p := ⟨Q, 0, none⟩) Qb0.out).trans yb0; have yc1 := (bc.cell (p := ⟨Q, 1, none⟩) Qb0.out).trans yb1; have yc2 := (bc.cell (p := ⟨Q, 2, none⟩) Qb0.out).trans yb2; have yc3 := (bc.cell (p := ⟨Q, 3, none⟩) Qb0.out).trans yb3; have yc4 := (bc.cell (p := ⟨M, 0, none⟩) Qb1.out).trans yb4; have yc5 := (bc.cell (p := ⟨M, 1, none⟩) Qb1.out).trans yb5; have yc6 := (bc.cell (p := ⟨M, 2, none⟩) Qb1.out).trans yb6; have yc7 := (bc.cell (p := ⟨M, 3, none⟩) Qb1.out).trans yb7; have zc : decide (FB = FB) = true := decide_eq_true rfl; clear bc dc)
    | (go_at_call 73; refine (RF.out _ Fa.out).mono ?_; rintro e wb ⟨u, rfl, yb, bb⟩; have Yb := Lib.hid yb; have Ob := Lib.hid (pw_own_below Oa.out bb); have Bb := Lib.hid (Ba.out.trans (bb.mono Ba.out.size)); have Fb := Lib.hid (Fa.out.below bb); have Gb := Lib.hid (Ga.out.below bb); have Qb0 := Lib.hid (Nat.lt_of_lt_of_le Qa0.out bb.size); have Qb1 := Lib.hid (Nat.lt_of_lt_of_le Qa1.out bb.size); have yb0 := (bb.cell (p := ⟨Q, 0, none⟩) Qa0.out).trans ya0; have yb1 := (bb.cell (p := ⟨Q, 1, none⟩) Qa0.out).trans ya1; have yb2 := (bb.cell (p := ⟨Q, 2, none⟩) Qa0.out).trans ya2; have yb3 := (bb.cell (p := ⟨Q, 3, none⟩) Qa0.out).trans ya3; have yb4 := (bb.cell (p := ⟨M, 0, none⟩) Qa1.out).trans ya4; have yb5 := (bb.cell (p := ⟨M, 1, none⟩) Qa1.out).trans ya5; have yb6 := (bb.cell (p := ⟨M, 2, none⟩) Qa1.out).trans ya6; have yb7 := (bb.cell (p := ⟨M, 3, none⟩) Qa1.out).trans ya7; obtain ⟨Au, cu, rfl⟩ := own_slice yb; clear yb bb)
    | (go_at_call 56; refine (file_ref56 m z A2 A3 _ _ c2 c3 _).mono ?_; rintro e wd ⟨rfl, bd⟩; have Bd := Lib.hid (Bc.out.trans (bd.mono Bc.out.size)); have Fd := Lib.hid (Fc.out.below bd); have Gd := Lib.hid (Gc.out.below bd); have Qd0 := Lib.hid (Nat.lt_of_lt_of_le Qc0.out bd.size); have Qd1 := Lib.hid (Nat.lt_of_lt_of_le Qc1.out bd.size); have yd0 := (bd.cell (p := ⟨Q, 0, none⟩) Qc0.out).trans yc0; have yd1 := (bd.cell (p := ⟨Q, 1, none⟩) Qc0.out).trans yc1; have yd2 := (bd.cell (p := ⟨Q, 2, none⟩) Qc0.out).trans yc2; have yd3 := (bd.cell (p := ⟨Q, 3, none⟩) Qc0.out).trans yc3; have yd4 := (bd.cell (p := ⟨M, 0, none⟩) Qc1.out).trans yc4; have yd5 := (bd.cell (p := ⟨M, 1, none⟩) Qc1.out).trans yc5; have yd6 := (bd.cell (p := ⟨M, 2, none⟩) Qc1.out).trans yc6; have yd7 := (bd.cell (p := ⟨M, 3, none⟩) Qc1.out).trans yc7; clear bd)
    | (go_at_call 56; refine (file_ref56 m z A2 A3 _ _ c2 c3 _).mono ?_; rintro e wa ⟨rfl, ba⟩; have Oa := Lib.hid (pw_own_below O.out ba); have Ba := Lib.hid (B.out.trans (ba.mono B.out.size)); have Fa := Lib.hid (F.out.below ba); have Ga := Lib.hid (G.out.below ba); have Qa0 := Lib.hid (Nat.lt_of_lt_of_le Q0.out ba.size); have Qa1 := Lib.hid (Nat.lt_of_lt_of_le Q1.out ba.size); have ya0 := (ba.cell (p := ⟨Q, 0, none⟩) Q0.out).trans y0; have ya1 := (ba.cell (p := ⟨Q, 1, none⟩) Q0.out).trans y1; have ya2 := (ba.cell (p := ⟨Q, 2, none⟩) Q0.out).trans y2; have ya3 := (ba.cell (p := ⟨Q, 3, none⟩) Q0.out).trans y3; have ya4 := (ba.cell (p := ⟨M, 0, none⟩) Q1.out).trans y4; have ya5 := (ba.cell (p := ⟨M, 1, none⟩) Q1.out).trans y5; have ya6 := (ba.cell (p := ⟨M, 2, none⟩) Q1.out).trans y6; have ya7 := (ba.cell (p := ⟨M, 3, none⟩) Q1.out).trans y7; clear ba))
  go_wp2
  go_ret
  exact ⟨rfl, Bf.out⟩
end Go.Proofs.Ytehdhmhpmkkneaa
