/- Layer 12: the walk of the reader's Word. -/
import Derived.Test.YtehdhmhpmkkneaaOa
namespace Go.Proofs.Ytehdhmhpmkkneaa
open Go.RowKit Go.Proofs.YtehdhmhpmkkneaaW.PrintWords Go.Proofs.Ytehdhmhpmkkneaa.PAll

set_option maxHeartbeats 1000000 in
set_option maxRecDepth 100000 in
theorem cword (w : World) (g : Nat) (s : RS) (h : RD w g s) :
    Calls Try.prog 47 #[.pointer (some ⟨g, 0, none⟩)] w fun e w' => e = .returned (.int .u32 (wordS s).1) ∧ RD w' g (wordS s).2 ∧ Stp w w' g := by
  have ok0 := h.bytes
  have bd1 := byteS_bd s ok0
  obtain ⟨q1, hq1⟩ : ∃ q, q = byteS s := ⟨_, rfl⟩
  rw [← hq1] at bd1
  have ok1 := bd1.2.2
  have bd2 := byteS_bd q1.2 ok1
  obtain ⟨q2, hq2⟩ : ∃ q, q = byteS q1.2 := ⟨_, rfl⟩
  rw [← hq2] at bd2
  have ok2 := bd2.2.2
  have bd3 := byteS_bd q2.2 ok2
  obtain ⟨q3, hq3⟩ : ∃ q, q = byteS q2.2 := ⟨_, rfl⟩
  rw [← hq3] at bd3
  have ok3 := bd3.2.2
  have bd4 := byteS_bd q3.2 ok3
  obtain ⟨q4, hq4⟩ : ∃ q, q = byteS q3.2 := ⟨_, rfl⟩
  rw [← hq4] at bd4
  have ok4 := bd4.2.2
  have hS : wordS s = if q4.2.err = 0 then (q1.1 + 256 * q2.1 + 65536 * q3.1 + 16777216 * q4.1, q4.2) else (0, q4.2) := by rw [hq4, hq3, hq2, hq1]; rfl
  rw [hS]
  have HQ1 := Lib.hid hq1
  have HQ2 := Lib.hid hq2
  have HQ3 := Lib.hid hq3
  have HQ4 := Lib.hid hq4
  have HI := Lib.hid h
  clear hS hq1 hq2 hq3 hq4 h ok0 ok1 ok2 ok3 ok4
  obtain ⟨b1, t1⟩ := q1
  obtain ⟨b2, t2⟩ := q2
  obtain ⟨b3, t3⟩ := q3
  obtain ⟨b4, t4⟩ := q4
  simp only at bd1 bd2 bd3 bd4 HQ2 HQ3 HQ4 ⊢
  have QA1 : Hid ((byteS s).1 = b1) := Lib.hid (by rw [← HQ1.out])
  have QB1 : Hid ((byteS s).2 = t1) := Lib.hid (by rw [← HQ1.out])
  have QA2 : Hid ((byteS t1).1 = b2) := Lib.hid (by rw [← HQ2.out])
  have QB2 : Hid ((byteS t1).2 = t2) := Lib.hid (by rw [← HQ2.out])
  have QA3 : Hid ((byteS t2).1 = b3) := Lib.hid (by rw [← HQ3.out])
  have QB3 : Hid ((byteS t2).2 = t3) := Lib.hid (by rw [← HQ3.out])
  have QA4 : Hid ((byteS t3).1 = b4) := Lib.hid (by rw [← HQ4.out])
  have QB4 : Hid ((byteS t3).2 = t4) := Lib.hid (by rw [← HQ4.out])
  clear HQ1 HQ2 HQ3 HQ4
  obtain ⟨l1, u1, _⟩ := bd1
  obtain ⟨l2, u2, _⟩ := bd2
  obtain ⟨l3, u3, _⟩ := bd3
  obtain ⟨l4, u4, _⟩ := bd4
  have K1 := or_0 b1 l1 u1
  have K2 := or_8 b1 b2 l1 (by omega) l2 u2
  have K3 := or_16 (b1 + 256 * b2) b3 (by omega) (by omega) l3 u3
  have K4 := or_24 (b1 + 256 * b2 + 65536 * b3) b4 (by omega) (by omega) l4 u4
  have e1 : shl .u32 (b1 % 4294967296) 0 = b1 % 4294967296 := by show IntKind.u32.wrap (b1 % 4294967296 * 1) = _; simp [IntKind.wrap, IntKind.bits, IntKind.signed]
  have e2 : shl .u32 (b2 % 4294967296) 8 = b2 % 4294967296 * 256 % 4294967296 := rfl
  have e3 : shl .u32 (b3 % 4294967296) 16 = b3 % 4294967296 * 65536 % 4294967296 := rfl
  have e4 : shl .u32 (b4 % 4294967296) 24 = b4 % 4294967296 * 16777216 % 4294967296 := rfl
  rw [e1] at K1; rw [e2] at K2; rw [e3] at K3; rw [e4] at K4
  have KK : bits .or .u32 (bits .or .u32 (bits .or .u32 (bits .or .u32 0 (b1 % 4294967296)) (b2 % 4294967296 * 256 % 4294967296)) (b3 % 4294967296 * 65536 % 4294967296)) (b4 % 4294967296 * 16777216 % 4294967296) = b1 + 256 * b2 + 65536 * b3 + 16777216 * b4 := by rw [K1, K2, K3, K4]
  clear K1 K2 K3 K4 e1 e2 e3 e4
  clear l1 u1 l2 u2 l3 u3 l4 u4
  have HE : Hid (∀ q : RS, q = q) := Lib.hid (fun _ => rfl)
  by_cases he : t4.err = 0
  · rw [if_pos he]
    have he' : (t4.err != 0) = false := by rw [he]; rfl
    clear he HE
    go_enter Try.func47, Try.ntmps47
    go_wp2
    refine wp_loop_rounds 5 ?_
    rw [rounds_succ]
    go_wp2_with fail
    refine (HI.out.call (fun w0 hi hb => cbyte w0 _ g _ hi hb)).mono ?_
    rintro e w1 ⟨rfl, r, st⟩
    rw [QB1.out] at r
    rw [QA1.out]
    have R1 := Lib.hid r
    have T1 := Lib.hid st
    clear r st
    go_wp2
    rw [rounds_succ]
    go_wp2_with fail
    refine (R1.out.call (fun w0 hi hb => cbyte w0 _ g _ hi hb)).mono ?_
    rintro e w2 ⟨rfl, r, st⟩
    rw [QB2.out] at r
    rw [QA2.out]
    have R2 := Lib.hid r
    have T2 := Lib.hid (T1.out.trans st)
    clear r st
    go_wp2
    rw [rounds_succ]
    go_wp2_with fail
    refine (R2.out.call (fun w0 hi hb => cbyte w0 _ g _ hi hb)).mono ?_
    rintro e w3 ⟨rfl, r, st⟩
    rw [QB3.out] at r
    rw [QA3.out]
    have R3 := Lib.hid r
    have T3 := Lib.hid (T2.out.trans st)
    clear r st
    go_wp2
    rw [rounds_succ]
    go_wp2_with fail
    refine (R3.out.call (fun w0 hi hb => cbyte w0 _ g _ hi hb)).mono ?_
    rintro e w4 ⟨rfl, r, st⟩
    rw [QB4.out] at r
    rw [QA4.out]
    have R4 := Lib.hid r
    have T4 := Lib.hid (T3.out.trans st)
    clear r st
    go_wp2
    rw [rounds_succ]
    obtain ⟨f0, p0, A0, c0, hblk, _⟩ : ∃ f0 p A c, w4.heap[g]? = some (.cells #[.slice A f0 c, .int .i64 p, .int .i64 t4.err] 123 (0, 0)) ∧ True := by
      obtain ⟨_, ⟨f0, p, A, c, hb, _⟩, _⟩ := R4.out
      exact ⟨_, _, _, _, hb, trivial⟩
    have hc2 : w4.cell? ⟨g, 2, none⟩ = some (.int .i64 t4.err) := blk_cell hblk 2
    clear hblk
    go_wp2
    go_ret
    refine ⟨?_, R4.out, T4.out⟩
    first | rfl | (rw [← KK]; rfl)
  · rw [if_neg he]
    have he' : (t4.err != 0) = true := bne_iff_ne.2 he
    clear he HE
    go_enter Try.func47, Try.ntmps47
    go_wp2
    refine wp_loop_rounds 5 ?_
    rw [rounds_succ]
    go_wp2_with fail
    refine (HI.out.call (fun w0 hi hb => cbyte w0 _ g _ hi hb)).mono ?_
    rintro e w1 ⟨rfl, r, st⟩
    rw [QB1.out] at r
    rw [QA1.out]
    have R1 := Lib.hid r
    have T1 := Lib.hid st
    clear r st
    go_wp2
    rw [rounds_succ]
    go_wp2_with fail
    refine (R1.out.call (fun w0 hi hb => cbyte w0 _ g _ hi hb)).mono ?_
    rintro e w2 ⟨rfl, r, st⟩
    rw [QB2.out] at r
    rw [QA2.out]
    have R2 := Lib.hid r
    have T2 := Lib.hid (T1.out.trans st)
    clear r st
    go_wp2
    rw [rounds_succ]
    go_wp2_with fail
    refine (R2.out.call (fun w0 hi hb => cbyte w0 _ g _ hi hb)).mono ?_
    rintro e w3 ⟨rfl, r, st⟩
    rw [QB3.out] at r
    rw [QA3.out]
    have R3 := Lib.hid r
    have T3 := Lib.hid (T2.out.trans st)
    clear r st
    go_wp2
    rw [rounds_succ]
    go_wp2_with fail
    refine (R3.out.call (fun w0 hi hb => cbyte w0 _ g _ hi hb)).mono ?_
    rintro e w4 ⟨rfl, r, st⟩
    rw [QB4.out] at r
    rw [QA4.out]
    have R4 := Lib.hid r
    have T4 := Lib.hid (T3.out.trans st)
    clear r st
    go_wp2
    rw [rounds_succ]
    obtain ⟨f0, p0, A0, c0, hblk, _⟩ : ∃ f0 p A c, w4.heap[g]? = some (.cells #[.slice A f0 c, .int .i64 p, .int .i64 t4.err] 123 (0, 0)) ∧ True := by
      obtain ⟨_, ⟨f0, p, A, c, hb, _⟩, _⟩ := R4.out
      exact ⟨_, _, _, _, hb, trivial⟩
    have hc2 : w4.cell? ⟨g, 2, none⟩ = some (.int .i64 t4.err) := blk_cell hblk 2
    clear hblk
    go_wp2
    go_ret
    refine ⟨?_, R4.out, T4.out⟩
    first | rfl | (rw [← KK]; rfl)
end Go.Proofs.Ytehdhmhpmkkneaa
