/- Wg. -/
import Derived.Deep.RegionHeld3
import Derived.Test.YtehdhmhpmkkneaaBWb
/- The document's bytes of an object, walked. -/
namespace Go.Proofs.Ytehdhmhpmkkneaa
open Go.RowKit Go.Proofs.YtehdhmhpmkkneaaW.PrintWords Go.Proofs.YtehdhmhpmkkneaaW.PrintMore Go.Proofs.YtehdhmhpmkkneaaW.PrintLast Go.Proofs.Ytehdhmhpmkkneaa.PAll
def NewRow (W : World) (ys : List Int) (e : Ending) (w' : World) : Prop := ∃ v, e = .returned v ∧ Kd.R (Kd.int .u8) 5 w' W.heap.size (fun _ => True) v ys ∧ Below W.heap.size W w'
theorem apart_new {W W1 : World} {B : Nat} {ok : Nat → Prop} {v u : Value} {xs ys : List Int} (h : Kd.R (Kd.int .u8) 5 W B ok v xs) (hb : Below W.heap.size W W1) (hu : Kd.R (Kd.int .u8) 5 W1 W.heap.size (fun _ => True) u ys) : Kd.R (Kd.int .u8) 5 W1 B (fun k => ok k ∧ some k ≠ u.ownBlock) v xs :=
  Kd.R_below (Kd.R_mono (Kd.R_bound h) (fun k hk => ⟨hk.1, fun e => by have := Kd.R_base hu k e.symm; have := hk.2.2.1; omega⟩)) hb
theorem fresh_new {W1 : World} {B : Nat} {ok : Nat → Prop} {u : Value} {ys : List Int} (hu : Kd.R (Kd.int .u8) 5 W1 B ok u ys) : ∀ k, W1.heap.size ≤ k → some k ≠ u.ownBlock := fun k hk e => by have := Kd.R_lt hu k e.symm; omega
section
variable (b : ByteArray) (z d e y : Int) (A2 A3 A4 A5 : Option Addr) (c2 c3 c4 c5 : Nat) (l2 : List S93) (l3 : List Int) (l4 : List S134) (l5 : List S131)
set_option maxHeartbeats 8000000 in
set_option maxRecDepth 100000 in
set_option linter.unusedSimpArgs false in
theorem obytes (w : World) (h : ObjAt A2 A3 A4 A5 c2 c3 c4 c5 l2 l3 l4 l5 w) (F : ObjFits b l2 l3 l4 l5 d e y) (o2 : ∀ x ∈ l2, Ok93 x) (o3 : ∀ x ∈ l3, 0 ≤ x ∧ x ≤ 4294967295) (hz : 0 ≤ z ∧ z ≤ 4294967295) :
    Calls Try.prog 69 #[objV b z d e y A2 A3 A4 A5 c2 c3 c4 c5 l2 l3 l4 l5] w (Got w (objB b z l2 l3 l4 l5 d e y)) := by
  have FA := Lib.hid h
  have FI := Lib.hid F
  have O2 := Lib.hid o2
  have O3 := Lib.hid o3
  have HZ := Lib.hid hz
  have TT : Hid ((objB b z l2 l3 l4 l5 d e y).length ≤ 2000000) := Lib.hid (objB_le b z l2 l3 l4 l5 d e y F)
  have CB : Hid (∀ W n, 0 ≤ n → n ≤ 4294967295 → Calls Try.prog 78 #[.int .u32 n] W (NewRow W (wrd n))) := Lib.hid (fun W n h0 h1 => pascalineref01_Bytes.calls 5 n _ W (refBytesK (by omega) n h0 h1))
  have CT : Hid (∀ W, Calls Try.prog 79 #[.string b] W (NewRow W (cnt b.size ++ bytesOf b))) := Lib.hid (fun W => pascalineref12_Text.calls 10 b _ W (refTextK (by omega) b (by have := F.b; omega)))
  have CC : Hid (∀ W n, n ≤ 9223372036854775807 → Calls Try.prog 75 #[.int .i64 n] W (NewRow W (cnt n.toNat))) := Lib.hid (fun W n h0 => pascalineref12_Count.calls 10 n _ W (refCountK (by omega) n h0))
  have hi : pascalineref14_Write.f (l2.length + 11) l2 = some (impsB l2) := by
    have hn2 := F.n2
    unfold pascalineref14_Write.f
    rw [refCountK (by omega) _ (by omega)]
    simp only [Option.bind_some]
    rw [show ((l2.length : Int)).toNat = l2.length by omega]
    have h5 : (impsB l2).length = (cnt l2.length).length + (l2.flatMap impB).length := by unfold impsB; rw [List.length_append]
    have h6 := impsB_le2 l2 F.n2 F.s2
    have := refImps l2 (by omega) o2 (fun x hx => by have := F.s2 x hx; omega) l2.length 0 (l2.length + 11) (cnt l2.length) (by omega) (by omega) (by rw [List.drop_zero]; omega)
    rw [List.drop_zero] at this
    exact this
  have CI : Hid (∀ W, Kd.C k93 W A2 l2.length l2 → Calls Try.prog 63 #[.slice A2 l2.length c2] W (NewRow W (impsB l2))) := Lib.hid (fun W hk => pascalineref14_Write.calls (l2.length + 11) A2 c2 l2 _ W hk FA.out.h2 hi)
  obtain ⟨FB, HFB⟩ : ∃ FB, Hid (FB = objB b z l2 l3 l4 l5 d e y) := ⟨_, Lib.hid rfl⟩
  rw [← HFB.out] at TT ⊢
  obtain ⟨Q, hQ⟩ : ∃ Q, Q = w.heap.size := ⟨_, rfl⟩
  obtain ⟨W0, hW⟩ : ∃ W0, W0 = w.alloc (.cells #[.string b, .int .u32 z, .slice A2 l2.length c2, .slice A3 l3.length c3, .slice A4 l4.length c4, .slice A5 l5.length c5, .int .i64 d, .int .i64 e, .int .i64 y] 64) := ⟨_, rfl⟩
  have k0 : W0.heap[Q]? = some (.cells #[.string b, .int .u32 z, .slice A2 l2.length c2, .slice A3 l3.length c3, .slice A4 l4.length c4, .slice A5 l5.length c5, .int .i64 d, .int .i64 e, .int .i64 y] 64 (0, 0)) := by rw [hW, hQ]; exact heap_alloc_new _ _
  have bw : Below w.heap.size w W0 := by rw [hW]; exact (Below.refl _ _).alloc (Nat.le_refl _) _
  obtain ⟨B, hB⟩ : ∃ B, B = W0.heap.size := ⟨_, rfl⟩
  have QB : Hid (Q < B) := Lib.hid (by rw [hB]; exact blk_lt k0)
  have BW := Lib.hid bw
  have KQ : Hid (∀ W, Below B W0 W → W.heap[Q]? = some (.cells #[.string b, .int .u32 z, .slice A2 l2.length c2, .slice A3 l3.length c3, .slice A4 l4.length c4, .slice A5 l5.length c5, .int .i64 d, .int .i64 e, .int .i64 y] 64 (0, 0))) := Lib.hid (fun W hb => (hb.block Q QB.out).trans k0)
  have WB : Hid (w.heap.size ≤ B) := Lib.hid (by rw [hB]; exact bw.size)
  have LB : Hid (∀ W, Below B W0 W → Below w.heap.size w W) := Lib.hid (fun W hb => BW.out.trans (hb.mono WB.out))
  have SB : Hid (∀ W, Below B W0 W → B ≤ W.heap.size) := Lib.hid (fun W hb => by rw [hB]; exact hb.size)
  have BI0 : Hid (Below B W0 W0) := Lib.hid (Below.refl _ _)
  have ZB : Hid (B ≤ W0.heap.size) := Lib.hid (by omega)
  clear h F o2 o3 hz hi k0 bw
  go_enter Try.func69, Try.ntmps69
  go_upto_region 1 with fail
  rw [← hQ, ← hW]
  clear hQ hW hB
  have BD0 : Hid (Below B W0 W0.drew) := Lib.hid BI0.out.drew
  have P0 : Hid (wrd 1347371521 ++ ((cnt b.size ++ bytesOf b) ++ (wrd z ++ (impsB l2 ++ (cnt l3.length ++ (l3.flatMap wrd ++ (cnt l4.length ++ (l4.flatMap fixB ++ (cnt l5.length ++ (l5.flatMap segB ++ (cnt d.toNat ++ (cnt e.toNat ++ (cnt y.toNat ++ [])))))))))))) = FB) := Lib.hid (by rw [HFB.out]; unfold objB codesB fixesB segsB endB; simp only [List.append_assoc, List.nil_append, List.append_nil])
  generalize hm_ : wrd 1347371521 = xm at *
  have CB0 : Hid (∀ W, Calls Try.prog 78 #[.int .u32 1347371521] W (NewRow W xm)) := Lib.hid (fun W => by have := CB.out W 1347371521 (by omega) (by omega); rwa [hm_] at this)
  clear hm_
  refine start_ (n := 6) (S := fun w' => w'.cell? ⟨Q, 0, none⟩ = some (.string b)) (ds := []) #[false, false, false, false, false, false] (by kernel_rfl) rfl rfl ((blk_cell (KQ.out _ BD0.out) 0).trans rfl) (fun hHeld => ?_)
  refine pure_ (i := 1) (N := some 11) (v := ?_) (a' := ?_) #[false, true, false, false, false, false] rfl rfl (by kernel_rfl) (fun _ _ _ h => h) (Or.inl ⟨by rfl, ?_⟩) ?_ ?_
  rotate_left
  · intro w'
    go_simp
    with_reducible rfl
  rotate_left
  · simp only [Act.put, List.setIfInBounds_toArray, List.set_cons_zero, List.set_cons_succ, i64_w, i32_w]
    rfl
  refine take_ (i := 2) (N := some 12) (v := ?_) (a' := ?_) #[false, true, true, false, false, false] rfl rfl (by kernel_rfl) (fun _ _ _ h => h) (Or.inl ⟨by rfl, ?_⟩) hHeld ?_ ?_
  rotate_left
  · intro w' s0
    go_simp
    with_reducible rfl
  rotate_left
  · simp only [Act.put, List.setIfInBounds_toArray, List.set_cons_zero, List.set_cons_succ, i64_w, i32_w]
    rfl
  refine one_ (i := 0) (N := some 10) #[true, true, true, false, false, false] rfl rfl (by kernel_rfl) (by decide) (fun K hK => ?_)
  refine goes_ Try.func78 (by kernel_rfl) rfl #[.int .u32 1347371521] (by rfl) rfl rfl (by (try simp only [List.map_toArray, List.map_cons, List.map_nil]); first | done | rfl) ?_
  with_reducible refine (CB0.out _).mono ?_
  rintro en W1 ⟨v1, rfl, hr, hb⟩
  refine ⟨_, rfl, ?_⟩
  have BI1 := Lib.hid (BD0.out.trans (hb.mono (SB.out _ BD0.out)))
  have R1 := Lib.hid (Kd.R_lower hr (SB.out _ BD0.out))
  clear hr hb
  refine hK.out _ _ ((blk_cell (KQ.out _ BI1.out) 0).trans rfl) (fun hHeld => ?_)
  clear hK K
  refine norm_ (a' := ?_) ?_ ?_
  rotate_left
  · show Act.put _ (some 10) _ = _
    simp only [Act.put, List.setIfInBounds_toArray, List.set_cons_zero, List.set_cons_succ, i64_w, i32_w]
    rfl
  refine one_ (i := 3) (N := some 13) #[true, true, true, true, false, false] rfl rfl (by kernel_rfl) (by decide) (fun K hK => ?_)
  refine goes_ Try.func79 (by kernel_rfl) rfl #[.string b] (by rfl) rfl rfl (by (try simp only [List.map_toArray, List.map_cons, List.map_nil]); first | done | rfl) ?_
  with_reducible refine (CT.out _).mono ?_
  rintro en W2 ⟨v2, rfl, hr, hb⟩
  refine ⟨_, rfl, ?_⟩
  have BI2 := Lib.hid (BI1.out.trans (hb.mono (SB.out _ BI1.out)))
  have R2 := Lib.hid (apart_new R1.out hb hr)
  have U2 := Lib.hid hr
  obtain ⟨Aw2, cw2, rfl, hc, hC⟩ := Kd.R_reads hr
  have HC2 := Lib.hid hC
  clear hc hC
  clear hr hb
  refine hK.out _ _ ((blk_cell (KQ.out _ BI2.out) 0).trans rfl) (fun hHeld => ?_)
  clear hK K
  refine norm_ (a' := ?_) ?_ ?_
  rotate_left
  · show Act.put _ (some 13) _ = _
    simp only [Act.put, List.setIfInBounds_toArray, List.set_cons_zero, List.set_cons_succ, i64_w, i32_w]
    rfl
  refine one_ (i := 4) (N := some 14) #[true, true, true, true, true, false] rfl rfl (by kernel_rfl) (by decide) (fun K hK => ?_)
  refine Kd.R_append_rows_step (Kd.int .u8) (w0 := W0) B (by rfl) (.tmp 10) (.tmp 13) 24 5 (.int .u8 0) 1 rfl Try.underlying24 info5 rfl (by decide) (by omega) v1 xm (cnt b.size ++ bytesOf b) Aw2 (cnt b.size ++ bytesOf b).length cw2 (fun k => (True) ∧ some k ≠ (.slice Aw2 (cnt b.size ++ bytesOf b).length cw2 : Value).ownBlock) (fun _ => False) rfl rfl R2.out HC2.out (fun _ _ h => h) (fun _ h => h.elim) (fun k hk => ⟨trivial, fresh_new U2.out k hk⟩) BI2.out (SB.out _ BI2.out) (by have := pre_le (pre_on P0.out) TT.out; rw [List.length_append] at this; omega) ?_
  intro v3 W3 hO hB hG hL
  have BI3 := Lib.hid hB
  have R3 := Lib.hid (Kd.R_mono hO (fun _ h => h.1))
  clear hO hB hG hL
  refine hK.out _ _ ((blk_cell (KQ.out _ BI3.out) 0).trans rfl) (fun hHeld => ?_)
  clear hK K
  refine norm_ (a' := ?_) ?_ ?_
  rotate_left
  · show Act.put _ (some 14) _ = _
    simp only [Act.put, List.setIfInBounds_toArray, List.set_cons_zero, List.set_cons_succ, i64_w, i32_w]
    rfl
  refine pure_ (i := 5) (N := some 3) (v := ?_) (a' := ?_) #[true, true, true, true, true, true] rfl rfl (by kernel_rfl) (fun _ _ _ h => h) (Or.inl ⟨by rfl, ?_⟩) ?_ ?_
  rotate_left
  · intro w'
    go_simp
    with_reducible rfl
  rotate_left
  · simp only [Act.put, List.setIfInBounds_toArray, List.set_cons_zero, List.set_cons_succ, i64_w, i32_w]
    rfl
  refine done_ (by kernel_rfl) ?_
  
  have P3 := Lib.hid (pre_on P0.out)
  clear P0 R1 R2 U2 HC2 BI1 BI2 hHeld BD0
  generalize xm ++ (cnt b.size ++ bytesOf b) = xs3 at *
  have x1 : W3.cell? ⟨Q, 1, none⟩ = some (.int .u32 z) := (blk_cell (KQ.out _ BI3.out) 1).trans rfl
  go_wp2_with fail
  refine (CB.out _ z HZ.out.1 HZ.out.2).mono ?_
  rintro en W4 ⟨u4, rfl, hr, hb⟩
  have BI4 := Lib.hid (BI3.out.trans (hb.mono (SB.out _ BI3.out)))
  have R4 := Lib.hid (apart_new R3.out hb hr)
  have U4 := Lib.hid hr
  obtain ⟨Au4, cu4, rfl, hc, hC⟩ := Kd.R_reads hr
  have HC4 := Lib.hid hC
  clear hr hb hc hC BI3 R3
  clear x1
  go_wp2_with (at_builtin; go_must (refine Kd.R_append_rows (Kd.int .u8) (w0 := W0) B rfl _ _ 24 5 (.int .u8 0) 1 rfl Try.underlying24 info5 rfl (by decide) (by decide) v3 xs3 (wrd z) Au4 (wrd z).length cu4 (fun k => (True) ∧ some k ≠ (.slice Au4 (wrd z).length cu4 : Value).ownBlock) (fun _ => False) rfl rfl R4.out HC4.out (fun _ _ h => h) (fun _ h => h.elim) (fun k hk => ⟨trivial, fresh_new U4.out k hk⟩) BI4.out (SB.out _ BI4.out) (by have := pre_le (pre_on P3.out) TT.out; rw [List.length_append] at this; omega) ?_; intro v5 W5 hO hB hG hL; have BI5 := Lib.hid hB; have R5 := Lib.hid (Kd.R_mono hO (fun _ h => h.1)); clear hO hB hG hL; have x2 : W5.cell? ⟨Q, 2, none⟩ = some (.slice A2 l2.length c2) := (blk_cell (KQ.out _ BI5.out) 2).trans rfl))
  have P5 := Lib.hid (pre_on P3.out)
  clear P3 R4 U4 HC4 BI4
  generalize xs3 ++ (wrd z) = xs5 at *
  refine (CI.out _ (Kd.C_below FA.out.r2 (LB.out _ BI5.out))).mono ?_
  rintro en W6 ⟨u6, rfl, hr, hb⟩
  have BI6 := Lib.hid (BI5.out.trans (hb.mono (SB.out _ BI5.out)))
  have R6 := Lib.hid (apart_new R5.out hb hr)
  have U6 := Lib.hid hr
  obtain ⟨Au6, cu6, rfl, hc, hC⟩ := Kd.R_reads hr
  have HC6 := Lib.hid hC
  clear hr hb hc hC BI5 R5
  clear x2
  go_wp2_with (at_builtin; go_must (refine Kd.R_append_rows (Kd.int .u8) (w0 := W0) B rfl _ _ 24 5 (.int .u8 0) 1 rfl Try.underlying24 info5 rfl (by decide) (by decide) v5 xs5 (impsB l2) Au6 (impsB l2).length cu6 (fun k => (True) ∧ some k ≠ (.slice Au6 (impsB l2).length cu6 : Value).ownBlock) (fun _ => False) rfl rfl R6.out HC6.out (fun _ _ h => h) (fun _ h => h.elim) (fun k hk => ⟨trivial, fresh_new U6.out k hk⟩) BI6.out (SB.out _ BI6.out) (by have := pre_le (pre_on P5.out) TT.out; rw [List.length_append] at this; omega) ?_; intro v7 W7 hO hB hG hL; have BI7 := Lib.hid hB; have R7 := Lib.hid (Kd.R_mono hO (fun _ h => h.1)); clear hO hB hG hL; have x3 : W7.cell? ⟨Q, 3, none⟩ = some (.slice A3 l3.length c3) := (blk_cell (KQ.out _ BI7.out) 3).trans rfl))
  have P7 := Lib.hid (pre_on P5.out)
  clear P5 R6 U6 HC6 BI6
  generalize xs5 ++ (impsB l2) = xs7 at *
  have hln3 : l3.length ≤ 16384 := FI.out.n3
  have hln4 : l4.length ≤ 16384 := FI.out.n4
  have hln5 : l5.length ≤ 16384 := FI.out.n5
  refine ((by have := CC.out W7 (l3.length : Int) (by omega); rwa [Int.toNat_natCast] at this : Calls Try.prog 75 #[.int .i64 (l3.length : Int)] W7 (NewRow W7 (cnt l3.length)))).mono ?_
  rintro en W8 ⟨u8, rfl, hr, hb⟩
  have BI8 := Lib.hid (BI7.out.trans (hb.mono (SB.out _ BI7.out)))
  have R8 := Lib.hid (apart_new R7.out hb hr)
  have U8 := Lib.hid hr
  obtain ⟨Au8, cu8, rfl, hc, hC⟩ := Kd.R_reads hr
  have HC8 := Lib.hid hC
  clear hr hb hc hC BI7 R7
  clear x3
  go_wp2_with (at_builtin; go_must (refine Kd.R_append_rows (Kd.int .u8) (w0 := W0) B rfl _ _ 24 5 (.int .u8 0) 1 rfl Try.underlying24 info5 rfl (by decide) (by decide) v7 xs7 (cnt l3.length) Au8 (cnt l3.length).length cu8 (fun k => (True) ∧ some k ≠ (.slice Au8 (cnt l3.length).length cu8 : Value).ownBlock) (fun _ => False) rfl rfl R8.out HC8.out (fun _ _ h => h) (fun _ h => h.elim) (fun k hk => ⟨trivial, fresh_new U8.out k hk⟩) BI8.out (SB.out _ BI8.out) (by have := pre_le (pre_on P7.out) TT.out; rw [List.length_append] at this; omega) ?_; intro v9 W9 hO hB hG hL; have BI9 := Lib.hid hB; have R9 := Lib.hid (Kd.R_mono hO (fun _ h => h.1)); clear hO hB hG hL))
  have P9 := Lib.hid (pre_on P7.out)
  clear P7 R8 U8 HC8 BI8
  generalize xs7 ++ (cnt l3.length) = xs9 at *
  go_loopw [3, 4] (fun r3 r wr => ∃ (k : Nat) (v : Value) (xs : List Int), k ≤ l3.length ∧ v = r3 ∧ r = .int .i64 k ∧ Hid (Below B W0 wr) ∧ Hid (Kd.R (Kd.int .u8) 5 wr B (fun _ => True) v xs) ∧ Hid (xs ++ ((l3.drop k).flatMap wrd ++ (cnt l4.length ++ (l4.flatMap fixB ++ (cnt l5.length ++ (l5.flatMap segB ++ (cnt d.toNat ++ (cnt e.toNat ++ (cnt y.toNat ++ [])))))))) = FB)) (fun _ r _ => l3.length - (intOf r).toNat)
  case atStart => exact ⟨0, v9, xs9, by omega, rfl, rfl, BI9, R9, Lib.hid (by rw [List.drop_zero]; exact P9.out)⟩
  case round =>
    clear BI9 R9 P9
    obtain ⟨k, v10, xs10, hk, rfl, rfl, BI10, R10, P10⟩ := hrel
    have x3 : wr.cell? ⟨Q, 3, none⟩ = some (.slice A3 l3.length c3) := (blk_cell (KQ.out _ BI10.out) 3).trans rfl
    by_cases hlt : k < l3.length
    · obtain ⟨bb, off, rfl, hbl, y0⟩ := rowU FA.out.r3 k hlt
      have q0 := cell_old (LB.out _ BI10.out) hbl y0
      have o := O3.out l3[k] (List.getElem_mem hlt)
      have PE : Hid (xs10 ++ (wrd l3[k] ++ ((l3.drop (k + 1)).flatMap wrd ++ (cnt l4.length ++ (l4.flatMap fixB ++ (cnt l5.length ++ (l5.flatMap segB ++ (cnt d.toNat ++ (cnt e.toNat ++ (cnt y.toNat ++ []))))))))) = FB) := Lib.hid (by have h := P10.out; rw [drop_flat wrd l3 k hlt, List.append_assoc] at h; exact h)
      generalize l3[k] = x at *
      have OX := Lib.hid o
      clear o y0 P10
      have P10 := PE
      clear PE
      go_wp2_with fail
      refine (CB.out _ x OX.out.1 OX.out.2).mono ?_
      rintro en W11 ⟨u11, rfl, hr, hb⟩
      have BI11 := Lib.hid (BI10.out.trans (hb.mono (SB.out _ BI10.out)))
      have R11 := Lib.hid (apart_new R10.out hb hr)
      have U11 := Lib.hid hr
      obtain ⟨Au11, cu11, rfl, hc, hC⟩ := Kd.R_reads hr
      have HC11 := Lib.hid hC
      clear hr hb hc hC BI10 R10
      clear x3 q0
      go_wp2_with (at_builtin; go_must (refine Kd.R_append_rows (Kd.int .u8) (w0 := W0) B rfl _ _ 24 5 (.int .u8 0) 1 rfl Try.underlying24 info5 rfl (by decide) (by decide) v10 xs10 (wrd x) Au11 (wrd x).length cu11 (fun k => (True) ∧ some k ≠ (.slice Au11 (wrd x).length cu11 : Value).ownBlock) (fun _ => False) rfl rfl R11.out HC11.out (fun _ _ h => h) (fun _ h => h.elim) (fun k hk => ⟨trivial, fresh_new U11.out k hk⟩) BI11.out (SB.out _ BI11.out) (by have := pre_le (pre_on P10.out) TT.out; rw [List.length_append] at this; omega) ?_; intro v12 W12 hO hB hG hL; have BI12 := Lib.hid hB; have R12 := Lib.hid (Kd.R_mono hO (fun _ h => h.1)); clear hO hB hG hL))
      have P12 := Lib.hid (pre_on P10.out)
      clear P10 R11 U11 HC11 BI11
      generalize xs10 ++ (wrd x) = xs12 at *
      go_roundw
      case rel => exact ⟨k + 1, v12, xs12, by omega, rfl, by go_num, BI12, R12, P12⟩
      case measure => simp [intOf]; omega
    obtain rfl : k = l3.length := by omega
    have P11 : Hid (xs10 ++ (cnt l4.length ++ (l4.flatMap fixB ++ (cnt l5.length ++ (l5.flatMap segB ++ (cnt d.toNat ++ (cnt e.toNat ++ (cnt y.toNat ++ []))))))) = FB) := Lib.hid (by have h := P10.out; rw [List.drop_eq_nil_of_le (Nat.le_refl _), List.flatMap_nil, List.nil_append] at h; exact h)
    have BI11 := BI10
    have R11 := R10
    clear P10 BI10 R10 hk hlt
    generalize v10 = v11 at *
    generalize xs10 = xs11 at *
    generalize wr = W11 at *
    clear x3
    have x3 : W11.cell? ⟨Q, 3, none⟩ = some (.slice A3 l3.length c3) := (blk_cell (KQ.out _ BI11.out) 3).trans rfl; have x4 : W11.cell? ⟨Q, 4, none⟩ = some (.slice A4 l4.length c4) := (blk_cell (KQ.out _ BI11.out) 4).trans rfl
    go_wp2_with fail
    refine ((by have := CC.out W11 (l4.length : Int) (by omega); rwa [Int.toNat_natCast] at this : Calls Try.prog 75 #[.int .i64 (l4.length : Int)] W11 (NewRow W11 (cnt l4.length)))).mono ?_
    rintro en W12 ⟨u12, rfl, hr, hb⟩
    have BI12 := Lib.hid (BI11.out.trans (hb.mono (SB.out _ BI11.out)))
    have R12 := Lib.hid (apart_new R11.out hb hr)
    have U12 := Lib.hid hr
    obtain ⟨Au12, cu12, rfl, hc, hC⟩ := Kd.R_reads hr
    have HC12 := Lib.hid hC
    clear hr hb hc hC BI11 R11
    clear x4
    go_wp2_with (at_builtin; go_must (refine Kd.R_append_rows (Kd.int .u8) (w0 := W0) B rfl _ _ 24 5 (.int .u8 0) 1 rfl Try.underlying24 info5 rfl (by decide) (by decide) v11 xs11 (cnt l4.length) Au12 (cnt l4.length).length cu12 (fun k => (True) ∧ some k ≠ (.slice Au12 (cnt l4.length).length cu12 : Value).ownBlock) (fun _ => False) rfl rfl R12.out HC12.out (fun _ _ h => h) (fun _ h => h.elim) (fun k hk => ⟨trivial, fresh_new U12.out k hk⟩) BI12.out (SB.out _ BI12.out) (by have := pre_le (pre_on P11.out) TT.out; rw [List.length_append] at this; omega) ?_; intro v13 W13 hO hB hG hL; have BI13 := Lib.hid hB; have R13 := Lib.hid (Kd.R_mono hO (fun _ h => h.1)); clear hO hB hG hL))
    have P13 := Lib.hid (pre_on P11.out)
    clear P11 R12 U12 HC12 BI12
    generalize xs11 ++ (cnt l4.length) = xs13 at *
    try clear x3
    go_loopw [3, 5] (fun r3 r wr => ∃ (k : Nat) (v : Value) (xs : List Int), k ≤ l4.length ∧ v = r3 ∧ r = .int .i64 k ∧ Hid (Below B W0 wr) ∧ Hid (Kd.R (Kd.int .u8) 5 wr B (fun _ => True) v xs) ∧ Hid (xs ++ ((l4.drop k).flatMap fixB ++ (cnt l5.length ++ (l5.flatMap segB ++ (cnt d.toNat ++ (cnt e.toNat ++ (cnt y.toNat ++ [])))))) = FB)) (fun _ r _ => l4.length - (intOf r).toNat)
    case atStart => exact ⟨0, v13, xs13, by omega, rfl, rfl, BI13, R13, Lib.hid (by rw [List.drop_zero]; exact P13.out)⟩
    case round =>
      clear BI13 R13 P13
      obtain ⟨k, v14, xs14, hk, rfl, rfl, BI14, R14, P14⟩ := hrel
      have x4 : wr.cell? ⟨Q, 4, none⟩ = some (.slice A4 l4.length c4) := (blk_cell (KQ.out _ BI14.out) 4).trans rfl
      by_cases hlt : k < l4.length
      · obtain ⟨bb, off, rfl, hbl, y0, y1, y2, y3⟩ := row134u FA.out.r4 k hlt
        have q0 := cell_old (LB.out _ BI14.out) hbl y0
        have q1 := cell_old (LB.out _ BI14.out) hbl y1
        have q2 := cell_old (LB.out _ BI14.out) hbl y2
        have q3 := cell_old (LB.out _ BI14.out) hbl y3
        have o := FI.out.s4 l4[k] (List.getElem_mem hlt)
        have PE : Hid (xs14 ++ (fixB l4[k] ++ ((l4.drop (k + 1)).flatMap fixB ++ (cnt l5.length ++ (l5.flatMap segB ++ (cnt d.toNat ++ (cnt e.toNat ++ (cnt y.toNat ++ []))))))) = FB) := Lib.hid (by have h := P14.out; rw [drop_flat fixB l4 k hlt, List.append_assoc] at h; exact h)
        generalize l4[k] = x at *
        obtain ⟨f0, f1, f2, f3⟩ := x
        simp only at q0 q1 q2 q3
        have OX := Lib.hid o
        clear o y0 y1 y2 y3 P14
        obtain ⟨fl, hfl⟩ : ∃ fl : List Int, fl = [f0, f1, f2, f3] := ⟨_, rfl⟩
        have FL := Lib.hid hfl
        obtain ⟨L_, hL_⟩ : ∃ L_, L_ = wr.heap.size + 1 := ⟨_, rfl⟩
        have ba : Below wr.heap.size wr ((wr.alloc (.cells #[.int .i64 f0, .int .i64 f1, .int .i64 f2, .int .i64 f3] 134)).alloc (.cells #[.int .i64 f0, .int .i64 f1, .int .i64 f2, .int .i64 f3] 149)) := ((Below.refl _ _).alloc (Nat.le_refl _) _).alloc ((Below.refl _ _).alloc (Nat.le_refl _) _).size _
        have KL15 : Hid (((wr.alloc (.cells #[.int .i64 f0, .int .i64 f1, .int .i64 f2, .int .i64 f3] 134)).alloc (.cells #[.int .i64 f0, .int .i64 f1, .int .i64 f2, .int .i64 f3] 149)).heap[L_]? = some (.cells #[.int .i64 f0, .int .i64 f1, .int .i64 f2, .int .i64 f3] 149 (0, 0))) := Lib.hid (by rw [hL_]; simpa using heap_alloc_new (wr.alloc (.cells #[.int .i64 f0, .int .i64 f1, .int .i64 f2, .int .i64 f3] 134)) (.cells #[.int .i64 f0, .int .i64 f1, .int .i64 f2, .int .i64 f3] 149))
        have BI15 := Lib.hid (BI14.out.trans (ba.mono (SB.out _ BI14.out)))
        have R15 : Hid (Kd.R (Kd.int .u8) 5 ((wr.alloc (.cells #[.int .i64 f0, .int .i64 f1, .int .i64 f2, .int .i64 f3] 134)).alloc (.cells #[.int .i64 f0, .int .i64 f1, .int .i64 f2, .int .i64 f3] 149)) B (fun k => k ≠ L_) v14 xs14) := Lib.hid (Kd.R_below (Kd.R_mono (Kd.R_bound R14.out) (fun k hk => by have := hk.2.2.1; omega)) ba)
        have P15 : Hid (xs14 ++ (fl.flatMap (fun x => cnt x.toNat) ++ ((l4.drop (k + 1)).flatMap fixB ++ (cnt l5.length ++ (l5.flatMap segB ++ (cnt d.toNat ++ (cnt e.toNat ++ (cnt y.toNat ++ []))))))) = FB) := Lib.hid (by have h := PE.out; rw [hfl]; simp only [fixB, List.flatMap_cons, List.flatMap_nil, List.append_assoc, List.append_nil, List.nil_append] at h ⊢; exact h)
        have LL : Hid (wr.heap.size < L_) := Lib.hid (by omega)
        clear PE ba R14 BI14 hfl
        go_wp2
        rw [← hL_]
        clear hL_ q0 q1 q2 q3 x4
        generalize (wr.alloc (.cells #[.int .i64 f0, .int .i64 f1, .int .i64 f2, .int .i64 f3] 134)).alloc (.cells #[.int .i64 f0, .int .i64 f1, .int .i64 f2, .int .i64 f3] 149) = W15 at *
        generalize v14 = v15 at *
        generalize xs14 = xs15 at *
        have FN : Hid (fl.length = 4) := Lib.hid (by rw [FL.out]; rfl)
        have FO : Hid (∀ x ∈ fl, x ≤ 9223372036854775807) := Lib.hid (by rw [FL.out]; have h := OX.out; unfold Fits134 at h; simp only at h; intro x hx; simp only [List.mem_cons, List.not_mem_nil, or_false] at hx; omega)
        go_loopw [3, 8] (fun r3 r wr => ∃ (j : Nat) (v : Value) (xs : List Int), j ≤ 4 ∧ v = r3 ∧ r = .int .i64 j ∧ Hid (Below B W0 wr) ∧ Hid (Kd.R (Kd.int .u8) 5 wr B (fun k => k ≠ L_) v xs) ∧ Hid (wr.heap[L_]? = some (.cells #[.int .i64 f0, .int .i64 f1, .int .i64 f2, .int .i64 f3] 149 (0, 0))) ∧ Hid (xs ++ ((fl.drop j).flatMap (fun x => cnt x.toNat) ++ ((l4.drop (k + 1)).flatMap fixB ++ (cnt l5.length ++ (l5.flatMap segB ++ (cnt d.toNat ++ (cnt e.toNat ++ (cnt y.toNat ++ []))))))) = FB)) (fun _ r _ => 4 - (intOf r).toNat)
        case atStart => exact ⟨0, v15, xs15, by omega, rfl, rfl, BI15, R15, KL15, Lib.hid (by rw [List.drop_zero]; exact P15.out)⟩
        case round =>
          clear BI15 R15 KL15 P15
          obtain ⟨j, v16, xs16, hj, rfl, rfl, BI16, R16, KL16, P16⟩ := hrel
          by_cases hj4 : j < 4
          · have hjl : j < fl.length := by rw [FN.out]; exact hj4
            have ce : wr.cell? ⟨L_, j, none⟩ = some (.int .i64 fl[j]) := (blk_cell KL16.out j).trans (by have h := FL.out; subst h; rcases (show j = 0 ∨ j = 1 ∨ j = 2 ∨ j = 3 by omega) with rfl | rfl | rfl | rfl <;> rfl)
            have o := FO.out fl[j] (List.getElem_mem hjl)
            have PE : Hid (xs16 ++ (cnt fl[j].toNat ++ ((fl.drop (j + 1)).flatMap (fun x => cnt x.toNat) ++ ((l4.drop (k + 1)).flatMap fixB ++ (cnt l5.length ++ (l5.flatMap segB ++ (cnt d.toNat ++ (cnt e.toNat ++ (cnt y.toNat ++ [])))))))) = FB) := Lib.hid (by have h := P16.out; rw [drop_flat (fun x => cnt x.toNat) fl j hjl, List.append_assoc] at h; exact h)
            generalize fl[j] = x at *
            have OE := Lib.hid o
            clear o P16 hjl
            have P16 := PE
            clear PE
            go_wp2_with fail
            refine (CC.out _ x OE.out).mono ?_
            rintro en W17 ⟨u17, rfl, hr, hb⟩
            have BI17 := Lib.hid (BI16.out.trans (hb.mono (SB.out _ BI16.out)))
            have R17 := Lib.hid (apart_new R16.out hb hr)
            have U17 := Lib.hid hr
            obtain ⟨Au17, cu17, rfl, hc, hC⟩ := Kd.R_reads hr
            have HC17 := Lib.hid hC
            have KL17 := Lib.hid ((hb.block _ (blk_lt KL16.out)).trans KL16.out)
            clear hr hb hc hC BI16 R16 KL16
            clear ce
            go_wp2_with (at_builtin; go_must (refine Kd.R_append_rows (Kd.int .u8) (w0 := W0) B rfl _ _ 24 5 (.int .u8 0) 1 rfl Try.underlying24 info5 rfl (by decide) (by decide) v16 xs16 (cnt x.toNat) Au17 (cnt x.toNat).length cu17 (fun k => (k ≠ L_) ∧ some k ≠ (.slice Au17 (cnt x.toNat).length cu17 : Value).ownBlock) (fun _ => False) rfl rfl R17.out HC17.out (fun _ _ h => h) (fun _ h => h.elim) (fun k hk => ⟨by have := blk_lt KL17.out; omega, fresh_new U17.out k hk⟩) BI17.out (SB.out _ BI17.out) (by have := pre_le (pre_on P16.out) TT.out; rw [List.length_append] at this; omega) ?_; intro v18 W18 hO hB hG hL; have BI18 := Lib.hid hB; have R18 := Lib.hid (Kd.R_mono hO (fun _ h => h.1)); have KL18 := Lib.hid ((hG.block _ (blk_lt KL17.out) (fun e => by have := R17.out.1 _ e.symm; exact this.1 rfl)).trans KL17.out); clear hO hB hG hL))
            have P18 := Lib.hid (pre_on P16.out)
            clear P16 R17 U17 HC17 BI17 KL17
            generalize xs16 ++ (cnt x.toNat) = xs18 at *
            go_roundw
            case rel => exact ⟨j + 1, v18, xs18, by omega, rfl, by go_num, BI18, R18, KL18, P18⟩
            case measure => simp [intOf]; omega
          obtain rfl : j = 4 := by omega
          have P19 : Hid (xs16 ++ ((l4.drop (k + 1)).flatMap fixB ++ (cnt l5.length ++ (l5.flatMap segB ++ (cnt d.toNat ++ (cnt e.toNat ++ (cnt y.toNat ++ [])))))) = FB) := Lib.hid (by have h := P16.out; rw [List.drop_eq_nil_of_le (by rw [FN.out]; omega), List.flatMap_nil, List.nil_append] at h; exact h)
          have RX := Lib.hid (Kd.R_mono R16.out (fun _ _ => trivial : ∀ k_, k_ ≠ L_ → True))
          go_wp2
          go_roundw
          case rel => exact ⟨k + 1, v16, xs16, by omega, rfl, by go_num, BI16, RX, P19⟩
          case measure => simp [intOf]; omega
      obtain rfl : k = l4.length := by omega
      have P15 : Hid (xs14 ++ (cnt l5.length ++ (l5.flatMap segB ++ (cnt d.toNat ++ (cnt e.toNat ++ (cnt y.toNat ++ []))))) = FB) := Lib.hid (by have h := P14.out; rw [List.drop_eq_nil_of_le (Nat.le_refl _), List.flatMap_nil, List.nil_append] at h; exact h)
      have BI15 := BI14
      have R15 := R14
      clear P14 BI14 R14 hk hlt
      generalize v14 = v15 at *
      generalize xs14 = xs15 at *
      generalize wr = W15 at *
      clear x4
      have x4 : W15.cell? ⟨Q, 4, none⟩ = some (.slice A4 l4.length c4) := (blk_cell (KQ.out _ BI15.out) 4).trans rfl; have x5 : W15.cell? ⟨Q, 5, none⟩ = some (.slice A5 l5.length c5) := (blk_cell (KQ.out _ BI15.out) 5).trans rfl
      go_wp2_with fail
      refine ((by have := CC.out W15 (l5.length : Int) (by omega); rwa [Int.toNat_natCast] at this : Calls Try.prog 75 #[.int .i64 (l5.length : Int)] W15 (NewRow W15 (cnt l5.length)))).mono ?_
      rintro en W16 ⟨u16, rfl, hr, hb⟩
      have BI16 := Lib.hid (BI15.out.trans (hb.mono (SB.out _ BI15.out)))
      have R16 := Lib.hid (apart_new R15.out hb hr)
      have U16 := Lib.hid hr
      obtain ⟨Au16, cu16, rfl, hc, hC⟩ := Kd.R_reads hr
      have HC16 := Lib.hid hC
      clear hr hb hc hC BI15 R15
      clear x5
      go_wp2_with (at_builtin; go_must (refine Kd.R_append_rows (Kd.int .u8) (w0 := W0) B rfl _ _ 24 5 (.int .u8 0) 1 rfl Try.underlying24 info5 rfl (by decide) (by decide) v15 xs15 (cnt l5.length) Au16 (cnt l5.length).length cu16 (fun k => (True) ∧ some k ≠ (.slice Au16 (cnt l5.length).length cu16 : Value).ownBlock) (fun _ => False) rfl rfl R16.out HC16.out (fun _ _ h => h) (fun _ h => h.elim) (fun k hk => ⟨trivial, fresh_new U16.out k hk⟩) BI16.out (SB.out _ BI16.out) (by have := pre_le (pre_on P15.out) TT.out; rw [List.length_append] at this; omega) ?_; intro v17 W17 hO hB hG hL; have BI17 := Lib.hid hB; have R17 := Lib.hid (Kd.R_mono hO (fun _ h => h.1)); clear hO hB hG hL))
      have P17 := Lib.hid (pre_on P15.out)
      clear P15 R16 U16 HC16 BI16
      generalize xs15 ++ (cnt l5.length) = xs17 at *
      try clear x4
      go_loopw [3, 9] (fun r3 r wr => ∃ (k : Nat) (v : Value) (xs : List Int), k ≤ l5.length ∧ v = r3 ∧ r = .int .i64 k ∧ Hid (Below B W0 wr) ∧ Hid (Kd.R (Kd.int .u8) 5 wr B (fun _ => True) v xs) ∧ Hid (xs ++ ((l5.drop k).flatMap segB ++ (cnt d.toNat ++ (cnt e.toNat ++ (cnt y.toNat ++ [])))) = FB)) (fun _ r _ => l5.length - (intOf r).toNat)
      case atStart => exact ⟨0, v17, xs17, by omega, rfl, rfl, BI17, R17, Lib.hid (by rw [List.drop_zero]; exact P17.out)⟩
      case round =>
        clear BI17 R17 P17
        obtain ⟨k, v18, xs18, hk, rfl, rfl, BI18, R18, P18⟩ := hrel
        have x5 : wr.cell? ⟨Q, 5, none⟩ = some (.slice A5 l5.length c5) := (blk_cell (KQ.out _ BI18.out) 5).trans rfl
        by_cases hlt : k < l5.length
        · obtain ⟨bb, off, rfl, hbl, y0, y1⟩ := row131u FA.out.r5 k hlt
          have o := FI.out.s5 l5[k] (List.getElem_mem hlt)
          have PE : Hid (xs18 ++ (segB l5[k] ++ ((l5.drop (k + 1)).flatMap segB ++ (cnt d.toNat ++ (cnt e.toNat ++ (cnt y.toNat ++ []))))) = FB) := Lib.hid (by have h := P18.out; rw [drop_flat segB l5 k hlt, List.append_assoc] at h; exact h)
          generalize l5[k] = x at *
          obtain ⟨f0, f1⟩ := x
          simp only at y0 y1
          unfold Fits131 at o
          simp only at o
          have OX := Lib.hid o
          have HBL := Lib.hid hbl
          have Y0 := Lib.hid y0
          have Y1 := Lib.hid y1
          have P68 : Hid (xs18 ++ (cnt f0.toNat ++ (cnt (f1 + 1).toNat ++ ((l5.drop (k + 1)).flatMap segB ++ (cnt d.toNat ++ (cnt e.toNat ++ (cnt y.toNat ++ [])))))) = FB) := Lib.hid (by have h := PE.out; simp only [segB, List.append_assoc] at h ⊢; exact h)
          have hw_ : IntKind.i64.wrap (f1 + 1) = f1 + 1 := by rw [i64_w]; unfold wrap64; omega
          have BD : Hid (Below B W0 wr.drew) := Lib.hid BI18.out.drew
          have RD : Hid (Kd.R (Kd.int .u8) 5 wr.drew B (fun _ => True) v18 xs18) := Lib.hid (Kd.R_drew R18.out)
          clear o y0 y1 PE P18
          go_upto_region 23 with fail
          clear x5
          refine start_ (n := 19) (S := fun w' => w'.cell? ⟨Q, 5, none⟩ = some (.slice (some ⟨bb, off, none⟩) l5.length c5) ∧ w'.cell? ⟨bb, off + k * 2, none⟩ = some (.int .i64 f0) ∧ w'.cell? ⟨bb, off + k * 2 + 1, none⟩ = some (.int .i64 f1)) (ds := []) #[false, false, false, false, false, false, false, false, false, false, false, false, false, false, false, false, false, false, false] (by kernel_rfl) rfl rfl ⟨(blk_cell (KQ.out _ BD.out) 5).trans rfl, cell_old (LB.out _ BD.out) HBL.out Y0.out, cell_old (LB.out _ BD.out) HBL.out Y1.out⟩ (fun hHeld => ?_)
          refine pure_ (i := 0) (N := some 96) (v := ?_) (a' := ?_) #[true, false, false, false, false, false, false, false, false, false, false, false, false, false, false, false, false, false, false] rfl rfl (by kernel_rfl) (fun _ _ _ h => h) (Or.inl ⟨by rfl, ?_⟩) ?_ ?_
          rotate_left
          · intro w'
            go_simp
            with_reducible rfl
          rotate_left
          · simp only [Act.put, List.setIfInBounds_toArray, List.set_cons_zero, List.set_cons_succ, i64_w, i32_w]
            rfl
          refine pure_ (i := 1) (N := some 97) (v := ?_) (a' := ?_) #[true, true, false, false, false, false, false, false, false, false, false, false, false, false, false, false, false, false, false] rfl rfl (by kernel_rfl) (fun _ _ _ h => h) (Or.inl ⟨by rfl, ?_⟩) ?_ ?_
          rotate_left
          · intro w'
            go_simp
            with_reducible rfl
          rotate_left
          · simp only [Act.put, List.setIfInBounds_toArray, List.set_cons_zero, List.set_cons_succ, i64_w, i32_w]
            rfl
          refine pure_ (i := 3) (N := some 99) (v := ?_) (a' := ?_) #[true, true, false, true, false, false, false, false, false, false, false, false, false, false, false, false, false, false, false] rfl rfl (by kernel_rfl) (fun _ _ _ h => h) (Or.inl ⟨by rfl, ?_⟩) ?_ ?_
          rotate_left
          · intro w'
            go_simp
            with_reducible rfl
          rotate_left
          · simp only [Act.put, List.setIfInBounds_toArray, List.set_cons_zero, List.set_cons_succ, i64_w, i32_w]
            rfl
          refine pure_ (i := 9) (N := some 105) (v := ?_) (a' := ?_) #[true, true, false, true, false, false, false, false, false, true, false, false, false, false, false, false, false, false, false] rfl rfl (by kernel_rfl) (fun _ _ _ h => h) (Or.inl ⟨by rfl, ?_⟩) ?_ ?_
          rotate_left
          · intro w'
            go_simp
            with_reducible rfl
          rotate_left
          · simp only [Act.put, List.setIfInBounds_toArray, List.set_cons_zero, List.set_cons_succ, i64_w, i32_w]
            rfl
          refine pure_ (i := 11) (N := some 107) (v := ?_) (a' := ?_) #[true, true, false, true, false, false, false, false, false, true, false, true, false, false, false, false, false, false, false] rfl rfl (by kernel_rfl) (fun _ _ _ h => h) (Or.inl ⟨by rfl, ?_⟩) ?_ ?_
          rotate_left
          · intro w'
            go_simp
            with_reducible rfl
          rotate_left
          · simp only [Act.put, List.setIfInBounds_toArray, List.set_cons_zero, List.set_cons_succ, i64_w, i32_w]
            rfl
          refine take_ (i := 2) (N := some 98) (v := ?_) (a' := ?_) #[true, true, true, true, false, false, false, false, false, true, false, true, false, false, false, false, false, false, false] rfl rfl (by kernel_rfl) (fun _ _ _ h => h) (Or.inl ⟨by rfl, ?_⟩) hHeld ?_ ?_
          rotate_left
          · rintro w' ⟨s0, s1, s2⟩
            go_simp
            with_reducible rfl
          rotate_left
          · simp only [Act.put, List.setIfInBounds_toArray, List.set_cons_zero, List.set_cons_succ, i64_w, i32_w]
            rfl
          refine pure_ (i := 4) (N := some 100) (v := ?_) (a' := ?_) #[true, true, true, true, true, false, false, false, false, true, false, true, false, false, false, false, false, false, false] rfl rfl (by kernel_rfl) (fun _ _ _ h => h) (Or.inl ⟨by rfl, ?_⟩) ?_ ?_
          rotate_left
          · intro w'
            go_simp
            with_reducible rfl
          rotate_left
          · simp only [Act.put, List.setIfInBounds_toArray, List.set_cons_zero, List.set_cons_succ, i64_w, i32_w]
            rfl
          refine pure_ (i := 5) (N := some 101) (v := ?_) (a' := ?_) #[true, true, true, true, true, true, false, false, false, true, false, true, false, false, false, false, false, false, false] rfl rfl (by kernel_rfl) (fun _ _ _ h => h) (Or.inl ⟨by rfl, ?_⟩) ?_ ?_
          rotate_left
          · intro w'
            go_simp
            with_reducible rfl
          rotate_left
          · simp only [Act.put, List.setIfInBounds_toArray, List.set_cons_zero, List.set_cons_succ, i64_w, i32_w]
            rfl
          refine take_ (i := 6) (N := some 102) (v := ?_) (a' := ?_) #[true, true, true, true, true, true, true, false, false, true, false, true, false, false, false, false, false, false, false] rfl rfl (by kernel_rfl) (fun _ _ _ h => h) (Or.inl ⟨by rfl, ?_⟩) hHeld ?_ ?_
          rotate_left
          · rintro w' ⟨s0, s1, s2⟩
            go_simp
            with_reducible rfl
          rotate_left
          · simp only [Act.put, List.setIfInBounds_toArray, List.set_cons_zero, List.set_cons_succ, i64_w, i32_w]
            rfl
          refine take_ (i := 10) (N := some 106) (v := ?_) (a' := ?_) #[true, true, true, true, true, true, true, false, false, true, true, true, false, false, false, false, false, false, false] rfl rfl (by kernel_rfl) (fun _ _ _ h => h) (Or.inl ⟨by rfl, ?_⟩) hHeld ?_ ?_
          rotate_left
          · rintro w' ⟨s0, s1, s2⟩
            go_simp
            with_reducible rfl
          rotate_left
          · simp only [Act.put, List.setIfInBounds_toArray, List.set_cons_zero, List.set_cons_succ, i64_w, i32_w]
            rfl
          refine pure_ (i := 12) (N := some 108) (v := ?_) (a' := ?_) #[true, true, true, true, true, true, true, false, false, true, true, true, true, false, false, false, false, false, false] rfl rfl (by kernel_rfl) (fun _ _ _ h => h) (Or.inl ⟨by rfl, ?_⟩) ?_ ?_
          rotate_left
          · intro w'
            go_simp
            with_reducible rfl
          rotate_left
          · simp only [Act.put, List.setIfInBounds_toArray, List.set_cons_zero, List.set_cons_succ, i64_w, i32_w]
            rfl
          refine pure_ (i := 13) (N := some 109) (v := ?_) (a' := ?_) #[true, true, true, true, true, true, true, false, false, true, true, true, true, true, false, false, false, false, false] rfl rfl (by kernel_rfl) (fun _ _ _ h => h) (Or.inl ⟨by rfl, ?_⟩) ?_ ?_
          rotate_left
          · intro w'
            go_simp
            with_reducible rfl
          rotate_left
          · simp only [Act.put, List.setIfInBounds_toArray, List.set_cons_zero, List.set_cons_succ, i64_w, i32_w]
            rfl
          refine take_ (i := 14) (N := some 110) (v := ?_) (a' := ?_) #[true, true, true, true, true, true, true, false, false, true, true, true, true, true, true, false, false, false, false] rfl rfl (by kernel_rfl) (fun _ _ _ h => h) (Or.inl ⟨by rfl, ?_⟩) hHeld ?_ ?_
          rotate_left
          · rintro w' ⟨s0, s1, s2⟩
            go_simp
            with_reducible rfl
          rotate_left
          · simp only [Act.put, List.setIfInBounds_toArray, List.set_cons_zero, List.set_cons_succ, i64_w, i32_w]
            rfl
          refine pure_ (i := 15) (N := some 111) (v := ?_) (a' := ?_) #[true, true, true, true, true, true, true, false, false, true, true, true, true, true, true, true, false, false, false] rfl rfl (by kernel_rfl) (fun _ _ _ h => h) (Or.inl ⟨by rfl, ?_⟩) ?_ ?_
          rotate_left
          · intro w'
            go_simp
            with_reducible rfl
          rotate_left
          · simp only [Act.put, List.setIfInBounds_toArray, List.set_cons_zero, List.set_cons_succ, i64_w, i32_w]
            rfl
          refine one_ (i := 7) (N := some 103) #[true, true, true, true, true, true, true, true, false, true, true, true, true, true, true, true, false, false, false] rfl rfl (by kernel_rfl) (by decide) (fun K hK => ?_)
          refine goes_ Try.func75 (by kernel_rfl) rfl #[.int .i64 f0] (by rfl) rfl rfl (by (try simp only [List.map_toArray, List.map_cons, List.map_nil]); first | done | rfl) ?_
          with_reducible refine (CC.out _ f0 (by have := OX.out; omega)).mono ?_
          rintro en W78 ⟨v78, rfl, hr, hb⟩
          refine ⟨_, rfl, ?_⟩
          have BI78 := Lib.hid (BD.out.trans (hb.mono (SB.out _ BD.out)))
          have R78 := Lib.hid (apart_new RD.out hb hr)
          have U78 := Lib.hid hr
          obtain ⟨Aw78, cw78, rfl, hc, hC⟩ := Kd.R_reads hr
          have HC78 := Lib.hid hC
          clear hc hC
          clear hr hb
          refine hK.out _ _ ⟨(blk_cell (KQ.out _ BI78.out) 5).trans rfl, cell_old (LB.out _ BI78.out) HBL.out Y0.out, cell_old (LB.out _ BI78.out) HBL.out Y1.out⟩ (fun hHeld => ?_)
          clear hK K
          refine norm_ (a' := ?_) ?_ ?_
          rotate_left
          · show Act.put _ (some 103) _ = _
            simp only [Act.put, List.setIfInBounds_toArray, List.set_cons_zero, List.set_cons_succ, i64_w, i32_w]
            rfl
          refine one_ (i := 8) (N := some 104) #[true, true, true, true, true, true, true, true, true, true, true, true, true, true, true, true, false, false, false] rfl rfl (by kernel_rfl) (by decide) (fun K hK => ?_)
          refine Kd.R_append_rows_step (Kd.int .u8) (w0 := W0) B (by rfl) (.tmp 96) (.tmp 103) 24 5 (.int .u8 0) 1 rfl Try.underlying24 info5 rfl (by decide) (by omega) v18 xs18 (cnt f0.toNat) Aw78 (cnt f0.toNat).length cw78 (fun k => (True) ∧ some k ≠ (.slice Aw78 (cnt f0.toNat).length cw78 : Value).ownBlock) (fun _ => False) rfl rfl R78.out HC78.out (fun _ _ h => h) (fun _ h => h.elim) (fun k hk => ⟨trivial, fresh_new U78.out k hk⟩) BI78.out (SB.out _ BI78.out) (by have := pre_le (pre_on P68.out) TT.out; rw [List.length_append] at this; omega) ?_
          intro v79 W79 hO hB hG hL
          have BI79 := Lib.hid hB
          have R79 := Lib.hid (Kd.R_mono hO (fun _ h => h.1))
          clear hO hB hG hL
          have P79 := Lib.hid (pre_on P68.out)
          refine hK.out _ _ ⟨(blk_cell (KQ.out _ BI79.out) 5).trans rfl, cell_old (LB.out _ BI79.out) HBL.out Y0.out, cell_old (LB.out _ BI79.out) HBL.out Y1.out⟩ (fun hHeld => ?_)
          clear hK K
          refine norm_ (a' := ?_) ?_ ?_
          rotate_left
          · show Act.put _ (some 104) _ = _
            simp only [Act.put, List.setIfInBounds_toArray, List.set_cons_zero, List.set_cons_succ, i64_w, i32_w]
            rfl
          refine one_ (i := 16) (N := some 112) #[true, true, true, true, true, true, true, true, true, true, true, true, true, true, true, true, true, false, false] rfl rfl (by kernel_rfl) (by decide) (fun K hK => ?_)
          refine goes_ Try.func75 (by kernel_rfl) rfl #[.int .i64 (f1 + 1)] (by rfl) rfl rfl (by (try simp only [List.map_toArray, List.map_cons, List.map_nil]); first | done | rfl) ?_
          with_reducible refine (CC.out _ (f1 + 1) (by have := OX.out; omega)).mono ?_
          rintro en W80 ⟨v80, rfl, hr, hb⟩
          refine ⟨_, rfl, ?_⟩
          have BI80 := Lib.hid (BI79.out.trans (hb.mono (SB.out _ BI79.out)))
          have R80 := Lib.hid (apart_new R79.out hb hr)
          have U80 := Lib.hid hr
          obtain ⟨Aw80, cw80, rfl, hc, hC⟩ := Kd.R_reads hr
          have HC80 := Lib.hid hC
          clear hc hC
          clear hr hb
          refine hK.out _ _ ⟨(blk_cell (KQ.out _ BI80.out) 5).trans rfl, cell_old (LB.out _ BI80.out) HBL.out Y0.out, cell_old (LB.out _ BI80.out) HBL.out Y1.out⟩ (fun hHeld => ?_)
          clear hK K
          refine norm_ (a' := ?_) ?_ ?_
          rotate_left
          · show Act.put _ (some 112) _ = _
            simp only [Act.put, List.setIfInBounds_toArray, List.set_cons_zero, List.set_cons_succ, i64_w, i32_w]
            rfl
          refine one_ (i := 17) (N := some 113) #[true, true, true, true, true, true, true, true, true, true, true, true, true, true, true, true, true, true, false] rfl rfl (by kernel_rfl) (by decide) (fun K hK => ?_)
          refine Kd.R_append_rows_step (Kd.int .u8) (w0 := W0) B (by rfl) (.tmp 104) (.tmp 112) 24 5 (.int .u8 0) 1 rfl Try.underlying24 info5 rfl (by decide) (by omega) v79 (xs18 ++ cnt f0.toNat) (cnt (f1 + 1).toNat) Aw80 (cnt (f1 + 1).toNat).length cw80 (fun k => (True) ∧ some k ≠ (.slice Aw80 (cnt (f1 + 1).toNat).length cw80 : Value).ownBlock) (fun _ => False) rfl rfl R80.out HC80.out (fun _ _ h => h) (fun _ h => h.elim) (fun k hk => ⟨trivial, fresh_new U80.out k hk⟩) BI80.out (SB.out _ BI80.out) (by have := pre_le (pre_on P79.out) TT.out; rw [List.length_append] at this; omega) ?_
          intro v81 W81 hO hB hG hL
          have BI81 := Lib.hid hB
          have R81 := Lib.hid (Kd.R_mono hO (fun _ h => h.1))
          clear hO hB hG hL
          have P81 := Lib.hid (pre_on P79.out)
          refine hK.out _ _ ⟨(blk_cell (KQ.out _ BI81.out) 5).trans rfl, cell_old (LB.out _ BI81.out) HBL.out Y0.out, cell_old (LB.out _ BI81.out) HBL.out Y1.out⟩ (fun hHeld => ?_)
          clear hK K
          refine norm_ (a' := ?_) ?_ ?_
          rotate_left
          · show Act.put _ (some 113) _ = _
            simp only [Act.put, List.setIfInBounds_toArray, List.set_cons_zero, List.set_cons_succ, i64_w, i32_w]
            rfl
          refine pure_ (i := 18) (N := some 3) (v := ?_) (a' := ?_) #[true, true, true, true, true, true, true, true, true, true, true, true, true, true, true, true, true, true, true] rfl rfl (by kernel_rfl) (fun _ _ _ h => h) (Or.inl ⟨by rfl, ?_⟩) ?_ ?_
          rotate_left
          · intro w'
            go_simp
            with_reducible rfl
          rotate_left
          · simp only [Act.put, List.setIfInBounds_toArray, List.set_cons_zero, List.set_cons_succ, i64_w, i32_w]
            rfl
          refine done_ (by kernel_rfl) ?_
          
          go_wp2
          go_roundw
          case rel => exact ⟨k + 1, v81, _, by omega, rfl, by go_num, BI81, R81, P81⟩
          case measure => simp [intOf]; omega
        obtain rfl : k = l5.length := by omega
        have P19 : Hid (xs18 ++ (cnt d.toNat ++ (cnt e.toNat ++ (cnt y.toNat ++ []))) = FB) := Lib.hid (by have h := P18.out; rw [List.drop_eq_nil_of_le (Nat.le_refl _), List.flatMap_nil, List.nil_append] at h; exact h)
        have BI19 := BI18
        have R19 := R18
        clear P18 BI18 R18 hk hlt
        generalize v18 = v19 at *
        generalize xs18 = xs19 at *
        generalize wr = W19 at *
        clear x5
        have x5 : W19.cell? ⟨Q, 5, none⟩ = some (.slice A5 l5.length c5) := (blk_cell (KQ.out _ BI19.out) 5).trans rfl; have x6 : W19.cell? ⟨Q, 6, none⟩ = some (.int .i64 d) := (blk_cell (KQ.out _ BI19.out) 6).trans rfl
        go_wp2_with fail
        try clear x5
        have hd_ := FI.out.d
        have he_ := FI.out.e
        have hy_ := FI.out.y
        refine (CC.out _ d (by omega)).mono ?_
        rintro en W20 ⟨u20, rfl, hr, hb⟩
        have BI20 := Lib.hid (BI19.out.trans (hb.mono (SB.out _ BI19.out)))
        have R20 := Lib.hid (apart_new R19.out hb hr)
        have U20 := Lib.hid hr
        obtain ⟨Au20, cu20, rfl, hc, hC⟩ := Kd.R_reads hr
        have HC20 := Lib.hid hC
        clear hr hb hc hC BI19 R19
        clear x6
        go_wp2_with (at_builtin; go_must (refine Kd.R_append_rows (Kd.int .u8) (w0 := W0) B rfl _ _ 24 5 (.int .u8 0) 1 rfl Try.underlying24 info5 rfl (by decide) (by decide) v19 xs19 (cnt d.toNat) Au20 (cnt d.toNat).length cu20 (fun k => (True) ∧ some k ≠ (.slice Au20 (cnt d.toNat).length cu20 : Value).ownBlock) (fun _ => False) rfl rfl R20.out HC20.out (fun _ _ h => h) (fun _ h => h.elim) (fun k hk => ⟨trivial, fresh_new U20.out k hk⟩) BI20.out (SB.out _ BI20.out) (by have := pre_le (pre_on P19.out) TT.out; rw [List.length_append] at this; omega) ?_; intro v21 W21 hO hB hG hL; have BI21 := Lib.hid hB; have R21 := Lib.hid (Kd.R_mono hO (fun _ h => h.1)); clear hO hB hG hL; have x7 : W21.cell? ⟨Q, 7, none⟩ = some (.int .i64 e) := (blk_cell (KQ.out _ BI21.out) 7).trans rfl))
        have P21 := Lib.hid (pre_on P19.out)
        clear P19 R20 U20 HC20 BI20
        generalize xs19 ++ (cnt d.toNat) = xs21 at *
        refine (CC.out _ e (by omega)).mono ?_
        rintro en W22 ⟨u22, rfl, hr, hb⟩
        have BI22 := Lib.hid (BI21.out.trans (hb.mono (SB.out _ BI21.out)))
        have R22 := Lib.hid (apart_new R21.out hb hr)
        have U22 := Lib.hid hr
        obtain ⟨Au22, cu22, rfl, hc, hC⟩ := Kd.R_reads hr
        have HC22 := Lib.hid hC
        clear hr hb hc hC BI21 R21
        clear x7
        go_wp2_with (at_builtin; go_must (refine Kd.R_append_rows (Kd.int .u8) (w0 := W0) B rfl _ _ 24 5 (.int .u8 0) 1 rfl Try.underlying24 info5 rfl (by decide) (by decide) v21 xs21 (cnt e.toNat) Au22 (cnt e.toNat).length cu22 (fun k => (True) ∧ some k ≠ (.slice Au22 (cnt e.toNat).length cu22 : Value).ownBlock) (fun _ => False) rfl rfl R22.out HC22.out (fun _ _ h => h) (fun _ h => h.elim) (fun k hk => ⟨trivial, fresh_new U22.out k hk⟩) BI22.out (SB.out _ BI22.out) (by have := pre_le (pre_on P21.out) TT.out; rw [List.length_append] at this; omega) ?_; intro v23 W23 hO hB hG hL; have BI23 := Lib.hid hB; have R23 := Lib.hid (Kd.R_mono hO (fun _ h => h.1)); clear hO hB hG hL; have x8 : W23.cell? ⟨Q, 8, none⟩ = some (.int .i64 y) := (blk_cell (KQ.out _ BI23.out) 8).trans rfl))
        have P23 := Lib.hid (pre_on P21.out)
        clear P21 R22 U22 HC22 BI22
        generalize xs21 ++ (cnt e.toNat) = xs23 at *
        refine (CC.out _ y (by omega)).mono ?_
        rintro en W24 ⟨u24, rfl, hr, hb⟩
        have BI24 := Lib.hid (BI23.out.trans (hb.mono (SB.out _ BI23.out)))
        have R24 := Lib.hid (apart_new R23.out hb hr)
        have U24 := Lib.hid hr
        obtain ⟨Au24, cu24, rfl, hc, hC⟩ := Kd.R_reads hr
        have HC24 := Lib.hid hC
        clear hr hb hc hC BI23 R23
        clear x8
        go_wp2_with (at_builtin; go_must (refine Kd.R_append_rows (Kd.int .u8) (w0 := W0) B rfl _ _ 24 5 (.int .u8 0) 1 rfl Try.underlying24 info5 rfl (by decide) (by decide) v23 xs23 (cnt y.toNat) Au24 (cnt y.toNat).length cu24 (fun k => (True) ∧ some k ≠ (.slice Au24 (cnt y.toNat).length cu24 : Value).ownBlock) (fun _ => False) rfl rfl R24.out HC24.out (fun _ _ h => h) (fun _ h => h.elim) (fun k hk => ⟨trivial, fresh_new U24.out k hk⟩) BI24.out (SB.out _ BI24.out) (by have := pre_le (pre_on P23.out) TT.out; rw [List.length_append] at this; omega) ?_; intro v25 W25 hO hB hG hL; have BI25 := Lib.hid hB; have R25 := Lib.hid (Kd.R_mono hO (fun _ h => h.1)); clear hO hB hG hL))
        have P25 := Lib.hid (pre_on P23.out)
        clear P23 R24 U24 HC24 BI24
        generalize xs23 ++ (cnt y.toNat) = xs25 at *
        have EF : xs25 = FB := by have h := P25.out; rwa [List.append_nil] at h
        subst EF
        go_ret
        exact ⟨_, rfl, Kd.own_of_R (Kd.R_lower R25.out WB.out), LB.out _ BI25.out⟩
end
end Go.Proofs.Ytehdhmhpmkkneaa
