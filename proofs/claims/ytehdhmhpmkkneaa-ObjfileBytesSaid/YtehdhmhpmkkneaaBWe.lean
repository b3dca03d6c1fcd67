/- We. -/
import Derived.Test.YtehdhmhpmkkneaaBWd
/- objfile.many of fixups and of segments, walked where the bytes are as they should be. -/
namespace Go.Proofs.Ytehdhmhpmkkneaa
open Go.RowKit Go.Proofs.YtehdhmhpmkkneaaW.PrintWords Go.Proofs.YtehdhmhpmkkneaaW.PrintMore Go.Proofs.Ytehdhmhpmkkneaa.PAll
theorem info134r : (Try.prog.info? 134).map (fun i => (i.zero, i.size, i.bytes)) = some (some (.agg #[.int .i64 0, .int .i64 0, .int .i64 0, .int .i64 0]), 4, 32) := by kernel_rfl
set_option maxHeartbeats 4000000 in
set_option maxRecDepth 100000 in
theorem many134 (w0 w : World) (g Bc : Nat) (l : List S134) (rest : List Int) (h : IsR w0 w g ⟨fixesB l ++ rest, 0⟩) (hb : Below w0.heap.size w0 w) (hl : l.length ≤ 16384) (hc : w.heap[Bc]? = some (.cells #[.pointer (some ⟨g, 0, none⟩)] 44 (0, 0))) (hne : Bc ≠ g) (hf : ∀ x ∈ l, Fits134 x) :
    Calls Try.prog 97 #[.pointer (some ⟨g, 0, none⟩), .func (.func 98) #[] #[.pointer (some ⟨Bc, 0, none⟩)]] w (ManyPost k134 134 w0 w g l ⟨rest, 0⟩) := by
  have M0 : Hid (Mid w0 w w g ⟨fixesB l ++ rest, 0⟩) := Lib.hid ⟨h, hb, KeepBut.refl _ _ _⟩
  have HG := Lib.hid M0.out.lt
  have HC := Lib.hid hc
  have NE := Lib.hid hne
  have HF := Lib.hid hf
  have S0 : countS 16384 ⟨fixesB l ++ rest, 0⟩ = ((l.length : Int), ⟨l.flatMap fixB ++ rest, 0⟩) := by
    unfold fixesB
    rw [List.append_assoc]
    exact countS_cnt 16384 l.length _ (by omega) (by omega)
  have C0 : Hid (∀ W, Mid w0 w W g ⟨fixesB l ++ rest, 0⟩ → Calls Try.prog 40 #[.pointer (some ⟨g, 0, none⟩), .int .i64 16384] W fun e W' => e = .returned (.int .i64 (l.length : Int)) ∧ Mid w0 w W' g ⟨l.flatMap fixB ++ rest, 0⟩ ∧ KeepBut W W' g none) := Lib.hid (fun W hm => hm.call (fun hi hb => by have := ccount w0 W g _ 16384 (by omega) hi hb; rwa [S0] at this))
  have CE : Hid (∀ W xs, Mid w0 w W g ⟨xs, 0⟩ → Calls Try.prog 31 #[.pointer (some ⟨g, 0, none⟩)] W fun e W' => e = .returned (.int .i64 0) ∧ Mid w0 w W' g ⟨xs, 0⟩ ∧ KeepBut W W' g none) := Lib.hid (fun W xs hm => hm.call (fun hi hb => cerr w0 W g _ hi hb))
  have CX : Hid (∀ W x xs, Mid w0 w W g ⟨fixB x ++ xs, 0⟩ → W.heap[Bc]? = some (.cells #[.pointer (some ⟨g, 0, none⟩)] 44 (0, 0)) → Fits134 x → Calls Try.prog 98 #[.pointer (some ⟨Bc, 0, none⟩)] W fun e W' => e = .returned (.agg #[.int .i64 x.f0, .int .i64 x.f1, .int .i64 x.f2, .int .i64 x.f3]) ∧ Mid w0 w W' g ⟨xs, 0⟩ ∧ KeepBut W W' g none) := Lib.hid (fun W x xs hm hk hx => hm.call (fun hi hb => cl98 w0 W g Bc x xs hi hb hk NE.out hx))
  have HBW := Lib.hid (blk_lt hc)
  clear h hb S0 hc hne hf
  go_enter Try.func97, Try.ntmps97
  go_wp2_with fail
  refine (C0.out _ M0.out).mono ?_
  rintro e w1 ⟨rfl, m1, k1⟩
  have M1 := Lib.hid m1
  have HC1 := Lib.hid (k1.blk HC.out NE.out (by simp))
  clear m1 k1 M0 C0 HC
  go_wp2
  go_loopw [4, 5, 9] (fun r4 r5 r9 wr => ∃ (k : Nat) (v : Value), k ≤ l.length ∧ r4 = .slice none 0 0 ∧ r5 = v ∧ r9 = .int .i64 k ∧ Hid (Mid w0 w wr g ⟨(l.drop k).flatMap fixB ++ rest, 0⟩) ∧ Hid (wr.heap[Bc]? = some (.cells #[.pointer (some ⟨g, 0, none⟩)] 44 (0, 0))) ∧ Hid (Bc < w.heap.size) ∧ Hid (Kd.R k134 134 wr w.heap.size (fun k => w.heap.size ≤ k) v (l.take k)))
    (fun _ _ r9 _ => l.length - (intOf r9).toNat)
  case atStart => exact ⟨0, _, by omega, rfl, rfl, rfl, by rw [List.drop_zero]; exact M1, HC1, Lib.hid HBW.out, Lib.hid (by rw [List.take_zero]; exact Kd.R_nil _ _ _ _ _)⟩
  case round =>
    clear M1 HC1
    obtain ⟨k, v, hk, rfl, rfl, rfl, M2, HC2, HBC, RO⟩ := hrel
    obtain ⟨AO, cO, rfl, _⟩ := Kd.R_reads RO.out
    by_cases hlt : k < l.length
    rotate_left
    · obtain rfl : k = l.length := by omega
      have M3 : Hid (Mid w0 w wr g ⟨rest, 0⟩) := Lib.hid (by have := M2.out; rw [List.drop_eq_nil_of_le (Nat.le_refl _), List.flatMap_nil, List.nil_append] at this; exact this)
      have RO3 : Hid (Kd.R k134 134 wr w.heap.size (fun k => w.heap.size ≤ k) (.slice AO (l.take l.length).length cO) l) := Lib.hid (by have := RO.out; rw [List.take_length] at this ⊢; exact this)
      clear M2 RO
      go_wp2
      go_ret
      exact ⟨_, rfl, RO3.out, M3.out.rd, M3.out.low, M3.out.keep⟩
    have M3 : Hid (Mid w0 w wr g ⟨fixB l[k] ++ ((l.drop (k + 1)).flatMap fixB ++ rest), 0⟩) := Lib.hid (by have := M2.out; rw [dropR fixB l k hlt rest] at this; exact this)
    have HX := Lib.hid (HF.out l[k] (List.getElem_mem hlt))
    have HTK := Lib.hid (take_on l k hlt)
    generalize l[k] = x at *
    clear M2
    have LK : (l.take k).length = k := by rw [List.length_take]; omega
    rw [LK] at RO ⊢
    go_wp2_with fail
    refine (CX.out _ _ _ M3.out HC2.out HX.out).mono ?_
    rintro e w2 ⟨rfl, m4, k4⟩
    have RO4 := Lib.hid (Kd.R_keep RO.out k4 (fun k hk => by have := HG.out; omega))
    have HC4 := Lib.hid (k4.blk HC2.out NE.out (by simp))
    have M4 := Lib.hid m4
    clear m4 k4 M3 RO HC2
    obtain ⟨T, hT⟩ : ∃ T, T = w2.heap.size := ⟨_, rfl⟩
    have HTG : Hid (w.heap.size ≤ T) := Lib.hid (by rw [hT]; exact M4.out.size)
    have HTNG : Hid (T ≠ g) := Lib.hid (by have := HG.out; have := HTG.out; omega)
    have TT : Hid ((w2.alloc (.cells #[.int .i64 x.f0, .int .i64 x.f1, .int .i64 x.f2, .int .i64 x.f3] 134)).heap[T]? = some (.cells #[.int .i64 x.f0, .int .i64 x.f1, .int .i64 x.f2, .int .i64 x.f3] 134 (0, 0))) := Lib.hid (by rw [hT]; exact heap_alloc_new _ _)
    have HC5 : Hid ((w2.alloc (.cells #[.int .i64 x.f0, .int .i64 x.f1, .int .i64 x.f2, .int .i64 x.f3] 134)).heap[Bc]? = some (.cells #[.pointer (some ⟨g, 0, none⟩)] 44 (0, 0))) := Lib.hid (((b1 w2 _).block _ (blk_lt HC4.out)).trans HC4.out)
    have M5 := Lib.hid (M4.out.alloc (.cells #[.int .i64 x.f0, .int .i64 x.f1, .int .i64 x.f2, .int .i64 x.f3] 134))
    have RO5 := Lib.hid (Kd.R_alloc RO4.out (.cells #[.int .i64 x.f0, .int .i64 x.f1, .int .i64 x.f2, .int .i64 x.f3] 134))
    clear M4 RO4 HC4
    go_wp2_with fail
    rw [← hT]
    clear hT
    refine (CE.out _ _ M5.out).mono ?_
    rintro e w3 ⟨rfl, m6, k6⟩
    have RO6 := Lib.hid (Kd.R_keep RO5.out k6 (fun k hk => by have := HG.out; omega))
    have HC6 := Lib.hid (k6.blk HC5.out NE.out (by simp))
    have TT6 := Lib.hid (k6.blk TT.out HTNG.out (by simp))
    have M6 := Lib.hid m6
    clear m6 k6 M5 RO5 HC5 TT
    have q0 := blk_cell TT6.out 0
    have q1 := blk_cell TT6.out 1
    have q2 := blk_cell TT6.out 2
    have q3 := blk_cell TT6.out 3
    simp only [List.getElem?_toArray, List.getElem?_cons_zero, List.getElem?_cons_succ] at q0 q1 q2 q3
    go_wp2_with (at_builtin; go_must (refine Kd.R_append k134 w.heap.size rfl _ _ 57 134 (.agg #[.int .i64 0, .int .i64 0, .int .i64 0, .int .i64 0]) 32 rfl Try.underlying57 info134r rfl (by decide) (by decide) (.slice AO k cO) (l.take k) x [.int .i64 x.f0, .int .i64 x.f1, .int .i64 x.f2, .int .i64 x.f3] (fun k => w.heap.size ≤ k) (fun _ => False) rfl rfl (k134_mkM _ _ _ x) (fun _ h => h.elim) (fun k hk => Nat.le_trans M6.out.size hk) RO6.out (Below.refl _ _) M6.out.size (by rw [List.length_take]; omega) ?_; intro v1 we hown hbel hgrow hlie; have ME := Lib.hid (M6.out.grown (fun k e => by have := RO6.out.1 k e; omega) HG.out hgrow); have OE := Lib.hid hown; have HCE : Hid (we.heap[Bc]? = some (.cells #[.pointer (some ⟨g, 0, none⟩)] 44 (0, 0))) := Lib.hid ((hgrow.block Bc (blk_lt HC6.out) (fun e => by have := RO6.out.1 Bc e.symm; have := HBC.out; omega)).trans HC6.out); clear hown hbel hgrow hlie))
    go_roundw
    case rel =>
      refine ⟨k + 1, v1, by omega, rfl, rfl, by go_num, ME, HCE, HBC, Lib.hid ?_⟩
      have := OE.out
      rw [HTK.out] at this
      exact this
    case measure => simp [intOf]; omega
theorem info131r : (Try.prog.info? 131).map (fun i => (i.zero, i.size, i.bytes)) = some (some (.agg #[.int .i64 0, .int .i64 0]), 2, 16) := by kernel_rfl
set_option maxHeartbeats 4000000 in
set_option maxRecDepth 100000 in
theorem many131 (w0 w : World) (g Bc : Nat) (l : List S131) (rest : List Int) (h : IsR w0 w g ⟨segsB l ++ rest, 0⟩) (hb : Below w0.heap.size w0 w) (hl : l.length ≤ 16384) (hc : w.heap[Bc]? = some (.cells #[.pointer (some ⟨g, 0, none⟩)] 44 (0, 0))) (hne : Bc ≠ g) (hf : ∀ x ∈ l, Fits131 x) :
    Calls Try.prog 99 #[.pointer (some ⟨g, 0, none⟩), .func (.func 100) #[] #[.pointer (some ⟨Bc, 0, none⟩)]] w (ManyPost k131 131 w0 w g l ⟨rest, 0⟩) := by
  have M0 : Hid (Mid w0 w w g ⟨segsB l ++ rest, 0⟩) := Lib.hid ⟨h, hb, KeepBut.refl _ _ _⟩
  have HG := Lib.hid M0.out.lt
  have HC := Lib.hid hc
  have NE := Lib.hid hne
  have HF := Lib.hid hf
  have S0 : countS 16384 ⟨segsB l ++ rest, 0⟩ = ((l.length : Int), ⟨l.flatMap segB ++ rest, 0⟩) := by
    unfold segsB
    rw [List.append_assoc]
    exact countS_cnt 16384 l.length _ (by omega) (by omega)
  have C0 : Hid (∀ W, Mid w0 w W g ⟨segsB l ++ rest, 0⟩ → Calls Try.prog 40 #[.pointer (some ⟨g, 0, none⟩), .int .i64 16384] W fun e W' => e = .returned (.int .i64 (l.length : Int)) ∧ Mid w0 w W' g ⟨l.flatMap segB ++ rest, 0⟩ ∧ KeepBut W W' g none) := Lib.hid (fun W hm => hm.call (fun hi hb => by have := ccount w0 W g _ 16384 (by omega) hi hb; rwa [S0] at this))
  have CE : Hid (∀ W xs, Mid w0 w W g ⟨xs, 0⟩ → Calls Try.prog 31 #[.pointer (some ⟨g, 0, none⟩)] W fun e W' => e = .returned (.int .i64 0) ∧ Mid w0 w W' g ⟨xs, 0⟩ ∧ KeepBut W W' g none) := Lib.hid (fun W xs hm => hm.call (fun hi hb => cerr w0 W g _ hi hb))
  have CX : Hid (∀ W x xs, Mid w0 w W g ⟨segB x ++ xs, 0⟩ → W.heap[Bc]? = some (.cells #[.pointer (some ⟨g, 0, none⟩)] 44 (0, 0)) → Fits131 x → Calls Try.prog 100 #[.pointer (some ⟨Bc, 0, none⟩)] W fun e W' => e = .returned (.agg #[.int .i64 x.f0, .int .i64 x.f1]) ∧ Mid w0 w W' g ⟨xs, 0⟩ ∧ KeepBut W W' g none) := Lib.hid (fun W x xs hm hk hx => hm.call (fun hi hb => cl100 w0 W g Bc x xs hi hb hk NE.out hx))
  have HBW := Lib.hid (blk_lt hc)
  clear h hb S0 hc hne hf
  go_enter Try.func99, Try.ntmps99
  go_wp2_with fail
  refine (C0.out _ M0.out).mono ?_
  rintro e w1 ⟨rfl, m1, k1⟩
  have M1 := Lib.hid m1
  have HC1 := Lib.hid (k1.blk HC.out NE.out (by simp))
  clear m1 k1 M0 C0 HC
  go_wp2
  go_loopw [4, 5, 9] (fun r4 r5 r9 wr => ∃ (k : Nat) (v : Value), k ≤ l.length ∧ r4 = .slice none 0 0 ∧ r5 = v ∧ r9 = .int .i64 k ∧ Hid (Mid w0 w wr g ⟨(l.drop k).flatMap segB ++ rest, 0⟩) ∧ Hid (wr.heap[Bc]? = some (.cells #[.pointer (some ⟨g, 0, none⟩)] 44 (0, 0))) ∧ Hid (Bc < w.heap.size) ∧ Hid (Kd.R k131 131 wr w.heap.size (fun k => w.heap.size ≤ k) v (l.take k)))
    (fun _ _ r9 _ => l.length - (intOf r9).toNat)
  case atStart => exact ⟨0, _, by omega, rfl, rfl, rfl, by rw [List.drop_zero]; exact M1, HC1, Lib.hid HBW.out, Lib.hid (by rw [List.take_zero]; exact Kd.R_nil _ _ _ _ _)⟩
  case round =>
    clear M1 HC1
    obtain ⟨k, v, hk, rfl, rfl, rfl, M2, HC2, HBC, RO⟩ := hrel
    obtain ⟨AO, cO, rfl, _⟩ := Kd.R_reads RO.out
    by_cases hlt : k < l.length
    rotate_left
    · obtain rfl : k = l.length := by omega
      have M3 : Hid (Mid w0 w wr g ⟨rest, 0⟩) := Lib.hid (by have := M2.out; rw [List.drop_eq_nil_of_le (Nat.le_refl _), List.flatMap_nil, List.nil_append] at this; exact this)
      have RO3 : Hid (Kd.R k131 131 wr w.heap.size (fun k => w.heap.size ≤ k) (.slice AO (l.take l.length).length cO) l) := Lib.hid (by have := RO.out; rw [List.take_length] at this ⊢; exact this)
      clear M2 RO
      go_wp2
      go_ret
      exact ⟨_, rfl, RO3.out, M3.out.rd, M3.out.low, M3.out.keep⟩
    have M3 : Hid (Mid w0 w wr g ⟨segB l[k] ++ ((l.drop (k + 1)).flatMap segB ++ rest), 0⟩) := Lib.hid (by have := M2.out; rw [dropR segB l k hlt rest] at this; exact this)
    have HX := Lib.hid (HF.out l[k] (List.getElem_mem hlt))
    have HTK := Lib.hid (take_on l k hlt)
    generalize l[k] = x at *
    clear M2
    have LK : (l.take k).length = k := by rw [List.length_take]; omega
    rw [LK] at RO ⊢
    go_wp2_with fail
    refine (CX.out _ _ _ M3.out HC2.out HX.out).mono ?_
    rintro e w2 ⟨rfl, m4, k4⟩
    have RO4 := Lib.hid (Kd.R_keep RO.out k4 (fun k hk => by have := HG.out; omega))
    have HC4 := Lib.hid (k4.blk HC2.out NE.out (by simp))
    have M4 := Lib.hid m4
    clear m4 k4 M3 RO HC2
    obtain ⟨T, hT⟩ : ∃ T, T = w2.heap.size := ⟨_, rfl⟩
    have HTG : Hid (w.heap.size ≤ T) := Lib.hid (by rw [hT]; exact M4.out.size)
    have HTNG : Hid (T ≠ g) := Lib.hid (by have := HG.out; have := HTG.out; omega)
    have TT : Hid ((w2.alloc (.cells #[.int .i64 x.f0, .int .i64 x.f1] 131)).heap[T]? = some (.cells #[.int .i64 x.f0, .int .i64 x.f1] 131 (0, 0))) := Lib.hid (by rw [hT]; exact heap_alloc_new _ _)
    have HC5 : Hid ((w2.alloc (.cells #[.int .i64 x.f0, .int .i64 x.f1] 131)).heap[Bc]? = some (.cells #[.pointer (some ⟨g, 0, none⟩)] 44 (0, 0))) := Lib.hid (((b1 w2 _).block _ (blk_lt HC4.out)).trans HC4.out)
    have M5 := Lib.hid (M4.out.alloc (.cells #[.int .i64 x.f0, .int .i64 x.f1] 131))
    have RO5 := Lib.hid (Kd.R_alloc RO4.out (.cells #[.int .i64 x.f0, .int .i64 x.f1] 131))
    clear M4 RO4 HC4
    go_wp2_with fail
    rw [← hT]
    clear hT
    refine (CE.out _ _ M5.out).mono ?_
    rintro e w3 ⟨rfl, m6, k6⟩
    have RO6 := Lib.hid (Kd.R_keep RO5.out k6 (fun k hk => by have := HG.out; omega))
    have HC6 := Lib.hid (k6.blk HC5.out NE.out (by simp))
    have TT6 := Lib.hid (k6.blk TT.out HTNG.out (by simp))
    have M6 := Lib.hid m6
    clear m6 k6 M5 RO5 HC5 TT
    have q0 := blk_cell TT6.out 0
    have q1 := blk_cell TT6.out 1
    simp only [List.getElem?_toArray, List.getElem?_cons_zero, List.getElem?_cons_succ] at q0 q1
    go_wp2_with (at_builtin; go_must (refine Kd.R_append k131 w.heap.size rfl _ _ 58 131 (.agg #[.int .i64 0, .int .i64 0]) 16 rfl Try.underlying58 info131r rfl (by decide) (by decide) (.slice AO k cO) (l.take k) x [.int .i64 x.f0, .int .i64 x.f1] (fun k => w.heap.size ≤ k) (fun _ => False) rfl rfl (k131_mkM _ _ _ x) (fun _ h => h.elim) (fun k hk => Nat.le_trans M6.out.size hk) RO6.out (Below.refl _ _) M6.out.size (by rw [List.length_take]; omega) ?_; intro v1 we hown hbel hgrow hlie; have ME := Lib.hid (M6.out.grown (fun k e => by have := RO6.out.1 k e; omega) HG.out hgrow); have OE := Lib.hid hown; have HCE : Hid (we.heap[Bc]? = some (.cells #[.pointer (some ⟨g, 0, none⟩)] 44 (0, 0))) := Lib.hid ((hgrow.block Bc (blk_lt HC6.out) (fun e => by have := RO6.out.1 Bc e.symm; have := HBC.out; omega)).trans HC6.out); clear hown hbel hgrow hlie))
    go_roundw
    case rel =>
      refine ⟨k + 1, v1, by omega, rfl, rfl, by go_num, ME, HCE, HBC, Lib.hid ?_⟩
      have := OE.out
      rw [HTK.out] at this
      exact this
    case measure => simp [intOf]; omega
end Go.Proofs.Ytehdhmhpmkkneaa
