/- Wb. -/
import Derived.Test.YtehdhmhpmkkneaaBWc
/- objfile.Encode, walked. -/
namespace Go.Proofs.Ytehdhmhpmkkneaa
open Go.RowKit Go.Proofs.YtehdhmhpmkkneaaW.PrintWords Go.Proofs.YtehdhmhpmkkneaaW.PrintMore Go.Proofs.Ytehdhmhpmkkneaa.PAll
theorem rowU {w : World} {A : Option Addr} {xs : List Int} (h : Kd.C (Kd.int .u32) w A xs.length xs) (k : Nat) (hk : k < xs.length) :
    ∃ b off, A = some ⟨b, off, none⟩ ∧ b < w.heap.size ∧ w.cell? ⟨b, off + k, none⟩ = some (.int .u32 xs[k]) := by
  obtain ⟨ad, rfl, d0⟩ := Kd.at_int h (0 : Int) (by omega) (by omega)
  obtain ⟨b, off, rfl⟩ := plain_of d0
  obtain ⟨ad, e0, c0⟩ := Kd.at_int h (k : Int) (by omega) (by omega)
  injection e0 with e0
  subst e0
  simp only [Int.toNat_natCast] at c0
  rw [plain_add] at c0
  have ex : rd xs (k : Int) = xs[k] := by simp [rd, hk]
  rw [ex] at c0
  exact ⟨b, off, rfl, World.block_lt_of_cell? _ _ c0, c0⟩
theorem row134u {w : World} {A : Option Addr} {xs : List S134} (h : Kd.C k134 w A xs.length xs) (k : Nat) (hk : k < xs.length) :
    ∃ b off, A = some ⟨b, off, none⟩ ∧ b < w.heap.size ∧ w.cell? ⟨b, off + k * 4, none⟩ = some (.int .i64 xs[k].f0) ∧ w.cell? ⟨b, off + k * 4 + 1, none⟩ = some (.int .i64 xs[k].f1) ∧ w.cell? ⟨b, off + k * 4 + 2, none⟩ = some (.int .i64 xs[k].f2) ∧ w.cell? ⟨b, off + k * 4 + 3, none⟩ = some (.int .i64 xs[k].f3) := by
  obtain ⟨ad, rfl, d0, _⟩ := at_T134 h (0 : Int) (by omega) (by omega)
  obtain ⟨b, off, rfl⟩ := plain_of d0
  obtain ⟨ad, e0, c0, c1, c2, c3⟩ := at_T134 h (k : Int) (by omega) (by omega)
  injection e0 with e0
  subst e0
  simp only [Int.toNat_natCast] at c0 c1 c2 c3
  rw [plain_add] at c0 c1 c2 c3
  rw [rd134 xs k hk] at c0 c1 c2 c3
  exact ⟨b, off, rfl, World.block_lt_of_cell? _ _ c0, c0, c1, c2, c3⟩
theorem row131u {w : World} {A : Option Addr} {xs : List S131} (h : Kd.C k131 w A xs.length xs) (k : Nat) (hk : k < xs.length) :
    ∃ b off, A = some ⟨b, off, none⟩ ∧ b < w.heap.size ∧ w.cell? ⟨b, off + k * 2, none⟩ = some (.int .i64 xs[k].f0) ∧ w.cell? ⟨b, off + k * 2 + 1, none⟩ = some (.int .i64 xs[k].f1) := by
  obtain ⟨ad, rfl, d0, _⟩ := at_T131 h (0 : Int) (by omega) (by omega)
  obtain ⟨b, off, rfl⟩ := plain_of d0
  obtain ⟨ad, e0, c0, c1⟩ := at_T131 h (k : Int) (by omega) (by omega)
  injection e0 with e0
  subst e0
  simp only [Int.toNat_natCast] at c0 c1
  rw [plain_add] at c0 c1
  rw [rd131 xs k hk] at c0 c1
  exact ⟨b, off, rfl, World.block_lt_of_cell? _ _ c0, c0, c1⟩
structure ES (w wi : World) (Q : Nat) (o : Obj) (g : Nat) (u : Value) (xs : List Int) : Prop where
  h : Wr w.heap.size wi g u xs
  k : wi.heap[Q]? = some o
  e : some Q ≠ u.ownBlock
  b : Below w.heap.size w wi
theorem ES.next {w wr we : World} {Q : Nat} {o : Obj} {g : Nat} {u u' : Value} {xs ys : List Int} (h : ES w wr Q o g u xs) (ng : Q ≠ g) (hw : Wr w.heap.size we g u' ys) (m : Mv wr we g u u') : ES w we Q o g u' ys :=
  ⟨hw, blk_mv m h.k ng h.e, ne_later m (blk_lt h.k) h.e, m.below h.b h.b.size h.h.2.1 h.h.base⟩
theorem ES.alloc {w wr : World} {Q : Nat} {o : Obj} {g : Nat} {u : Value} {xs : List Int} (h : ES w wr Q o g u xs) (o' : Obj) : ES w (wr.alloc o') Q o g u xs :=
  ⟨h.h.below ((Below.refl _ _).alloc (Nat.le_refl _) _), ((b1 wr o').block _ (blk_lt h.k)).trans h.k, h.e, h.b.alloc h.b.size _⟩
theorem pre_le {xs t F : List Int} {T : Nat} (h : xs ++ t = F) (hT : F.length ≤ T) : xs.length ≤ T := by
  rw [← h, List.length_append] at hT
  omega
theorem pre_on {xs p t F : List Int} (h : xs ++ (p ++ t) = F) : (xs ++ p) ++ t = F := by rw [List.append_assoc]; exact h
theorem drop_flat {α : Type} (f : α → List Int) (l : List α) (k : Nat) (hk : k < l.length) : (l.drop k).flatMap f = f l[k] ++ (l.drop (k + 1)).flatMap f := by
  rw [List.drop_eq_getElem_cons hk, List.flatMap_cons]
section
variable (b : ByteArray) (z d e y : Int) (A2 A3 A4 A5 : Option Addr) (c2 c3 c4 c5 : Nat) (l2 : List S93) (l3 : List Int) (l4 : List S134) (l5 : List S131)
abbrev objO : Obj := .cells #[.string b, .int .u32 z, .slice A2 l2.length c2, .slice A3 l3.length c3, .slice A4 l4.length c4, .slice A5 l5.length c5, .int .i64 d, .int .i64 e, .int .i64 y] 60
set_option maxHeartbeats 2000000 in
set_option maxRecDepth 100000 in
set_option linter.unusedSimpArgs false in
theorem oencode (w : World) (h : ObjAt A2 A3 A4 A5 c2 c3 c4 c5 l2 l3 l4 l5 w) (hb : b.size ≤ 9223372036854775807) (hs : ∀ x ∈ l2, x.f0.size ≤ 9223372036854775807) (o2 : ∀ x ∈ l2, Ok93 x) (o3 : ∀ x ∈ l3, 0 ≤ x ∧ x ≤ 4294967295) (hz : 0 ≤ z ∧ z ≤ 4294967295) :
    Calls Try.prog 67 #[objV b z d e y A2 A3 A4 A5 c2 c3 c4 c5 l2 l3 l4 l5] w (EncPost w (objS b l2 l3 l4 l5 d e y) (objB b z l2 l3 l4 l5 d e y)) := by
  have FA := Lib.hid h
  have O2 := Lib.hid o2
  have O3 := Lib.hid o3
  have HZ := Lib.hid hz
  have FF : Hid (objS b l2 l3 l4 l5 d e y = 0 → ObjFits b l2 l3 l4 l5 d e y) := Lib.hid (obj_fits b l2 l3 l4 l5 d e y)
  have HT : Hid (objS b l2 l3 l4 l5 d e y = 0 → (objB b z l2 l3 l4 l5 d e y).length ≤ 2000000) := Lib.hid (fun q => objB_le b z l2 l3 l4 l5 d e y (obj_fits b l2 l3 l4 l5 d e y q))
  obtain ⟨W, hW⟩ : ∃ W, W = w.alloc (objO b z d e y A2 A3 A4 A5 c2 c3 c4 c5 l2 l3 l4 l5) := ⟨_, rfl⟩
  obtain ⟨Q, hQ⟩ : ∃ Q, Q = w.heap.size := ⟨_, rfl⟩
  have bx := heap_alloc_new w (objO b z d e y A2 A3 A4 A5 c2 c3 c4 c5 l2 l3 l4 l5)
  rw [← hW, ← hQ] at bx
  have bW : Below w.heap.size w W := by rw [hW]; exact (Below.refl _ _).alloc (Nat.le_refl _) _
  have F1 := Lib.hid (FA.out.below bW)
  have BW := Lib.hid bW
  have KX := Lib.hid bx
  have HW := Lib.hid hW
  have HQQ := Lib.hid hQ
  have CK : Hid (∀ ww, ObjAt A2 A3 A4 A5 c2 c3 c4 c5 l2 l3 l4 l5 ww → Calls Try.prog 36 #[objV b z d e y A2 A3 A4 A5 c2 c3 c4 c5 l2 l3 l4 l5] ww fun en w' => en = .returned (.int .i64 (objS b l2 l3 l4 l5 d e y)) ∧ Below ww.heap.size ww w') := Lib.hid (fun ww hf => obj_check b z d e y ww hf hb hs)
  clear bx bW hW hQ h o2 o3 hz hb hs
  obtain ⟨FB, HFB⟩ : ∃ FB, Hid (FB = objB b z l2 l3 l4 l5 d e y) := ⟨_, Lib.hid rfl⟩
  rw [← HFB.out] at HT ⊢
  generalize objS b l2 l3 l4 l5 d e y = fs at *
  go_enter Try.func67, Try.ntmps67
  go_wp2_with fail
  rw [← HW.out]
  refine (CK.out _ F1.out).mono ?_
  rintro en w1 ⟨rfl, b1⟩
  have B1 := Lib.hid (BW.out.trans (b1.mono BW.out.size))
  have K1 := Lib.hid ((b1.block _ (blk_lt KX.out)).trans KX.out)
  clear b1 BW KX F1 CK
  rw [← HQQ.out]
  by_cases hf : fs = 0
  rotate_left
  · have e1 : (fs != 0) = true := bne_iff_ne.2 hf
    have HF := Lib.hid hf
    clear hf
    go_wp2
    go_ret2
    exact ⟨_, rfl, fun h => absurd h HF.out, fun _ => rfl, B1.out⟩
  have FI := Lib.hid (FF.out hf)
  have TT := Lib.hid (HT.out hf)
  clear FF HT
  subst hf
  have x0 := blk_cell K1.out 0
  simp only [List.getElem?_toArray, List.getElem?_cons_zero] at x0
  obtain ⟨g, hg⟩ : ∃ g, g = w1.heap.size := ⟨_, rfl⟩
  have NG : Hid (Q ≠ g) := Lib.hid (by have := blk_lt K1.out; omega)
  have H2 : Hid (ES w (w1.alloc (.cells #[.slice none 0 0] 26)) Q (objO b z d e y A2 A3 A4 A5 c2 c3 c4 c5 l2 l3 l4 l5) g (.slice none 0 0) []) := Lib.hid ⟨by rw [hg]; exact wr_newB w.heap.size w1 B1.out.size, ((Go.Proofs.Ytehdhmhpmkkneaa.b1 w1 _).block _ (blk_lt K1.out)).trans K1.out, by simp [Value.ownBlock], B1.out.alloc B1.out.size _⟩
  have P2 : Hid ([] ++ (wrd 1347371521 ++ ((cnt b.size ++ bytesOf b) ++ (wrd z ++ (impsB l2 ++ (cnt l3.length ++ (l3.flatMap wrd ++ (cnt l4.length ++ (l4.flatMap fixB ++ (cnt l5.length ++ (l5.flatMap segB ++ (cnt d.toNat ++ (cnt e.toNat ++ (cnt y.toNat ++ []))))))))))))) = FB) := Lib.hid (by rw [HFB.out]; unfold objB codesB fixesB segsB endB; simp only [List.append_assoc, List.nil_append, List.append_nil])
  go_wp2_with fail
  rw [← hg]
  clear hg
  refine (wword w.heap.size g (.slice none 0 0) [] 1347371521 _ H2.out.h (Nat.le_trans (pre_le P2.out TT.out) (by omega)) (by omega) (by omega)).mono ?_
  rintro en w3 ⟨rfl, u3, h3, m3⟩
  have H3 := Lib.hid (H2.out.next NG.out h3 m3)
  have P3 := Lib.hid (pre_on P2.out)
  clear h3 m3 H2 P2 x0
  generalize [] ++ wrd 1347371521 = xs3 at *
  have x0 := blk_cell H3.out.k 0
  simp only [List.getElem?_toArray, List.getElem?_cons_zero, List.getElem?_cons_succ] at x0
  go_wp2_with fail
  refine (wtext w.heap.size g u3 xs3 b _ H3.out.h (Nat.le_trans (pre_le P3.out TT.out) (by omega)) (by have := FI.out.b; omega)).mono ?_
  rintro en w4 ⟨rfl, u4, h4, m4⟩
  have H4 := Lib.hid (H3.out.next NG.out h4 m4)
  have P4 := Lib.hid (pre_on P3.out)
  clear h4 m4 H3 P3 x0
  generalize xs3 ++ (cnt b.size ++ bytesOf b) = xs4 at *
  have x0 := blk_cell H4.out.k 1
  simp only [List.getElem?_toArray, List.getElem?_cons_zero, List.getElem?_cons_succ] at x0
  go_wp2_with fail
  refine (wword w.heap.size g u4 xs4 z _ H4.out.h (Nat.le_trans (pre_le P4.out TT.out) (by omega)) HZ.out.1 HZ.out.2).mono ?_
  rintro en w5 ⟨rfl, u5, h5, m5⟩
  have H5 := Lib.hid (H4.out.next NG.out h5 m5)
  have P5 := Lib.hid (pre_on P4.out)
  clear h5 m5 H4 P4 x0
  generalize xs4 ++ wrd z = xs5 at *
  have x0 := blk_cell H5.out.k 2
  simp only [List.getElem?_toArray, List.getElem?_cons_zero, List.getElem?_cons_succ] at x0
  go_wp2_with fail
  refine (swrite w g u5 xs5 l2 A2 c2 _ H5.out.h H5.out.b FA.out.r2 O2.out (by have h1 := P5.out; have h2 := TT.out; rw [← h1] at h2; simp only [List.length_append] at h2; omega)).mono ?_
  rintro en w6 ⟨rfl, u6, h6, m6⟩
  have H6 := Lib.hid (H5.out.next NG.out h6 m6)
  have P6 := Lib.hid (pre_on P5.out)
  clear h6 m6 H5 P5 x0
  generalize xs5 ++ impsB l2 = xs6 at *
  have x0 := blk_cell H6.out.k 3
  simp only [List.getElem?_toArray, List.getElem?_cons_zero, List.getElem?_cons_succ] at x0
  go_wp2_with fail
  refine (wcount w.heap.size g u6 xs6 l3.length _ H6.out.h (Nat.le_trans (pre_le P6.out TT.out) (by omega)) (by have := FI.out; have h1 := FI.out.n3; omega)).mono ?_
  rintro en w7 ⟨rfl, u7, h7, m7⟩
  have H7 := Lib.hid (H6.out.next NG.out h7 m7)
  have P7 := Lib.hid (pre_on P6.out)
  clear h7 m7 H6 P6 x0
  generalize xs6 ++ cnt l3.length = xs7 at *
  have x0 := blk_cell H7.out.k 3
  simp only [List.getElem?_toArray, List.getElem?_cons_zero, List.getElem?_cons_succ] at x0
  have hln : l3.length ≤ 16384 := FI.out.n3
  go_wp2
  go_loopw [41] (fun r wr => ∃ (k : Nat) (u : Value) (xs : List Int), k ≤ l3.length ∧ r = .int .i64 k ∧ Hid (ES w wr Q (objO b z d e y A2 A3 A4 A5 c2 c3 c4 c5 l2 l3 l4 l5) g u xs) ∧ Hid (xs ++ ((l3.drop k).flatMap wrd ++ (cnt l4.length ++ (l4.flatMap fixB ++ (cnt l5.length ++ (l5.flatMap segB ++ (cnt d.toNat ++ (cnt e.toNat ++ (cnt y.toNat ++ [])))))))) = FB)) (fun r _ => l3.length - (intOf r).toNat)
  case atStart => exact ⟨0, u7, xs7, by omega, rfl, H7, Lib.hid (by rw [List.drop_zero]; exact P7.out)⟩
  case round =>
    clear H7 P7 x0
    obtain ⟨k, u8, xs8, hk, rfl, H8, P8⟩ := hrel
    by_cases hlt : k < l3.length
    · obtain ⟨bb, off, rfl, hbl, y0⟩ := rowU FA.out.r3 k hlt
      have q0 := cell_old H8.out.b hbl y0
      have PE : Hid (xs8 ++ (wrd l3[k] ++ ((l3.drop (k + 1)).flatMap wrd ++ (cnt l4.length ++ (l4.flatMap fixB ++ (cnt l5.length ++ (l5.flatMap segB ++ (cnt d.toNat ++ (cnt e.toNat ++ (cnt y.toNat ++ []))))))))) = FB) := Lib.hid (by have h := P8.out; rw [drop_flat wrd l3 k hlt, List.append_assoc] at h; exact h)
      have o := O3.out l3[k] (List.getElem_mem hlt)
      generalize l3[k] = x at *
      have OX := Lib.hid o
      clear o y0 P8
      have P8 := PE
      clear PE
      go_wp2_with fail
      refine (wword w.heap.size g u8 xs8 x _ H8.out.h (Nat.le_trans (pre_le P8.out TT.out) (by omega)) OX.out.1 OX.out.2).mono ?_
      rintro en w9 ⟨rfl, u9, h9, m9⟩
      have H9 := Lib.hid (H8.out.next NG.out h9 m9)
      have P9 := Lib.hid (pre_on P8.out)
      clear h9 m9 H8 P8
      generalize xs8 ++ wrd x = xs9 at *
      go_wp2
      go_roundw
      case rel => exact ⟨k + 1, u9, xs9, by omega, by go_num, H9, P9⟩
      case measure => simp [intOf]; omega
    obtain rfl : k = l3.length := by omega
    have P9 : Hid (xs8 ++ (cnt l4.length ++ (l4.flatMap fixB ++ (cnt l5.length ++ (l5.flatMap segB ++ (cnt d.toNat ++ (cnt e.toNat ++ (cnt y.toNat ++ []))))))) = FB) := Lib.hid (by have h := P8.out; rw [List.drop_eq_nil_of_le (Nat.le_refl _), List.flatMap_nil, List.nil_append] at h; exact h)
    have H9 := H8
    clear P8 H8
    generalize u8 = u9 at *
    generalize xs8 = xs9 at *
    clear hk hlt hln
    have x0 := blk_cell H9.out.k 4
    simp only [List.getElem?_toArray, List.getElem?_cons_zero, List.getElem?_cons_succ] at x0
    go_wp2_with fail
    refine (wcount w.heap.size g u9 xs9 l4.length _ H9.out.h (Nat.le_trans (pre_le P9.out TT.out) (by omega)) (by have := FI.out; have h1 := FI.out.n4; omega)).mono ?_
    rintro en w10 ⟨rfl, u10, h10, m10⟩
    have H10 := Lib.hid (H9.out.next NG.out h10 m10)
    have P10 := Lib.hid (pre_on P9.out)
    clear h10 m10 H9 P9 x0
    generalize xs9 ++ cnt l4.length = xs10 at *
    have x0 := blk_cell H10.out.k 4
    simp only [List.getElem?_toArray, List.getElem?_cons_zero, List.getElem?_cons_succ] at x0
    have hln : l4.length ≤ 16384 := FI.out.n4
    go_wp2
    go_loopw [57] (fun r wr => ∃ (k : Nat) (u : Value) (xs : List Int), k ≤ l4.length ∧ r = .int .i64 k ∧ Hid (ES w wr Q (objO b z d e y A2 A3 A4 A5 c2 c3 c4 c5 l2 l3 l4 l5) g u xs) ∧ Hid (xs ++ ((l4.drop k).flatMap fixB ++ (cnt l5.length ++ (l5.flatMap segB ++ (cnt d.toNat ++ (cnt e.toNat ++ (cnt y.toNat ++ [])))))) = FB)) (fun r _ => l4.length - (intOf r).toNat)
    case atStart => exact ⟨0, u10, xs10, by omega, rfl, H10, Lib.hid (by rw [List.drop_zero]; exact P10.out)⟩
    case round =>
      clear H10 P10 x0
      obtain ⟨k, u11, xs11, hk, rfl, H11, P11⟩ := hrel
      by_cases hlt : k < l4.length
      · obtain ⟨bb, off, rfl, hbl, y0, y1, y2, y3⟩ := row134u FA.out.r4 k hlt
        have q0 := cell_old H11.out.b hbl y0
        have q1 := cell_old H11.out.b hbl y1
        have q2 := cell_old H11.out.b hbl y2
        have q3 := cell_old H11.out.b hbl y3
        have PE : Hid (xs11 ++ (fixB l4[k] ++ ((l4.drop (k + 1)).flatMap fixB ++ (cnt l5.length ++ (l5.flatMap segB ++ (cnt d.toNat ++ (cnt e.toNat ++ (cnt y.toNat ++ []))))))) = FB) := Lib.hid (by have h := P11.out; rw [drop_flat fixB l4 k hlt, List.append_assoc] at h; exact h)
        have o := FI.out.s4 l4[k] (List.getElem_mem hlt)
        generalize l4[k] = x at *
        obtain ⟨f0, f1, f2, f3⟩ := x
        simp only at q0 q1 q2 q3
        have OX := Lib.hid o
        clear o P11 y0 y1 y2 y3
        have P11 : Hid (xs11 ++ (cnt f0.toNat ++ (cnt f1.toNat ++ (cnt f2.toNat ++ (cnt f3.toNat ++ ((l4.drop (k + 1)).flatMap fixB ++ (cnt l5.length ++ (l5.flatMap segB ++ (cnt d.toNat ++ (cnt e.toNat ++ (cnt y.toNat ++ [])))))))))) = FB) := Lib.hid (by have h := PE.out; simp only [fixB, List.append_assoc] at h ⊢; exact h)
        clear PE
        have KT := Lib.hid (heap_alloc_new wr (.cells #[.int .i64 f0, .int .i64 f1, .int .i64 f2, .int .i64 f3] 134))
        have NT := Lib.hid (new_ne H11.out.h).1
        have ET := Lib.hid (new_ne H11.out.h).2
        have H12 := Lib.hid (H11.out.alloc (.cells #[.int .i64 f0, .int .i64 f1, .int .i64 f2, .int .i64 f3] 134))
        have P12 := P11
        clear H11 P11
        generalize u11 = u12 at *
        generalize xs11 = xs12 at *
        go_wp2_with fail
        refine (wcountI w.heap.size g u12 xs12 f0 _ H12.out.h (Nat.le_trans (pre_le P12.out TT.out) (by omega)) (by have h := OX.out; unfold Fits134 at h; simp only at h; omega)).mono ?_
        rintro en w13 ⟨rfl, u13, h13, m13⟩
        have H13 := Lib.hid (H12.out.next NG.out h13 m13)
        have P13 := Lib.hid (pre_on P12.out)
        have KT2 := Lib.hid (blk_mv m13 KT.out NT.out ET.out)
        have ET2 := Lib.hid (ne_later m13 (blk_lt KT.out) ET.out)
        clear KT ET
        have KT := KT2
        have ET := ET2
        clear KT2 ET2
        clear h13 m13 H12 P12
        generalize xs12 ++ cnt f0.toNat = xs13 at *
        have c0 := blk_cell KT.out 1
        simp only [List.getElem?_toArray, List.getElem?_cons_zero, List.getElem?_cons_succ] at c0
        go_wp2_with fail
        refine (wcountI w.heap.size g u13 xs13 f1 _ H13.out.h (Nat.le_trans (pre_le P13.out TT.out) (by omega)) (by have h := OX.out; unfold Fits134 at h; simp only at h; omega)).mono ?_
        rintro en w14 ⟨rfl, u14, h14, m14⟩
        have H14 := Lib.hid (H13.out.next NG.out h14 m14)
        have P14 := Lib.hid (pre_on P13.out)
        have KT2 := Lib.hid (blk_mv m14 KT.out NT.out ET.out)
        have ET2 := Lib.hid (ne_later m14 (blk_lt KT.out) ET.out)
        clear KT ET
        have KT := KT2
        have ET := ET2
        clear KT2 ET2
        clear h14 m14 H13 P13 c0
        generalize xs13 ++ cnt f1.toNat = xs14 at *
        have c0 := blk_cell KT.out 2
        simp only [List.getElem?_toArray, List.getElem?_cons_zero, List.getElem?_cons_succ] at c0
        go_wp2_with fail
        refine (wcountI w.heap.size g u14 xs14 f2 _ H14.out.h (Nat.le_trans (pre_le P14.out TT.out) (by omega)) (by have h := OX.out; unfold Fits134 at h; simp only at h; omega)).mono ?_
        rintro en w15 ⟨rfl, u15, h15, m15⟩
        have H15 := Lib.hid (H14.out.next NG.out h15 m15)
        have P15 := Lib.hid (pre_on P14.out)
        have KT2 := Lib.hid (blk_mv m15 KT.out NT.out ET.out)
        have ET2 := Lib.hid (ne_later m15 (blk_lt KT.out) ET.out)
        clear KT ET
        have KT := KT2
        have ET := ET2
        clear KT2 ET2
        clear h15 m15 H14 P14 c0
        generalize xs14 ++ cnt f2.toNat = xs15 at *
        have c0 := blk_cell KT.out 3
        simp only [List.getElem?_toArray, List.getElem?_cons_zero, List.getElem?_cons_succ] at c0
        go_wp2_with fail
        refine (wcountI w.heap.size g u15 xs15 f3 _ H15.out.h (Nat.le_trans (pre_le P15.out TT.out) (by omega)) (by have h := OX.out; unfold Fits134 at h; simp only at h; omega)).mono ?_
        rintro en w16 ⟨rfl, u16, h16, m16⟩
        have H16 := Lib.hid (H15.out.next NG.out h16 m16)
        have P16 := Lib.hid (pre_on P15.out)
        clear h16 m16 H15 P15 c0
        generalize xs15 ++ cnt f3.toNat = xs16 at *
        go_wp2
        go_roundw
        case rel => exact ⟨k + 1, u16, xs16, by omega, by go_num, H16, P16⟩
        case measure => simp [intOf]; omega
      obtain rfl : k = l4.length := by omega
      have P12 : Hid (xs11 ++ (cnt l5.length ++ (l5.flatMap segB ++ (cnt d.toNat ++ (cnt e.toNat ++ (cnt y.toNat ++ []))))) = FB) := Lib.hid (by have h := P11.out; rw [List.drop_eq_nil_of_le (Nat.le_refl _), List.flatMap_nil, List.nil_append] at h; exact h)
      have H12 := H11
      clear P11 H11
      generalize u11 = u12 at *
      generalize xs11 = xs12 at *
      clear hk hlt hln
      have x0 := blk_cell H12.out.k 5
      simp only [List.getElem?_toArray, List.getElem?_cons_zero, List.getElem?_cons_succ] at x0
      go_wp2_with fail
      refine (wcount w.heap.size g u12 xs12 l5.length _ H12.out.h (Nat.le_trans (pre_le P12.out TT.out) (by omega)) (by have := FI.out; have h1 := FI.out.n5; omega)).mono ?_
      rintro en w13 ⟨rfl, u13, h13, m13⟩
      have H13 := Lib.hid (H12.out.next NG.out h13 m13)
      have P13 := Lib.hid (pre_on P12.out)
      clear h13 m13 H12 P12 x0
      generalize xs12 ++ cnt l5.length = xs13 at *
      have x0 := blk_cell H13.out.k 5
      simp only [List.getElem?_toArray, List.getElem?_cons_zero, List.getElem?_cons_succ] at x0
      have hln : l5.length ≤ 16384 := FI.out.n5
      go_wp2
      go_loopw [86] (fun r wr => ∃ (k : Nat) (u : Value) (xs : List Int), k ≤ l5.length ∧ r = .int .i64 k ∧ Hid (ES w wr Q (objO b z d e y A2 A3 A4 A5 c2 c3 c4 c5 l2 l3 l4 l5) g u xs) ∧ Hid (xs ++ ((l5.drop k).flatMap segB ++ (cnt d.toNat ++ (cnt e.toNat ++ (cnt y.toNat ++ [])))) = FB)) (fun r _ => l5.length - (intOf r).toNat)
      case atStart => exact ⟨0, u13, xs13, by omega, rfl, H13, Lib.hid (by rw [List.drop_zero]; exact P13.out)⟩
      case round =>
        clear H13 P13 x0
        obtain ⟨k, u14, xs14, hk, rfl, H14, P14⟩ := hrel
        by_cases hlt : k < l5.length
        · obtain ⟨bb, off, rfl, hbl, y0, y1⟩ := row131u FA.out.r5 k hlt
          have q0 := cell_old H14.out.b hbl y0
          have q1 := cell_old H14.out.b hbl y1
          have PE : Hid (xs14 ++ (segB l5[k] ++ ((l5.drop (k + 1)).flatMap segB ++ (cnt d.toNat ++ (cnt e.toNat ++ (cnt y.toNat ++ []))))) = FB) := Lib.hid (by have h := P14.out; rw [drop_flat segB l5 k hlt, List.append_assoc] at h; exact h)
          have o := FI.out.s5 l5[k] (List.getElem_mem hlt)
          generalize l5[k] = x at *
          obtain ⟨f0, f1⟩ := x
          simp only at q0 q1
          have OX := Lib.hid o
          clear o P14 y0 y1
          have P14 : Hid (xs14 ++ (cnt f0.toNat ++ (cnt (f1 + 1).toNat ++ ((l5.drop (k + 1)).flatMap segB ++ (cnt d.toNat ++ (cnt e.toNat ++ (cnt y.toNat ++ [])))))) = FB) := Lib.hid (by have h := PE.out; simp only [segB, List.append_assoc] at h ⊢; exact h)
          clear PE
          have KT := Lib.hid (heap_alloc_new wr (.cells #[.int .i64 f0, .int .i64 f1] 131))
          have NT := Lib.hid (new_ne H14.out.h).1
          have ET := Lib.hid (new_ne H14.out.h).2
          have H15 := Lib.hid (H14.out.alloc (.cells #[.int .i64 f0, .int .i64 f1] 131))
          have P15 := P14
          clear H14 P14
          generalize u14 = u15 at *
          generalize xs14 = xs15 at *
          go_wp2_with fail
          refine (wcountI w.heap.size g u15 xs15 f0 _ H15.out.h (Nat.le_trans (pre_le P15.out TT.out) (by omega)) (by have h := OX.out; unfold Fits131 at h; simp only at h; omega)).mono ?_
          rintro en w16 ⟨rfl, u16, h16, m16⟩
          have H16 := Lib.hid (H15.out.next NG.out h16 m16)
          have P16 := Lib.hid (pre_on P15.out)
          have KT2 := Lib.hid (blk_mv m16 KT.out NT.out ET.out)
          have ET2 := Lib.hid (ne_later m16 (blk_lt KT.out) ET.out)
          clear KT ET
          have KT := KT2
          have ET := ET2
          clear KT2 ET2
          clear h16 m16 H15 P15
          generalize xs15 ++ cnt f0.toNat = xs16 at *
          have c0 := blk_cell KT.out 1
          simp only [List.getElem?_toArray, List.getElem?_cons_zero, List.getElem?_cons_succ] at c0
          have hv1 : -1 ≤ f1 := by have h := OX.out; unfold Fits131 at h; simp only at h; omega
          have hv2 : f1 < 16384 := by have h := OX.out; unfold Fits131 at h; simp only at h; omega
          go_wp2_with fail
          refine (wcountI w.heap.size g u16 xs16 (f1 + 1) _ H16.out.h (Nat.le_trans (pre_le P16.out TT.out) (by omega)) (by have h := OX.out; unfold Fits131 at h; simp only at h; omega)).mono ?_
          rintro en w17 ⟨rfl, u17, h17, m17⟩
          have H17 := Lib.hid (H16.out.next NG.out h17 m17)
          have P17 := Lib.hid (pre_on P16.out)
          clear h17 m17 H16 P16 c0
          generalize xs16 ++ cnt (f1 + 1).toNat = xs17 at *
          go_wp2
          go_roundw
          case rel => exact ⟨k + 1, u17, xs17, by omega, by go_num, H17, P17⟩
          case measure => simp [intOf]; omega
        obtain rfl : k = l5.length := by omega
        have P15 : Hid (xs14 ++ (cnt d.toNat ++ (cnt e.toNat ++ (cnt y.toNat ++ []))) = FB) := Lib.hid (by have h := P14.out; rw [List.drop_eq_nil_of_le (Nat.le_refl _), List.flatMap_nil, List.nil_append] at h; exact h)
        have H15 := H14
        clear P14 H14
        generalize u14 = u15 at *
        generalize xs14 = xs15 at *
        clear hk hlt hln
        have x0 := blk_cell H15.out.k 6
        simp only [List.getElem?_toArray, List.getElem?_cons_zero, List.getElem?_cons_succ] at x0
        go_wp2_with fail
        refine (wcountI w.heap.size g u15 xs15 d _ H15.out.h (Nat.le_trans (pre_le P15.out TT.out) (by omega)) (by have := FI.out.d; omega)).mono ?_
        rintro en w16 ⟨rfl, u16, h16, m16⟩
        have H16 := Lib.hid (H15.out.next NG.out h16 m16)
        have P16 := Lib.hid (pre_on P15.out)
        clear h16 m16 H15 P15 x0
        generalize xs15 ++ cnt d.toNat = xs16 at *
        have x0 := blk_cell H16.out.k 7
        simp only [List.getElem?_toArray, List.getElem?_cons_zero, List.getElem?_cons_succ] at x0
        go_wp2_with fail
        refine (wcountI w.heap.size g u16 xs16 e _ H16.out.h (Nat.le_trans (pre_le P16.out TT.out) (by omega)) (by have := FI.out.e; omega)).mono ?_
        rintro en w17 ⟨rfl, u17, h17, m17⟩
        have H17 := Lib.hid (H16.out.next NG.out h17 m17)
        have P17 := Lib.hid (pre_on P16.out)
        clear h17 m17 H16 P16 x0
        generalize xs16 ++ cnt e.toNat = xs17 at *
        have x0 := blk_cell H17.out.k 8
        simp only [List.getElem?_toArray, List.getElem?_cons_zero, List.getElem?_cons_succ] at x0
        go_wp2_with fail
        refine (wcountI w.heap.size g u17 xs17 y _ H17.out.h (Nat.le_trans (pre_le P17.out TT.out) (by omega)) (by have := FI.out.y; omega)).mono ?_
        rintro en w18 ⟨rfl, u18, h18, m18⟩
        have H18 := Lib.hid (H17.out.next NG.out h18 m18)
        have P18 := Lib.hid (pre_on P17.out)
        clear h18 m18 H17 P17 x0
        generalize xs17 ++ cnt y.toNat = xs18 at *
        have EF : xs18 = FB := by have h := P18.out; rwa [List.append_nil] at h
        go_wp2_with fail
        have HW8 := wbytes w.heap.size g u18 xs18 w18 H18.out.h (Nat.le_trans (pre_le P18.out TT.out) (by omega))
        rw [EF] at HW8
        refine HW8.mono ?_
        clear EF HW8
        rintro en w8 ⟨v8, rfl, o8, b8⟩
        have O8 := Lib.hid o8
        have B8 := Lib.hid (H18.out.b.trans (b8.mono H18.out.b.size))
        have HS := Lib.hid H18.out.b.size
        clear o8 b8 H18 P18
        obtain ⟨A8, c8, rfl⟩ := own_slice O8.out
        go_wp2
        go_ret2
        exact ⟨_, rfl, fun _ => own_lower O8.out HS.out, fun h => absurd rfl h, B8.out⟩
end
end Go.Proofs.Ytehdhmhpmkkneaa
