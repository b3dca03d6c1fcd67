/- The texts Ka, Sc, Qe, Ua, Ub, Ud, Uc, Ue, Uf, Ug, one behind the other. -/
import Derived.Deep.RegionHeld3
import Derived.Test.YtehdhmhpmkkneaaMKey
import Derived.Test.YtehdhmhpmkkneaaMa
import Derived.Test.YtehdhmhpmkkneaaPAllx12
import Derived.RegionTactic
import Derived.ChangeAlike
import Derived.Test.YtehdhmhpmkkneaaPAllx1
import Derived.Test.YtehdhmhpmkkneaaPAlly39
import Derived.Test.YtehdhmhpmkkneaaMReads
import Derived.StillTailTactics
import Derived.Deep.RegionLaw
/- Layer 14: the page's example. -/
namespace Go.Proofs.Ytehdhmhpmkkneaa
open Go.RowKit Go.Proofs.YtehdhmhpmkkneaaW.PrintWords Go.Proofs.YtehdhmhpmkkneaaW.PrintLast Go.Proofs.YtehdhmhpmkkneaaW.PrintMore Go.Proofs.Ytehdhmhpmkkneaa.PAll

/-- A file's value. -/
abbrev fileV (m : ByteArray) (z : Int) (A2 A3 : Option Addr) (n2 n3 c2 c3 : Nat) : Value := .agg #[.string m, .int .u32 z, .slice A2 n2 c2, .slice A3 n3 c3]

/-- Its rows stand in w. -/
structure FileAt (A2 A3 : Option Addr) (c2 c3 : Nat) (l2 : List S93) (l3 : List S80) (w : World) : Prop where
  r2 : Kd.C k93 w A2 l2.length l2
  h2 : l2.length ≤ c2
  r3 : Kd.C k80 w A3 l3.length l3
  h3 : l3.length ≤ c3
theorem FileAt.below {A2 A3 : Option Addr} {c2 c3 : Nat} {l2 : List S93} {l3 : List S80} {w w' : World} (h : FileAt A2 A3 c2 c3 l2 l3 w) (hb : Below w.heap.size w w') : FileAt A2 A3 c2 c3 l2 l3 w' :=
  ⟨Kd.C_below h.r2 hb, h.h2, Kd.C_below h.r3 hb, h.h3⟩

/-- What the contracts ask of a file's parts. -/
structure OkFile (m : ByteArray) (l2 : List S93) (l3 : List S80) : Prop where
  sm : m.size ≤ 1000000000
  s2 : ∀ x ∈ l2, x.f0.size ≤ 9223372036854775807
  n2 : l2.length ≤ 9223372036854775807
  ok : ∀ x ∈ l3, Ok80 x
  s3 : ∀ x ∈ l3, x.f0.size ≤ 1000000000
  n3 : l3.length < 9223372036854775807
  sk : (keyB m l3).length ≤ 1000000000

theorem info93 : (Try.prog.info? 93).map (fun i => (i.zero, i.size, i.bytes)) = some (some (.agg #[.string ByteArray.empty, .int .u32 0]), 2, 24) := by kernel_rfl

theorem own_empty (W : World) (e sz : Nat) : (Kd.raw sz).R e (W.alloc (.cells #[] e)) W.heap.size (fun _ => True) (.slice (some ⟨W.heap.size, 0, none⟩) 0 0) [] :=
  ⟨fun _ _ => trivial, [], ⟨by simp, .inr ⟨W.heap.size, 0, #[], rfl, Nat.le_refl _, heap_alloc_new W _, Nat.le_refl _, Nat.zero_le _, by simp, by simp⟩⟩, ⟨by simp, fun j p h => by simp at h⟩⟩

/-- The list reads in every world that keeps what was there at w0, and the blocks between W0 and w1. -/
def Held {α : Type} (d : Kd α) (w0 W0 w1 : World) (A : Option Addr) (l : List α) : Prop :=
  ∀ w', Below w0.heap.size w0 w' → (∀ k, W0.heap.size ≤ k → k < w1.heap.size → w'.heap[k]? = w1.heap[k]?) → d.C w' A l.length l

theorem append_copy {α : Type} (d : Kd α) {P : Program} {ops : Array Oper} {rest : List Oper} {o : Oper} {a : Act} {Q : Exit → Act → World → Prop} (w0 W0 : World) (hgd : o.guard = none) (s x : Operand) (t e : TypeId) (z : Value) (bytes : Nat)
    (ho : o.op = .call { callee := .builtin .append, args := #[s, x], argTypes := #[t, t] }) (ht : P.underlying t = some (.slice e)) (hinfo : (P.info? e).map (fun i => (i.zero, i.size, i.bytes)) = some (some z, d.sz, bytes)) (hz : z.cells.size = d.sz) (hs0 : 0 < d.sz) (hb0 : 0 < bytes)
    (l : List α) (A : Option Addr) (c : Nat) (hs : a.eval s = .slice (some ⟨W0.heap.size, 0, none⟩) 0 0) (hx : a.eval x = .slice A l.length c) (HC : d.C w0 A l.length l) (hB0 : Below w0.heap.size w0 W0) (hl : l.length * bytes ≤ 140737488355328)
    (h : ∀ A' c' w1, Held d w0 W0 w1 A' l → l.length ≤ c' → Below W0.heap.size W0 w1 → wpList P ops Q rest (a.put o.dst (.slice A' l.length c')) w1) :
    wpList P ops Q (o :: rest) a (W0.alloc (.cells #[] e)) := by
  have ba : Below W0.heap.size W0 (W0.alloc (.cells #[] e)) := (Below.refl _ _).alloc (Nat.le_refl _) _
  obtain ⟨news, hnl, hnr0, hnf⟩ := Kd.reads_raw HC (fun y c hk => ⟨d.K_len hk, d.K_one hk⟩)
  have hnr := ReadsRow.imp_ hnr0 (hB0.trans (ba.mono hB0.size)) (fun _ _ hp => hp)
  refine Kd.R_append_rows (Kd.raw d.sz) (w0 := W0) W0.heap.size hgd s x t e z bytes ho ht hinfo hz hs0 hb0 _ [] news A l.length c (fun _ => True) (fun _ => False) hs hx (own_empty W0 e d.sz) hnr (fun _ _ hk => hk) (fun _ hk => hk.elim) (fun _ _ => trivial) ba ba.size (by simpa using hl) ?_
  intro v1 w1 hr hb _ _
  obtain ⟨A', c', rfl, hc', hC⟩ := Kd.R_reads hr
  have hlen : ([] ++ news).length = l.length := by simpa using hnl
  obtain ⟨_, inner, hown, _⟩ := hr
  rw [hlen] at hC hc' ⊢
  refine h A' c' w1 (fun w' hw hk' => ⟨rfl, HC.2.1, fun h0 => ?_⟩) hc' hb
  obtain ⟨ad, hA, hj⟩ := hC.2.2 h0
  subst hA
  have hblk : w'.heap[ad.block]? = w1.heap[ad.block]? := hk' _ (own_base hown ad.block rfl) (own_lt hown ad.block rfl)
  obtain ⟨g, rfl⟩ : ∃ g, ad = ⟨g, 0, none⟩ := by
    rcases hown.2 with ⟨hv, _⟩ | ⟨g, cap, cur, hv, _⟩
    · cases hv
    · injection hv with hv _ _
      injection hv with hv
      exact ⟨g, hv⟩
  refine ⟨_, rfl, fun j p hp => ?_⟩
  have hjl : j < l.length := (List.getElem?_eq_some_iff.1 hp).1
  have hjn : news[j]? = some (news[j]'(by omega)) := List.getElem?_eq_getElem (by omega)
  obtain ⟨cs, h1, h2, h3⟩ := hj j (news[j]'(by omega)) (by simp)
  have hk := hnf j p _ hp hjn
  have h2' : cs = news[j]'(by omega) := h2.1
  rw [← h2'] at hk
  exact ⟨cs, h1, d.K_below hw hk, fun i u hu => (World.cell?_of_block (w := w1) (a := (⟨g, 0, none⟩ : Addr).add (j * d.sz + i)) (by rw [add_block]; exact hblk)).trans (h3 i u hu)⟩

theorem info80' : (Try.prog.info? 80).map (fun i => (i.zero, i.size, i.bytes)) = some (some (.agg #[.string ⟨#[]⟩, .int .i64 0, .int .i64 0, .int .i32 0, .slice none 0 0]), 5, 64) := by kernel_rfl

set_option maxHeartbeats 2000000 in
set_option maxRecDepth 100000 in
theorem file_make (m : ByteArray) (A2 A3 : Option Addr) (c2 c3 : Nat) (l2 : List S93) (l3 : List S80) (w : World) (h : FileAt A2 A3 c2 c3 l2 l3 w) (ok : OkFile m l2 l3) (h2 : l2.length ≤ 1000000000) (h3 : l3.length ≤ 1000000000) :
    Calls Try.prog 59 #[.string m, .slice A2 l2.length c2, .slice A3 l3.length c3] w fun e w' => ∃ B2 B3 d2 d3, e = .returned (fileV m (keyOf80 m l3) B2 B3 l2.length l3.length d2 d3) ∧ FileAt B2 B3 d2 d3 l2 l3 w' ∧ Below w.heap.size w w' := by
  have FA := Lib.hid h
  have OK := Lib.hid ok
  have H2 := Lib.hid h2
  have H3 := Lib.hid h3
  clear h ok h2 h3
  have ba : Below w.heap.size w (w.alloc (.cells #[.string ByteArray.empty, .int .u32 0, .slice none 0 0, .slice none 0 0] 75)) := (Below.refl _ _).alloc (Nat.le_refl _) _
  have F1 := Lib.hid (FA.out.below ba)
  have B1 := Lib.hid ba
  have K1 := Lib.hid (heap_alloc_new w (.cells #[.string ByteArray.empty, .int .u32 0, .slice none 0 0, .slice none 0 0] 75))
  clear ba
  go_enter Try.func59, Try.ntmps59
  go_wp2_with fail
  refine (fkey m l3 A3 c3 _ F1.out.r3 OK.out.ok OK.out.sk OK.out.sm).mono ?_
  rintro e w1 ⟨rfl, b1⟩
  have B2 := Lib.hid (B1.out.trans (b1.mono B1.out.size))
  have K2 := Lib.hid ((b1.block _ (blk_lt K1.out)).trans K1.out)
  clear b1 B1 F1 K1
  go_wp2_with (first
    | (at_builtin; refine append_copy k93 w w1 rfl (.tmp 11) (.tmp 12) 55 93 (.agg #[.string ByteArray.empty, .int .u32 0]) 24 rfl Try.underlying55 info93 rfl (by decide) (by decide) l2 A2 c2 rfl rfl FA.out.r2 B2.out (by have := H2.out; omega) ?_; intro A4 c4 w2 hC hc4 hb2; have C2 := Lib.hid hC; have L2 := Lib.hid hc4; have B3 := Lib.hid (B2.out.trans (hb2.mono B2.out.size)); have D2 := Lib.hid hb2; have K3 := Lib.hid ((hb2.block _ (blk_lt K2.out)).trans K2.out); clear hC hc4 hb2)
    | (at_builtin; refine append_copy k80 w w2 rfl (.tmp 14) (.tmp 15) 35 80 (.agg #[.string ⟨#[]⟩, .int .i64 0, .int .i64 0, .int .i32 0, .slice none 0 0]) 64 rfl Try.underlying35 info80' rfl (by decide) (by decide) l3 A3 c3 rfl rfl FA.out.r3 B3.out (by have := H3.out; omega) ?_; intro A5 c5 w3 hC hc5 hb3; have C3 := Lib.hid hC; have L3 := Lib.hid hc5; have B4 := Lib.hid (B3.out.trans (hb3.mono B3.out.size)); have D3 := Lib.hid hb3; have K4 := Lib.hid ((hb3.block _ (blk_lt K3.out)).trans K3.out); have q0 := blk_cell K4.out 0; have q1 := blk_cell K4.out 1; have q2 := blk_cell K4.out 2; have q3 := blk_cell K4.out 3; have fr0 := blk_frozen K4.out 0; have fr1 := blk_frozen K4.out 1; have fr2 := blk_frozen K4.out 2; have fr3 := blk_frozen K4.out 3; simp only [List.getElem?_toArray, List.getElem?_cons_zero, List.getElem?_cons_succ] at q0 q1 q2 q3; clear hC hc5 hb3))
  have X : ∀ k, w.heap.size < k → ((((w3.setCell ⟨w.heap.size, 0, none⟩ (.string m)).setCell ⟨w.heap.size, 1, none⟩ (.int .u32 (keyOf80 m l3))).setCell ⟨w.heap.size, 2, none⟩ (.slice A4 l2.length c4)).setCell ⟨w.heap.size, 3, none⟩ (.slice A5 l3.length c5)).heap[k]? = w3.heap[k]? := fun k hk => by
    rw [Below.heap_setCell _ _ _ k (by simp; omega), Below.heap_setCell _ _ _ k (by simp; omega), Below.heap_setCell _ _ _ k (by simp; omega), Below.heap_setCell _ _ _ k (by simp; omega)]
  have hlt1 := blk_lt K2.out
  have hlt2 := blk_lt K3.out
  have Y : Below w.heap.size w ((((w3.setCell ⟨w.heap.size, 0, none⟩ (.string m)).setCell ⟨w.heap.size, 1, none⟩ (.int .u32 (keyOf80 m l3))).setCell ⟨w.heap.size, 2, none⟩ (.slice A4 l2.length c4)).setCell ⟨w.heap.size, 3, none⟩ (.slice A5 l3.length c5)) :=
    below_set (below_set (below_set (below_set B4.out (Nat.le_refl _)) (Nat.le_refl _)) (Nat.le_refl _)) (Nat.le_refl _)
  refine bodyPost_ret (results_cell_row rfl _ _ w.heap.size 75 #[.string m, .int .u32 (keyOf80 m l3), .slice A4 l2.length c4, .slice A5 l3.length c5] (0, 0) _ rfl (blk_put (blk_put (blk_put (blk_put K4.out 0 _ rfl) 1 _ rfl) 2 _ rfl) 3 _ rfl) Try.underlying75 rfl (by kernel_rfl)) rfl ?_
  refine ⟨A4, A5, c4, c5, rfl, ⟨C2.out _ Y (fun k h1 h2 => ?_), L2.out, C3.out _ Y (fun k h1 h2 => X k (by omega)), L3.out⟩, Y⟩
  rw [X k (by omega)]
  exact D3.out.block k h2
theorem example_ok : OkFile ⟨#[77]⟩ [] [] :=
  ⟨by decide, (fun _ h => by cases h), by simp, (fun _ h => by cases h), (fun _ h => by cases h), by simp, by have := keyB_len ⟨#[77]⟩ [] (fun _ h => by cases h) ⟨by simp, fun _ h => by cases h⟩ (by decide); omega⟩
theorem none_at (w : World) : FileAt none none 0 0 [] [] w := ⟨⟨rfl, by simp, fun h => by simp at h⟩, Nat.le_refl _, ⟨rfl, by simp, fun h => by simp at h⟩, Nat.le_refl _⟩

theorem name_example : symfile_Name.f 5 ⟨#[77]⟩ = some true := by decide +kernel
theorem imports_example : symfile_imports.f 5 ⟨#[77]⟩ [] = some 0 := by
  unfold symfile_imports.f
  rw [if_neg (by simp), if_pos (by decide)]
  rfl

set_option maxHeartbeats 2000000 in
set_option maxRecDepth 100000 in
theorem check_example (A2 A3 : Option Addr) (c2 c3 : Nat) (key : Int) (hkey : keyOf80 ⟨#[77]⟩ [] = key) (w : World) (h : FileAt A2 A3 c2 c3 [] [] w) :
    Calls Try.prog 54 #[fileV ⟨#[77]⟩ key A2 A3 0 0 c2 c3] w fun e w' => e = .returned (.int .i64 0) ∧ Below w.heap.size w w' := by
  have FA := Lib.hid h
  have HK := Lib.hid hkey
  clear h hkey
  obtain ⟨W, hW⟩ : ∃ W, W = w.alloc (.cells #[.string ⟨#[77]⟩, .int .u32 key, .slice A2 0 c2, .slice A3 0 c3] 75) := ⟨_, rfl⟩
  obtain ⟨Q, hQ⟩ : ∃ Q, Q = w.heap.size := ⟨_, rfl⟩
  have bx := heap_alloc_new w (.cells #[.string ⟨#[77]⟩, .int .u32 key, .slice A2 0 c2, .slice A3 0 c3] 75)
  rw [← hW, ← hQ] at bx
  have x0 := blk_cell bx 0
  have x1 := blk_cell bx 1
  have x2 := blk_cell bx 2
  have x3 := blk_cell bx 3
  simp only [List.getElem?_toArray, List.getElem?_cons_zero, List.getElem?_cons_succ] at x0 x1 x2 x3
  have bW : Below w.heap.size w W := by rw [hW]; exact (Below.refl _ _).alloc (Nat.le_refl _) _
  have F1 := Lib.hid (FA.out.below bW)
  have BW := Lib.hid bW
  have HQ := Lib.hid (blk_lt bx)
  have HW := Lib.hid hW
  have HQQ := Lib.hid hQ
  clear bx bW hW hQ
  go_enter Try.func54, Try.ntmps54
  go_wp2_with fail
  rw [← HW.out]
  refine (symfile_Name.calls 5 ⟨#[77]⟩ true _ name_example).mono ?_
  rintro e w1 ⟨rfl, d1⟩
  have b1 := d1.below
  have B1 := Lib.hid (BW.out.trans (b1.mono BW.out.size))
  have F2 := Lib.hid (F1.out.below b1)
  replace x0 := (b1.cell (p := ⟨Q, 0, none⟩) HQ.out).trans x0
  replace x1 := (b1.cell (p := ⟨Q, 1, none⟩) HQ.out).trans x1
  replace x2 := (b1.cell (p := ⟨Q, 2, none⟩) HQ.out).trans x2
  replace x3 := (b1.cell (p := ⟨Q, 3, none⟩) HQ.out).trans x3
  have Q1 := Lib.hid (Nat.lt_of_lt_of_le HQ.out b1.size)
  clear d1 b1 F1 BW HQ
  rw [← HQQ.out]
  go_wp2_with fail
  refine (symfile_imports.calls 5 ⟨#[77]⟩ A2 c2 [] 0 _ F2.out.r2 F2.out.h2 imports_example).mono ?_
  rintro e w2 ⟨rfl, b2⟩
  have B2 := Lib.hid (B1.out.trans (b2.mono B1.out.size))
  have F3 := Lib.hid (F2.out.below b2)
  replace x0 := (b2.cell (p := ⟨Q, 0, none⟩) Q1.out).trans x0
  replace x1 := (b2.cell (p := ⟨Q, 1, none⟩) Q1.out).trans x1
  replace x2 := (b2.cell (p := ⟨Q, 2, none⟩) Q1.out).trans x2
  replace x3 := (b2.cell (p := ⟨Q, 3, none⟩) Q1.out).trans x3
  have Q2 := Lib.hid (Nat.lt_of_lt_of_le Q1.out b2.size)
  clear b2 F2 B1 Q1
  have hmm := @run_makeMap Try.prog
  have ba : Below w2.heap.size w2 (w2.alloc (.map #[] 0)) := (Below.refl _ _).alloc (Nat.le_refl _) _
  have B3 := Lib.hid (B2.out.trans (ba.mono B2.out.size))
  have y0 := (ba.cell (p := ⟨Q, 0, none⟩) Q2.out).trans x0
  have y1 := (ba.cell (p := ⟨Q, 1, none⟩) Q2.out).trans x1
  have y3 := (ba.cell (p := ⟨Q, 3, none⟩) Q2.out).trans x3
  have F4 := Lib.hid (F3.out.below ba)
  have Q4 := Lib.hid (Nat.lt_of_lt_of_le Q2.out ba.size)
  obtain ⟨V, HV⟩ : ∃ V, Hid (V = w2.alloc (.map #[] 0)) := ⟨_, Lib.hid rfl⟩
  clear ba
  go_wp2
  refine wp_loop_rounds 1 ?_
  rw [rounds_succ]
  have bd : Below (w2.alloc (.map #[] 0)).heap.size (w2.alloc (.map #[] 0)) (w2.alloc (.map #[] 0)).drew := (Below.refl _ _).drew
  have FD := Lib.hid (F4.out.below bd)
  have BD := Lib.hid (B3.out.trans (bd.mono B3.out.size))
  rw [← HV.out] at y0 y1 y3 FD BD Q4
  clear bd x0 x1 x2 x3
  have z1 : (key != key) = false := by simp
  go_wp2
  rw [← HV.out]
  go_region_held3 (fun w' => w'.cell? ⟨Q, 0, none⟩ = some (.string ⟨#[77]⟩) ∧ w'.cell? ⟨Q, 1, none⟩ = some (.int .u32 key) ∧ w'.cell? ⟨Q, 3, none⟩ = some (.slice A3 0 c3)) (first | exact ⟨y0, y1, y3⟩ | exact ⟨yk0, yk1, yk3⟩ | go_keep) (first
    | (go_at_call 24; refine (fkey ⟨#[77]⟩ [] A3 c3 _ FD.out.r3 example_ok.ok example_ok.sk example_ok.sm).mono ?_; rw [HK.out]; rintro e wk ⟨rfl, bk⟩; have BK := Lib.hid (BD.out.trans (bk.mono BD.out.size)); have yk0 := (bk.cell (p := ⟨Q, 0, none⟩) Q4.out).trans y0; have yk1 := (bk.cell (p := ⟨Q, 1, none⟩) Q4.out).trans y1; have yk3 := (bk.cell (p := ⟨Q, 3, none⟩) Q4.out).trans y3; clear bk))
  go_wp2
  go_ret
  exact ⟨rfl, BK.out⟩

set_option maxHeartbeats 1000000 in
set_option maxRecDepth 100000 in
theorem awake14 (w : World) : Calls Try.prog 48 #[] w fun e w' => e = .returned (.bool true) ∧ Below w.heap.size w w' := by
  go_enter Try.func48, Try.ntmps48
  go_wp2_with fail
  refine (file_make ⟨#[77]⟩ none none 0 0 [] [] _ (none_at _) example_ok (by simp) (by simp)).mono ?_
  rintro e w1 ⟨B2, B3, d2, d3, rfl, fa, b1⟩
  have FA := Lib.hid fa
  have B1 := Lib.hid b1
  clear fa b1
  have ba : Below w1.heap.size w1 (w1.alloc (.cells #[.string ⟨#[77]⟩, .int .u32 (keyOf80 ⟨#[77]⟩ []), .slice B2 0 d2, .slice B3 0 d3] 75)) := (Below.refl _ _).alloc (Nat.le_refl _) _
  have F2 := Lib.hid (FA.out.below ba)
  have K2 := Lib.hid (heap_alloc_new w1 (.cells #[.string ⟨#[77]⟩, .int .u32 (keyOf80 ⟨#[77]⟩ []), .slice B2 0 d2, .slice B3 0 d3] 75))
  have BB := Lib.hid (B1.out.trans (ba.mono B1.out.size))
  obtain ⟨key, hkey⟩ : ∃ key, keyOf80 ⟨#[77]⟩ [] = key := ⟨_, rfl⟩
  rw [hkey] at F2 K2 BB
  rw [hkey]
  have HK := Lib.hid hkey
  clear ba FA B1 hkey
  simp only [List.length_nil] at F2 K2 BB ⊢
  go_wp2_with fail
  refine (check_example B2 B3 d2 d3 key HK.out _ F2.out).mono ?_
  rintro e w2 ⟨rfl, b2⟩
  have K3 := (b2.block _ (blk_lt K2.out)).trans K2.out
  have k0 := blk_cell K3 0
  simp only [List.getElem?_toArray, List.getElem?_cons_zero] at k0
  have B3 := Lib.hid (BB.out.trans (b2.mono BB.out.size))
  clear b2 K3 K2 BB F2
  go_wp2
  go_ret
  exact ⟨rfl, B3.out⟩
end Go.Proofs.Ytehdhmhpmkkneaa

/- Which lists of exports are the same: the document's Same. -/
namespace Go.Proofs.Ytehdhmhpmkkneaa
open Go.RowKit Go.Proofs.YtehdhmhpmkkneaaW.PrintWords Go.Proofs.Ytehdhmhpmkkneaa.PAll

theorem cell_old' {w0 w : World} (hb : Below w0.heap.size w0 w) {b off : Nat} {v : Value} (hlt : b < w0.heap.size) (h : w0.cell? ⟨b, off, none⟩ = some v) : w.cell? ⟨b, off, none⟩ = some v :=
  (hb.cell (p := ⟨b, off, none⟩) hlt).trans h
theorem str_eq {a b : ByteArray} : a.toList = b.toList ↔ a = b := by
  refine ⟨fun h => ?_, fun h => by rw [h]⟩
  rw [ByteArray.toList_eq, ByteArray.toList_eq] at h
  obtain ⟨⟨l⟩⟩ := a
  obtain ⟨⟨l'⟩⟩ := b
  simp only at h
  rw [h]
theorem wrap_succ' (i : Nat) (h : i < 9223372036854775807) : wrap64 ((i : Int) + 1) = ((i + 1 : Nat) : Int) := by unfold wrap64; omega
/-- Two lists that agree below i and differ at i. -/
theorem drop_ne {α : Type} {l l' : List α} {i : Nat} (h : i < l.length) (h' : i < l'.length) (hne : l[i] ≠ l'[i]) : l.drop i ≠ l'.drop i := by
  rw [List.drop_eq_getElem_cons h, List.drop_eq_getElem_cons h']
  intro e
  exact hne (by injection e)
theorem drop_succ {α : Type} {l l' : List α} {i : Nat} (h : i < l.length) (h' : i < l'.length) (he : l[i] = l'[i]) : l.drop i = l'.drop i ↔ l.drop (i + 1) = l'.drop (i + 1) := by
  rw [List.drop_eq_getElem_cons h, List.drop_eq_getElem_cons h', he]
  exact ⟨fun e => by injection e, fun e => by rw [e]⟩

theorem params_loop (l l' : List S119) (hL : l.length = l'.length) (hm : l.length ≤ 9223372036854775807) : ∀ (d k i : Nat), i + d = l.length → d < k → ∃ r, pascalineref11_Params.l0 k l l' (i : Int) = some r ∧ (r = true ↔ l.drop i = l'.drop i) := by
  intro d
  induction d with
  | zero =>
    intro k i hi hk
    obtain ⟨k, rfl⟩ : ∃ m, k = m + 1 := ⟨k - 1, by omega⟩
    refine ⟨true, by rw [pascalineref11_Params.l0, if_neg (by omega)], ?_⟩
    rw [List.drop_of_length_le (by omega), List.drop_of_length_le (by omega)]
    simp
  | succ d ih =>
    intro k i hi hk
    obtain ⟨k, rfl⟩ : ∃ m, k = m + 1 := ⟨k - 1, by omega⟩
    have h1 : i < l.length := by omega
    have h2 : i < l'.length := by omega
    have e1 : rd_T119 l (i : Int) = l[i] := by simp [rd_T119, h1]
    have e2 : rd_T119 l' (i : Int) = l'[i] := by simp [rd_T119, h2]
    rw [pascalineref11_Params.l0, if_pos (by omega), if_pos (by omega), if_pos (by omega), e1, e2, wrap_succ' i (by omega)]
    by_cases h : l[i] = l'[i]
    · obtain ⟨r, hr, hp⟩ := ih k (i + 1) (by omega) (by omega)
      refine ⟨r, ?_, by rw [hp, drop_succ h1 h2 h]⟩
      rw [h, if_neg (by simp), hr]
    · refine ⟨false, ?_, ⟨(fun e => by cases e), fun e => absurd e (drop_ne h1 h2 h)⟩⟩
      rw [if_pos]
      cases hx : l[i]
      cases hy : l'[i]
      rw [hx, hy] at h
      simp only [S119.mk.injEq, not_and] at h
      simp only [Bool.or_eq_true, Bool.not_eq_true', beq_eq_false_iff_ne]
      rename_i a b a' b'
      by_cases hab : a = a'
      · exact .inr (h hab)
      · exact .inl hab

theorem rparams (l l' : List S119) (A A' : Option Addr) (c c' : Nat) (w : World) (hr : Kd.C k119 w A l.length l) (hc : l.length ≤ c) (hr' : Kd.C k119 w A' l'.length l') (hc' : l'.length ≤ c') :
    ∃ r, (r = true ↔ l = l') ∧ Calls Try.prog 82 #[.slice A l.length c, .slice A' l'.length c'] w fun e w' => e = .returned (.bool r) ∧ Drawn0 w w' := by
  by_cases h : l.length = l'.length
  · obtain ⟨r, hk, hp⟩ := params_loop l l' h hr.2.1 l.length (l.length + 1) 0 (by omega) (by omega)
    rw [Int.natCast_zero] at hk
    refine ⟨r, by simpa using hp, pascalineref11_Params.calls (l.length + 1) A c l A' c' l' r w hr hc hr' hc' ?_⟩
    unfold pascalineref11_Params.f
    rw [if_pos (by omega), hk]
  · refine ⟨false, ⟨(fun e => by cases e), fun e => absurd (by rw [e]) h⟩, pascalineref11_Params.calls 0 A c l A' c' l' false w hr hc hr' hc' ?_⟩
    unfold pascalineref11_Params.f
    rw [if_neg (by omega)]

/-- A bool is handed back that says whether P; nothing that was there has changed. -/
def SaidB (w : World) (P : Prop) (e : Ending) (w' : World) : Prop := ∃ r, e = .returned (.bool r) ∧ (r = true ↔ P) ∧ Below w.heap.size w w'

theorem rparams' (l l' : List S119) (A A' : Option Addr) (c c' : Nat) (w : World) (r : Bool) (e : r = true ↔ l = l') (hr : Kd.C k119 w A l.length l) (hc : l.length ≤ c) (hr' : Kd.C k119 w A' l'.length l') (hc' : l'.length ≤ c') :
    Calls Try.prog 82 #[.slice A l.length c, .slice A' l'.length c'] w fun e w' => e = .returned (.bool r) ∧ Drawn0 w w' := by
  obtain ⟨r', hr1, hk⟩ := rparams l l' A A' c c' w hr hc hr' hc'
  have : r = r' := by
    cases r <;> cases r' <;> simp_all
  rw [this]
  exact hk
theorem bool_of (P : Prop) : ∃ r : Bool, (r = true ↔ P) := by
  by_cases h : P
  · exact ⟨true, by simp [h]⟩
  · exact ⟨false, by simp [h]⟩

set_option maxHeartbeats 4000000 in
set_option maxRecDepth 100000 in
theorem rsame80 (l l' : List S80) (A A' : Option Addr) (c c' : Nat) (w : World) (hr : Kd.C k80 w A l.length l) (hr' : Kd.C k80 w A' l'.length l') (hL : l.length = l'.length) :
    Calls Try.prog 26 #[.slice A l.length c, .slice A' l'.length c'] w (SaidB w (l = l')) := by
  have HR := Lib.hid hr
  have HR' := Lib.hid hr'
  have l63 := hr.2.1
  have LL := Lib.hid hL
  obtain ⟨P, hP⟩ : ∃ P : Prop, P = (l = l') := ⟨_, rfl⟩
  rw [← hP]
  have HP := Lib.hid hP
  clear hr hr' hP
  go_enter Try.func26, Try.ntmps26
  go_wp2
  clear hL
  go_loopw [4, 5] (fun r4 r5 wr => ∃ (k : Nat), k ≤ l.length ∧ r4 = .bool false ∧ r5 = .int .i64 k ∧ Hid (Below w.heap.size w wr) ∧ Hid (P ↔ l.drop k = l'.drop k)) (fun _ r5 _ => l.length - (intOf r5).toNat)
  case atStart => exact ⟨0, by omega, rfl, rfl, Lib.hid (Below.refl _ _), Lib.hid (by rw [HP.out]; simp)⟩
  case round =>
    obtain ⟨k, hk, rfl, rfl, HB, HI⟩ := hrel
    by_cases hlt : k < l.length
    rotate_left
    · go_wp2
      go_ret
      refine ⟨true, rfl, ?_, HB.out⟩
      rw [HI.out, List.drop_of_length_le (by omega), List.drop_of_length_le (by have := LL.out; omega)]
      simp
    have hlt' : k < l'.length := by have := LL.out; omega
    obtain ⟨b, off, A4, c4, rfl, hbl, x0, x1, x2, x3, x4, l4, g4⟩ := row80 HR.out k hlt
    obtain ⟨b', off', A4', c4', rfl, hbl', x0', x1', x2', x3', x4', l4', g4'⟩ := row80 HR'.out k hlt'
    have q0 := cell_old' HB.out hbl x0
    have q1 := cell_old' HB.out hbl x1
    have q2 := cell_old' HB.out hbl x2
    have q3 := cell_old' HB.out hbl x3
    have q4 := cell_old' HB.out hbl x4
    have q0' := cell_old' HB.out hbl' x0'
    have q1' := cell_old' HB.out hbl' x1'
    have q2' := cell_old' HB.out hbl' x2'
    have q3' := cell_old' HB.out hbl' x3'
    have q4' := cell_old' HB.out hbl' x4'
    have G4 := Lib.hid g4
    have G4' := Lib.hid g4'
    have DN : Hid (l[k] ≠ l'[k] → ¬ P) := Lib.hid (fun h => by rw [HI.out]; exact drop_ne hlt hlt' h)
    have DS : Hid (l[k] = l'[k] → (P ↔ l.drop (k + 1) = l'.drop (k + 1))) := Lib.hid (fun h => by rw [HI.out]; exact drop_succ hlt hlt' h)
    clear x0 x1 x2 x3 x4 x0' x1' x2' x3' x4' g4 g4'
    have bl := World.block_lt_of_cell? _ _ q0
    have bl' := World.block_lt_of_cell? _ _ q0'
    simp only at bl bl'
    generalize l[k] = x at *
    generalize l'[k] = x' at *
    obtain ⟨f0, f1, f2, f3, f4⟩ := x
    obtain ⟨e0, e1, e2, e3, e4⟩ := x'
    simp only at q0 q1 q2 q3 q4 q0' q1' q2' q3' q4' l4 l4'
    by_cases h4 : f4 = e4
    rotate_left
    · have RF : Hid (false = true ↔ f4 = e4) := Lib.hid ⟨(fun h => by cases h), fun h => absurd h h4⟩
      have RN := Lib.hid h4
      clear h4
      go_wp2
      go_region
      all_goals
        go_wp2_with (go_at_call 82; go_must (refine (rparams' f4 e4 A4 A4' c4 c4' _ false RF.out (Kd.C_below G4.out (by repeat (first | with_reducible exact HB.out | with_reducible apply below_drew | with_reducible apply pw_below_drewN | with_reducible apply below_alloc))) l4 (Kd.C_below G4'.out (by repeat (first | with_reducible exact HB.out | with_reducible apply below_drew | with_reducible apply pw_below_drewN | with_reducible apply below_alloc))) l4').mono ?_; rintro e w2 ⟨rfl, d2⟩; have B2 := Lib.hid d2.below; clear d2))
      all_goals
        go_ret
        refine ⟨false, rfl, ⟨(fun h => by cases h), fun h => absurd h (DN.out (fun e => ?_))⟩, ?_⟩
      all_goals first
        | (exfalso; injection e with i0 i1 i2 i3 i4; first | exact (‹¬ f3 = e3› i3) | exact (‹¬ f2 = e2› i2) | exact (‹¬ f1 = e1› i1) | exact (‹¬ f0.toList = e0.toList› (by rw [i0])) | exact RN.out i4)
        | (refine Below.trans ?_ (B2.out.mono (by have := HB.out.size; simp; omega)); (repeat (first | with_reducible exact HB.out | with_reducible apply below_drew | with_reducible apply pw_below_drewN | with_reducible apply below_alloc)); done)
        | ((repeat (first | with_reducible exact HB.out | with_reducible apply below_drew | with_reducible apply pw_below_drewN | with_reducible apply below_alloc)); done)
    · have RE := Lib.hid h4
      clear h4
      go_wp2
      go_region
      all_goals
        go_wp2_with (go_at_call 82; go_must (refine (rparams' f4 e4 A4 A4' c4 c4' _ true (iff_of_true rfl RE.out) (Kd.C_below G4.out (by repeat (first | with_reducible exact HB.out | with_reducible apply below_drew | with_reducible apply pw_below_drewN | with_reducible apply below_alloc))) l4 (Kd.C_below G4'.out (by repeat (first | with_reducible exact HB.out | with_reducible apply below_drew | with_reducible apply pw_below_drewN | with_reducible apply below_alloc))) l4').mono ?_; rintro e w2 ⟨rfl, d2⟩; have B2 := Lib.hid d2.below; clear d2))
      all_goals first
        | (go_ret; refine ⟨false, rfl, ⟨(fun h => by cases h), fun h => absurd h (DN.out (fun e => ?_))⟩, ?_⟩)
        | refine ⟨⟨k + 1, by omega, rfl, by go_num, Lib.hid ?_, Lib.hid (DS.out (by rw [str_eq.1 ‹f0.toList = e0.toList›, ‹f1 = e1›, ‹f2 = e2›, ‹f3 = e3›, RE.out]))⟩, ?_⟩
      all_goals first
        | (exfalso; injection e with i0 i1 i2 i3 i4; first | exact (‹¬ f3 = e3› i3) | exact (‹¬ f2 = e2› i2) | exact (‹¬ f1 = e1› i1) | exact (‹¬ f0.toList = e0.toList› (by rw [i0])))
        | (refine Below.trans ?_ (B2.out.mono (by have := HB.out.size; simp; omega)); (repeat (first | with_reducible exact HB.out | with_reducible apply below_drew | with_reducible apply pw_below_drewN | with_reducible apply below_alloc)); done)
        | ((repeat (first | with_reducible exact HB.out | with_reducible apply below_drew | with_reducible apply pw_below_drewN | with_reducible apply below_alloc)); done)
        | (simp [intOf]; omega)
set_option maxHeartbeats 400000 in
set_option maxRecDepth 100000 in
theorem rsame80_ne (l l' : List S80) (A A' : Option Addr) (c c' : Nat) (w : World) (hL : ((l.length : Int) != (l'.length : Int)) = true) :
    Calls Try.prog 26 #[.slice A l.length c, .slice A' l'.length c'] w fun e w' => e = .returned (.bool false) ∧ w = w' := by
  go_enter Try.func26, Try.ntmps26
  go_wp2
  go_ret
  exact ⟨rfl, rfl⟩

theorem rsame80' (l l' : List S80) (A A' : Option Addr) (c c' : Nat) (w : World) (hr : Kd.C k80 w A l.length l) (hr' : Kd.C k80 w A' l'.length l') :
    Calls Try.prog 26 #[.slice A l.length c, .slice A' l'.length c'] w (SaidB w (l = l')) := by
  by_cases h : l.length = l'.length
  · exact rsame80 l l' A A' c c' w hr hr' h
  · refine (rsame80_ne l l' A A' c c' w (by rw [bne_iff_ne]; omega)).mono ?_
    rintro e w' ⟨rfl, rfl⟩
    exact ⟨false, rfl, ⟨(fun e => by cases e), fun e => absurd (by rw [e]) h⟩, Below.refl _ _⟩

theorem pw_below_drewN' {B : Nat} {w W : World} (h : Below B w W) (m : Nat) : Below B w (W.drewN m) := ⟨h.os, h.tape, h.output, h.size, h.block⟩
end Go.Proofs.Ytehdhmhpmkkneaa

/- Which imports are the same: walked. -/
namespace Go.Proofs.Ytehdhmhpmkkneaa
open Go.RowKit Go.Proofs.YtehdhmhpmkkneaaW.PrintWords Go.Proofs.YtehdhmhpmkkneaaW.PrintLast Go.Proofs.YtehdhmhpmkkneaaW.PrintMore Go.Proofs.Ytehdhmhpmkkneaa.PAll
attribute [local go_sem high] eqA93

/-- An element of a row of imports. -/
theorem row93 {w : World} {A : Option Addr} {xs : List S93} (h : Kd.C k93 w A xs.length xs) (k : Nat) (hk : k < xs.length) :
    ∃ b off, A = some ⟨b, off, none⟩ ∧ b < w.heap.size ∧ w.cell? ⟨b, off + k * 2, none⟩ = some (.string xs[k].f0) ∧ w.cell? ⟨b, off + k * 2 + 1, none⟩ = some (.int .u32 xs[k].f1) := by
  obtain ⟨ad, rfl, d0, _⟩ := at_T93 h (0 : Int) (by omega) (by omega)
  obtain ⟨b, off, rfl⟩ := plain_of d0
  obtain ⟨ad, e0, c0, c1⟩ := at_T93 h (k : Int) (by omega) (by omega)
  injection e0 with e0
  subst e0
  simp only [Int.toNat_natCast] at c0 c1
  rw [plain_add] at c0 c1
  have ex : rd_T93 xs (k : Int) = xs[k] := by simp [rd_T93, hk]
  rw [ex] at c0 c1
  exact ⟨b, off, rfl, World.block_lt_of_cell? _ _ c0, c0, c1⟩

theorem uses_ne (l l' : List S93) (A A' : Option Addr) (c c' : Nat) (w : World) (hL : ((l.length : Int) != (l'.length : Int)) = true) :
    Calls Try.prog 66 #[.slice A l.length c, .slice A' l'.length c'] w fun e w' => e = .returned (.bool false) ∧ w = w' := by
  go_enter Try.func66, Try.ntmps66
  go_wp2
  go_ret
  exact ⟨rfl, rfl⟩

set_option maxHeartbeats 2000000 in
set_option maxRecDepth 100000 in
theorem uses_eq (a b : List S93) (A A' : Option Addr) (c c' : Nat) (w : World) (hr : Kd.C k93 w A a.length a) (hr' : Kd.C k93 w A' b.length b) (hL : a.length = b.length) :
    Calls Try.prog 66 #[.slice A a.length c, .slice A' b.length c'] w (SaidB w (a = b)) := by
  have HR := Lib.hid hr
  have HR' := Lib.hid hr'
  have l63 := hr.2.1
  have LL := Lib.hid hL
  have hn : ((a.length : Int) != (b.length : Int)) = false := by rw [hL]; simp
  obtain ⟨P, hP⟩ : ∃ P : Prop, P = (a = b) := ⟨_, rfl⟩
  rw [← hP]
  have HP := Lib.hid hP
  clear hr hr' hP hL
  go_enter Try.func66, Try.ntmps66
  go_wp2
  clear hn
  go_loopw [5] (fun r5 wr => ∃ (k : Nat), k ≤ a.length ∧ r5 = .int .i64 k ∧ Hid (Below w.heap.size w wr) ∧ Hid (P ↔ a.drop k = b.drop k)) (fun r5 _ => a.length - (intOf r5).toNat)
  case atStart => exact ⟨0, by omega, rfl, Lib.hid (Below.refl _ _), Lib.hid (by rw [HP.out]; simp)⟩
  case round =>
    obtain ⟨k, hk, rfl, HB, HI⟩ := hrel
    by_cases hlt : k < a.length
    rotate_left
    · go_wp2
      go_ret
      refine ⟨true, rfl, ?_, HB.out⟩
      rw [HI.out, List.drop_of_length_le (by omega), List.drop_of_length_le (by have := LL.out; omega)]
      simp
    have hlt' : k < b.length := by have := LL.out; omega
    have hlz : (k : Int) < (b.length : Int) := by omega
    obtain ⟨bk, off, rfl, hbl, x0, x1⟩ := row93 HR.out k hlt
    obtain ⟨bk', off', rfl, hbl', x0', x1'⟩ := row93 HR'.out k hlt'
    have q0 := cell_old' HB.out hbl x0
    have q1 := cell_old' HB.out hbl x1
    have q0' := cell_old' HB.out hbl' x0'
    have q1' := cell_old' HB.out hbl' x1'
    have DN : Hid (a[k] ≠ b[k] → ¬ P) := Lib.hid (fun h => by rw [HI.out]; exact drop_ne hlt hlt' h)
    have DS : Hid (a[k] = b[k] → (P ↔ a.drop (k + 1) = b.drop (k + 1))) := Lib.hid (fun h => by rw [HI.out]; exact drop_succ hlt hlt' h)
    clear x0 x1 x0' x1'
    generalize a[k] = x at *
    generalize b[k] = x' at *
    obtain ⟨f0, f1⟩ := x
    obtain ⟨e0, e1⟩ := x'
    simp only at q0 q1 q0' q1'
    by_cases hp : f0 = e0 ∧ f1 = e1
    · obtain ⟨rfl, rfl⟩ := hp
      have JE := Lib.hid (DS.out rfl)
      go_wp2
      go_quiet (fail)
      go_wp2
      go_roundw
      case rel => exact ⟨k + 1, hlt, by go_num, Lib.hid (pw_below_drewN' HB.out _), JE⟩
      case measure => simp [intOf]; omega
    · have D := Lib.hid (DN.out (fun e => hp (by injection e with h1 h2; exact ⟨h1, h2⟩)))
      have hq : (f0.toList == e0.toList && (f1 == e1)) = false := by
        cases h : (f0.toList == e0.toList && (f1 == e1))
        · rfl
        · rw [Bool.and_eq_true, beq_iff_eq, beq_iff_eq] at h
          exact absurd ⟨str_eq.1 h.1, h.2⟩ hp
      clear hp
      go_wp2
      go_quiet (fail)
      go_wp2
      go_ret
      exact ⟨false, rfl, ⟨(fun h => by cases h), fun h => absurd h D.out⟩, pw_below_drewN' HB.out _⟩

theorem uses' (a b : List S93) (A A' : Option Addr) (c c' : Nat) (w : World) (hr : Kd.C k93 w A a.length a) (hr' : Kd.C k93 w A' b.length b) :
    Calls Try.prog 66 #[.slice A a.length c, .slice A' b.length c'] w (SaidB w (a = b)) := by
  by_cases h : a.length = b.length
  · exact uses_eq a b A A' c c' w hr hr' h
  · refine (uses_ne a b A A' c c' w (by rw [bne_iff_ne]; omega)).mono ?_
    rintro e w' ⟨rfl, rfl⟩
    exact ⟨false, rfl, ⟨(fun e => by cases e), fun e => absurd (by rw [e]) h⟩, Below.refl _ _⟩
end Go.Proofs.Ytehdhmhpmkkneaa

/- Layer 14: the walk of symfile.Write. -/
namespace Go.Proofs.Ytehdhmhpmkkneaa
open Go.RowKit Go.Proofs.YtehdhmhpmkkneaaW.PrintWords Go.Proofs.Ytehdhmhpmkkneaa.PAll

/-- An import's bytes. -/
def impB (x : S93) : List Int := (cnt x.f0.size ++ bytesOf x.f0) ++ wrd x.f1
/-- .. and of a list. -/
def impsB (l : List S93) : List Int := cnt l.length ++ l.flatMap impB

/-- An element of a row of imports. -/
theorem row93u {w : World} {A : Option Addr} {xs : List S93} (h : Kd.C k93 w A xs.length xs) (k : Nat) (hk : k < xs.length) :
    ∃ b off, A = some ⟨b, off, none⟩ ∧ b < w.heap.size ∧ w.cell? ⟨b, off + k * 2, none⟩ = some (.string xs[k].f0) ∧ w.cell? ⟨b, off + k * 2 + 1, none⟩ = some (.int .u32 xs[k].f1) := by
  obtain ⟨ad, rfl, d0, _⟩ := at_T93 h (0 : Int) (by omega) (by omega)
  obtain ⟨b, off, rfl⟩ := plain_of d0
  obtain ⟨ad, e0, c0, c1⟩ := at_T93 h (k : Int) (by omega) (by omega)
  injection e0 with e0
  subst e0
  simp only [Int.toNat_natCast] at c0 c1
  rw [plain_add] at c0 c1
  have ex : rd_T93 xs (k : Int) = xs[k] := by simp [rd_T93, hk]
  rw [ex] at c0 c1
  exact ⟨b, off, rfl, World.block_lt_of_cell? _ _ c0, c0, c1⟩

set_option maxHeartbeats 1000000 in
set_option maxRecDepth 100000 in
theorem swrite (w0 : World) (g : Nat) (v : Value) (xs : List Int) (l : List S93) (A : Option Addr) (c : Nat) (w : World) (h : Wr w0.heap.size w g v xs) (hb : Below w0.heap.size w0 w) (hr : Kd.C k93 w0 A l.length l) (hok : ∀ x ∈ l, Ok93 x)
    (hT : xs.length + (impsB l).length ≤ 1000000000) :
    Calls Try.prog 62 #[.pointer (some ⟨g, 0, none⟩), .slice A l.length c] w fun e w' => e = .returned (.tuple #[]) ∧ ∃ v', Wr w0.heap.size w' g v' (xs ++ impsB l) ∧ Mv w w' g v v' := by
  have HW := Lib.hid h
  have HB0 := Lib.hid hb
  have HR := Lib.hid hr
  have OK := Lib.hid hok
  have hl63 : l.length ≤ 9223372036854775807 := hr.2.1
  have HX : Hid (xs.length + (cnt l.length).length + (l.flatMap impB).length ≤ 1000000000) := Lib.hid (by unfold impsB at hT; rw [List.length_append] at hT; omega)
  clear h hb hr hok hT
  go_enter Try.func62, Try.ntmps62
  go_wp2_with fail
  refine (wcount w0.heap.size g v xs l.length _ HW.out (by have := HX.out; omega) hl63).mono ?_
  rintro e w1 ⟨rfl, v1, h1, m1⟩
  have H1 := Lib.hid h1
  have M1 := Lib.hid m1
  clear h1 m1
  have HBB : ∀ (w2 : World) (v2 : Value), Mv w w2 g v v2 → Below w0.heap.size w0 w2 := fun _ _ m => m.below HB0.out HB0.out.size HW.out.2.1 HW.out.base
  have BB := Lib.hid HBB
  clear HBB
  go_wp2
  go_loopw [12] (fun r12 wr => ∃ (k : Nat) (u : Value), k ≤ l.length ∧ r12 = .int .i64 k ∧ Hid (Wr w0.heap.size wr g u (xs ++ cnt l.length ++ (l.take k).flatMap impB)) ∧ Hid (Mv w wr g v u)) (fun r12 _ => l.length - (intOf r12).toNat)
  case atStart => exact ⟨0, v1, by omega, rfl, Lib.hid (by rw [List.take_zero, List.flatMap_nil, List.append_nil]; exact H1.out), M1⟩
  case round =>
    obtain ⟨k, u, hk, rfl, H2, M2⟩ := hrel
    by_cases hlt : k < l.length
    rotate_left
    · go_wp2
      go_end0
      refine ⟨rfl, u, ?_, M2.out⟩
      have h2 := H2.out
      rw [List.take_of_length_le (by omega), List.append_assoc] at h2
      exact h2
    obtain ⟨b, off, rfl, hbl, x0, x1⟩ := row93u HR.out k hlt
    have bw := Lib.hid (BB.out _ _ M2.out)
    have q0 := cell_old bw.out hbl x0
    have q1 := cell_old bw.out hbl x1
    have okx := OK.out l[k] (List.getElem_mem hlt)
    have FT := Lib.hid (flat_take impB l k hlt)
    have FS := Lib.hid (flat_snoc impB l k hlt)
    generalize l[k] = x at *
    obtain ⟨f0, f1⟩ := x
    simp only at q0 q1
    obtain ⟨o0, o1⟩ := okx
    simp only at o0 o1
    have O1 := Lib.hid (bdu32 o1)
    obtain ⟨ys, Y⟩ : ∃ ys, Hid (ys = xs ++ cnt l.length ++ (l.take k).flatMap impB) := ⟨_, Lib.hid rfl⟩
    have HY : Hid (ys.length + ((cnt f0.size).length + f0.size + 4) ≤ 1000000000) := Lib.hid (by
      rw [Y.out]
      have h1 := FT.out
      have h2 := HX.out
      have h3 : (impB ⟨f0, f1⟩).length = (cnt f0.size).length + f0.size + 4 := by
        show ((cnt f0.size ++ bytesOf f0) ++ wrd f1).length = _
        rw [List.length_append, List.length_append, bytesOf_length]
        rfl
      simp only [List.length_append] at *
      omega)
    rw [← Y.out] at H2
    have ba : Below wr.heap.size wr (wr.alloc (.cells #[.string f0, .int .u32 f1] 93)) := (Below.refl _ _).alloc (Nat.le_refl _) _
    have H3 := Lib.hid (H2.out.below ba)
    have M3 := Lib.hid (Mv.of_below ba g u)
    have K3 := Lib.hid (heap_alloc_new wr (.cells #[.string f0, .int .u32 f1] 93))
    have NG := Lib.hid (new_ne H2.out).1
    have E3 := Lib.hid (new_ne H2.out).2
    clear ba x0 x1 o0 o1
    go_wp2_with fail
    refine (wtext w0.heap.size g u ys f0 _ H3.out (by have := HY.out; omega) (by have := HY.out; omega)).mono ?_
    rintro e w4 ⟨rfl, v4, h4, m4⟩
    have K4 := Lib.hid (blk_mv m4 K3.out NG.out E3.out)
    have H4 := Lib.hid h4
    have M4 := Lib.hid m4
    clear h4 m4
    have c4 := blk_cell K4.out 1
    simp only [List.getElem?_toArray, List.getElem?_cons_succ, List.getElem?_cons_zero] at c4
    go_wp2_with fail
    refine (wword w0.heap.size g v4 _ f1 _ H4.out (by have := HY.out; simp only [List.length_append, bytesOf_length]; omega) O1.out.1 O1.out.2).mono ?_
    rintro e w5 ⟨rfl, v5, h5, m5⟩
    have H5 := Lib.hid h5
    have M5 := Lib.hid m5
    clear h5 m5
    go_wp2
    go_roundw
    case rel =>
      refine ⟨k + 1, v5, by omega, by go_num, Lib.hid ?_, Lib.hid (M2.out.trans (M3.out.trans (M4.out.trans M5.out)))⟩
      have h := H5.out
      rw [FS.out]
      have e : impB ⟨f0, f1⟩ = (cnt f0.size ++ bytesOf f0) ++ wrd f1 := rfl
      rw [e]
      rw [Y.out] at h
      simp only [List.append_assoc] at h ⊢
      exact h
    case measure => simp [intOf]; omega
end Go.Proofs.Ytehdhmhpmkkneaa

/- Layer 14: the document's imports' bytes. -/
namespace Go.Proofs.Ytehdhmhpmkkneaa
open Go.RowKit Go.Proofs.YtehdhmhpmkkneaaW.PrintWords Go.Proofs.Ytehdhmhpmkkneaa.PAll

theorem refBytesK {k : Nat} (hk : 5 ≤ k) (n : Int) (h0 : 0 ≤ n) (h1 : n ≤ 4294967295) : pascalineref01_Bytes.f k n = some (wrd n) := at_rounds (g := fun k => pascalineref01_Bytes.f k n) (fun j => pascalineref01_Bytes.mono n j) hk (refBytes n h0 h1)

theorem impB_len (x : S93) : (impB x).length = (cnt x.f0.size).length + x.f0.size + 4 := by
  show ((cnt x.f0.size ++ bytesOf x.f0) ++ wrd x.f1).length = _
  rw [List.length_append, List.length_append, bytesOf_length]
  rfl

theorem refImps (l : List S93) (hl : l.length < 9223372036854775807) (ok : ∀ x ∈ l, Ok93 x) (hs : ∀ x ∈ l, x.f0.size ≤ 1000000000) : ∀ (d i k : Nat) (acc : List Int), i + d = l.length → d + 11 ≤ k → acc.length + ((l.drop i).flatMap impB).length ≤ 1000000000 →
    pascalineref14_Write.l0 k l acc (i : Int) = some (acc ++ (l.drop i).flatMap impB)
  | 0, i, k, acc, h, hk, _ => by
    obtain ⟨k, rfl⟩ : ∃ m, k = m + 1 := ⟨k - 1, by omega⟩
    rw [List.drop_of_length_le (by omega), List.flatMap_nil, List.append_nil]
    simp only [pascalineref14_Write.l0]
    rw [if_neg (by omega)]
  | d + 1, i, k, acc, h, hk, hT => by
    obtain ⟨k, rfl⟩ : ∃ m, k = m + 1 := ⟨k - 1, by omega⟩
    have hi : i < l.length := by omega
    rw [List.drop_eq_getElem_cons hi, List.flatMap_cons, List.length_append, impB_len] at hT
    have e1 : rd_T93 l (i : Int) = l[i] := by simp [rd_T93, List.getD, hi]
    have o := bdu32 (ok _ (List.getElem_mem hi)).2
    have ih := refImps l hl ok hs d (i + 1) k (acc ++ impB l[i]) (by omega) (by omega) (by rw [List.length_append, impB_len]; omega)
    simp only [pascalineref14_Write.l0]
    rw [if_pos (by omega), if_pos (by omega), e1, refTextK (by omega) _ (hs _ (List.getElem_mem hi))]
    simp only [Option.bind_some]
    rw [if_pos (by rw [List.length_append, bytesOf_length]; omega), refBytesK (by omega) _ o.1 o.2]
    simp only [Option.bind_some]
    have hw : (wrd l[i].f1).length = 4 := rfl
    rw [if_pos (by rw [List.length_append, List.length_append, bytesOf_length, hw]; omega), wrap_succ i (by omega)]
    have e2 : acc ++ (cnt l[i].f0.size ++ bytesOf l[i].f0) ++ wrd l[i].f1 = acc ++ impB l[i] := by rw [List.append_assoc]; rfl
    rw [e2, ih, List.drop_eq_getElem_cons hi, List.flatMap_cons, List.append_assoc]

theorem rimps (l : List S93) (A : Option Addr) (c : Nat) (w : World) (hr : Kd.C k93 w A l.length l) (hc : l.length ≤ c) (ok : ∀ x ∈ l, Ok93 x) (hT : (impsB l).length ≤ 1000000000) (hs : ∀ x ∈ l, x.f0.size ≤ 1000000000) (hl : l.length < 9223372036854775807) :
    Calls Try.prog 63 #[.slice A l.length c] w (Got w (impsB l)) := by
  have h : pascalineref14_Write.f (l.length + 11) l = some (impsB l) := by
    unfold pascalineref14_Write.f
    rw [refCountK (by omega) _ (by omega)]
    simp only [Option.bind_some]
    have e : (l.length : Int).toNat = l.length := by omega
    rw [e]
    have := refImps l hl ok hs l.length 0 (l.length + 11) (cnt l.length) (by omega) (by omega) (by rw [List.drop_zero]; unfold impsB at hT; rw [List.length_append] at hT; exact hT)
    rw [List.drop_zero] at this
    exact this
  exact (pascalineref14_Write.calls _ A c l _ w hr hc h).mono fun _ _ ⟨v, he, hr, hb⟩ => ⟨v, he, Kd.own_of_R hr, hb⟩
end Go.Proofs.Ytehdhmhpmkkneaa

/- Layer 12: the walk of the reader's Word, for one reader. -/
namespace Go.Proofs.Ytehdhmhpmkkneaa
open Go.RowKit Go.Proofs.YtehdhmhpmkkneaaW.PrintWords Go.Proofs.Ytehdhmhpmkkneaa.PAll

set_option maxHeartbeats 1000000 in
set_option maxRecDepth 100000 in
theorem cword0 (w0 w : World) (g : Nat) (s : RS) (h : IsR w0 w g s) (hb : Below w0.heap.size w0 w) :
    Calls Try.prog 47 #[.pointer (some ⟨g, 0, none⟩)] w (RPost w0 w g (.int .u32 (wordS s).1) (wordS s).2) := by
  have ok0 := h.bytes
  have bd1 := byteS_bd s ok0
  obtain ⟨q1, hq1⟩ : ∃ q, q = byteS s := ⟨_, rfl⟩
  rw [← hq1] at bd1
  have ok1 := bd1.2.2
  have bd2 := byteS_bd q1.2 ok1
  obtain ⟨q2, hq2⟩ : ∃ q, q = byteS q1.2 := ⟨_, rfl⟩
  rw [← hq2] at bd2
  have ok2 := bd2.2.2
  have bd3 := byteS_bd q2.2 ok2
  obtain ⟨q3, hq3⟩ : ∃ q, q = byteS q2.2 := ⟨_, rfl⟩
  rw [← hq3] at bd3
  have ok3 := bd3.2.2
  have bd4 := byteS_bd q3.2 ok3
  obtain ⟨q4, hq4⟩ : ∃ q, q = byteS q3.2 := ⟨_, rfl⟩
  rw [← hq4] at bd4
  have ok4 := bd4.2.2
  have hS : wordS s = if q4.2.err = 0 then (q1.1 + 256 * q2.1 + 65536 * q3.1 + 16777216 * q4.1, q4.2) else (0, q4.2) := by rw [hq4, hq3, hq2, hq1]; rfl
  rw [hS]
  have HQ1 := Lib.hid hq1
  have HQ2 := Lib.hid hq2
  have HQ3 := Lib.hid hq3
  have HQ4 := Lib.hid hq4
  have HI := Lib.hid h
  have HB := Lib.hid hb
  clear hS hq1 hq2 hq3 hq4 h hb ok0 ok1 ok2 ok3 ok4
  obtain ⟨b1, t1⟩ := q1
  obtain ⟨b2, t2⟩ := q2
  obtain ⟨b3, t3⟩ := q3
  obtain ⟨b4, t4⟩ := q4
  simp only at bd1 bd2 bd3 bd4 HQ2 HQ3 HQ4 ⊢
  have QA1 : Hid ((byteS s).1 = b1) := Lib.hid (by rw [← HQ1.out])
  have QB1 : Hid ((byteS s).2 = t1) := Lib.hid (by rw [← HQ1.out])
  have QA2 : Hid ((byteS t1).1 = b2) := Lib.hid (by rw [← HQ2.out])
  have QB2 : Hid ((byteS t1).2 = t2) := Lib.hid (by rw [← HQ2.out])
  have QA3 : Hid ((byteS t2).1 = b3) := Lib.hid (by rw [← HQ3.out])
  have QB3 : Hid ((byteS t2).2 = t3) := Lib.hid (by rw [← HQ3.out])
  have QA4 : Hid ((byteS t3).1 = b4) := Lib.hid (by rw [← HQ4.out])
  have QB4 : Hid ((byteS t3).2 = t4) := Lib.hid (by rw [← HQ4.out])
  clear HQ1 HQ2 HQ3 HQ4
  obtain ⟨l1, u1, _⟩ := bd1
  obtain ⟨l2, u2, _⟩ := bd2
  obtain ⟨l3, u3, _⟩ := bd3
  obtain ⟨l4, u4, _⟩ := bd4
  have K1 := or_0 b1 l1 u1
  have K2 := or_8 b1 b2 l1 (by omega) l2 u2
  have K3 := or_16 (b1 + 256 * b2) b3 (by omega) (by omega) l3 u3
  have K4 := or_24 (b1 + 256 * b2 + 65536 * b3) b4 (by omega) (by omega) l4 u4
  have e1 : shl .u32 (b1 % 4294967296) 0 = b1 % 4294967296 := by show IntKind.u32.wrap (b1 % 4294967296 * 1) = _; simp [IntKind.wrap, IntKind.bits, IntKind.signed]
  have e2 : shl .u32 (b2 % 4294967296) 8 = b2 % 4294967296 * 256 % 4294967296 := rfl
  have e3 : shl .u32 (b3 % 4294967296) 16 = b3 % 4294967296 * 65536 % 4294967296 := rfl
  have e4 : shl .u32 (b4 % 4294967296) 24 = b4 % 4294967296 * 16777216 % 4294967296 := rfl
  rw [e1] at K1; rw [e2] at K2; rw [e3] at K3; rw [e4] at K4
  have KK : bits .or .u32 (bits .or .u32 (bits .or .u32 (bits .or .u32 0 (b1 % 4294967296)) (b2 % 4294967296 * 256 % 4294967296)) (b3 % 4294967296 * 65536 % 4294967296)) (b4 % 4294967296 * 16777216 % 4294967296) = b1 + 256 * b2 + 65536 * b3 + 16777216 * b4 := by rw [K1, K2, K3, K4]
  clear K1 K2 K3 K4 e1 e2 e3 e4
  clear l1 u1 l2 u2 l3 u3 l4 u4
  have HE : Hid (∀ q : RS, q = q) := Lib.hid (fun _ => rfl)
  by_cases he : t4.err = 0
  · rw [if_pos he]
    have he' : (t4.err != 0) = false := by rw [he]; rfl
    clear he HE
    go_enter Try.func47, Try.ntmps47
    go_wp2
    refine wp_loop_rounds 5 ?_
    rw [rounds_succ]
    go_wp2_with fail
    refine (cbyte w0 _ g _ HI.out HB.out).mono ?_
    rintro e w1 ⟨rfl, r, bl, st⟩
    have B1 := Lib.hid bl
    clear bl
    rw [QB1.out] at r
    rw [QA1.out]
    have R1 := Lib.hid r
    have T1 := Lib.hid st
    clear r st
    go_wp2
    rw [rounds_succ]
    go_wp2_with fail
    refine (cbyte w0 _ g _ R1.out B1.out).mono ?_
    rintro e w2 ⟨rfl, r, bl, st⟩
    have B2 := Lib.hid bl
    clear bl
    rw [QB2.out] at r
    rw [QA2.out]
    have R2 := Lib.hid r
    have T2 := Lib.hid (keep_trans T1.out st)
    clear r st
    go_wp2
    rw [rounds_succ]
    go_wp2_with fail
    refine (cbyte w0 _ g _ R2.out B2.out).mono ?_
    rintro e w3 ⟨rfl, r, bl, st⟩
    have B3 := Lib.hid bl
    clear bl
    rw [QB3.out] at r
    rw [QA3.out]
    have R3 := Lib.hid r
    have T3 := Lib.hid (keep_trans T2.out st)
    clear r st
    go_wp2
    rw [rounds_succ]
    go_wp2_with fail
    refine (cbyte w0 _ g _ R3.out B3.out).mono ?_
    rintro e w4 ⟨rfl, r, bl, st⟩
    have B4 := Lib.hid bl
    clear bl
    rw [QB4.out] at r
    rw [QA4.out]
    have R4 := Lib.hid r
    have T4 := Lib.hid (keep_trans T3.out st)
    clear r st
    go_wp2
    rw [rounds_succ]
    obtain ⟨f0, p0, A0, c0, hblk, _⟩ : ∃ f0 p A c, w4.heap[g]? = some (.cells #[.slice A f0 c, .int .i64 p, .int .i64 t4.err] 123 (0, 0)) ∧ True := by
      obtain ⟨f0, p, A, c, hb, _⟩ := R4.out
      exact ⟨_, _, _, _, hb, trivial⟩
    have hc2 : w4.cell? ⟨g, 2, none⟩ = some (.int .i64 t4.err) := blk_cell hblk 2
    clear hblk
    go_wp2
    go_ret
    refine ⟨?_, R4.out, B4.out, T4.out⟩
    first | rfl | (rw [← KK]; rfl)
  · rw [if_neg he]
    have he' : (t4.err != 0) = true := bne_iff_ne.2 he
    clear he HE
    go_enter Try.func47, Try.ntmps47
    go_wp2
    refine wp_loop_rounds 5 ?_
    rw [rounds_succ]
    go_wp2_with fail
    refine (cbyte w0 _ g _ HI.out HB.out).mono ?_
    rintro e w1 ⟨rfl, r, bl, st⟩
    have B1 := Lib.hid bl
    clear bl
    rw [QB1.out] at r
    rw [QA1.out]
    have R1 := Lib.hid r
    have T1 := Lib.hid st
    clear r st
    go_wp2
    rw [rounds_succ]
    go_wp2_with fail
    refine (cbyte w0 _ g _ R1.out B1.out).mono ?_
    rintro e w2 ⟨rfl, r, bl, st⟩
    have B2 := Lib.hid bl
    clear bl
    rw [QB2.out] at r
    rw [QA2.out]
    have R2 := Lib.hid r
    have T2 := Lib.hid (keep_trans T1.out st)
    clear r st
    go_wp2
    rw [rounds_succ]
    go_wp2_with fail
    refine (cbyte w0 _ g _ R2.out B2.out).mono ?_
    rintro e w3 ⟨rfl, r, bl, st⟩
    have B3 := Lib.hid bl
    clear bl
    rw [QB3.out] at r
    rw [QA3.out]
    have R3 := Lib.hid r
    have T3 := Lib.hid (keep_trans T2.out st)
    clear r st
    go_wp2
    rw [rounds_succ]
    go_wp2_with fail
    refine (cbyte w0 _ g _ R3.out B3.out).mono ?_
    rintro e w4 ⟨rfl, r, bl, st⟩
    have B4 := Lib.hid bl
    clear bl
    rw [QB4.out] at r
    rw [QA4.out]
    have R4 := Lib.hid r
    have T4 := Lib.hid (keep_trans T3.out st)
    clear r st
    go_wp2
    rw [rounds_succ]
    obtain ⟨f0, p0, A0, c0, hblk, _⟩ : ∃ f0 p A c, w4.heap[g]? = some (.cells #[.slice A f0 c, .int .i64 p, .int .i64 t4.err] 123 (0, 0)) ∧ True := by
      obtain ⟨f0, p, A, c, hb, _⟩ := R4.out
      exact ⟨_, _, _, _, hb, trivial⟩
    have hc2 : w4.cell? ⟨g, 2, none⟩ = some (.int .i64 t4.err) := blk_cell hblk 2
    clear hblk
    go_wp2
    go_ret
    refine ⟨?_, R4.out, B4.out, T4.out⟩
    first | rfl | (rw [← KK]; rfl)
end Go.Proofs.Ytehdhmhpmkkneaa

/- Layer 14: what is read as imports, in plain words; the walk of symfile.Read. -/
namespace Go.Proofs.Ytehdhmhpmkkneaa
open Go.RowKit Go.Proofs.YtehdhmhpmkkneaaW.PrintWords Go.Proofs.YtehdhmhpmkkneaaW.PrintMore Go.Proofs.Ytehdhmhpmkkneaa.PAll

/-- One import. -/
def impRd (s : RS) : S93 × RS := (⟨(textS 32 s).1, (wordS (textS 32 s).2).1⟩, (wordS (textS 32 s).2).2)
/-- The code's loop: it gives up where something was wrong. -/
def impsGo : Nat → List S93 → RS → List S93 × RS
  | 0, l, s => (l, s)
  | k + 1, l, s => if (impRd s).2.err = 0 then impsGo k (l ++ [(impRd s).1]) (impRd s).2 else ([], (impRd s).2)
def readI (s : RS) : List S93 × RS := impsGo (countS 64 s).1.toNat [] (countS 64 s).2

/-- The document's loop. -/
def takeI : Nat → List S93 → RS → List S93 × RS
  | 0, l, s => (l, s)
  | k + 1, l, s => takeI k (l ++ [(impRd s).1]) (impRd s).2

theorem countS_bad' (m : Int) (s : RS) (h : s.err ≠ 0) : countS m s = (0, s) := by unfold countS; rw [if_neg h]
theorem textS_err' (m : Int) (s : RS) (h : s.err ≠ 0) : (textS m s).2 = s := by
  unfold textS
  rw [countS_bad' m s h, if_neg h]
theorem byteS_err (s : RS) (h : s.err ≠ 0) : byteS s = (0, s) := by unfold byteS; rw [if_neg h]
theorem wordS_err (s : RS) (h : s.err ≠ 0) : (wordS s).2 = s := by
  unfold wordS
  rw [byteS_err s h]
  simp only [byteS_err s h, if_neg h]
theorem impRd_err (s : RS) (h : s.err ≠ 0) : (impRd s).2 = s := by
  unfold impRd
  rw [textS_err' 32 s h]
  exact wordS_err s h
theorem takeI_err : ∀ (k : Nat) (l : List S93) (s : RS), s.err ≠ 0 → (takeI k l s).2 = s
  | 0, _, _, _ => rfl
  | k + 1, l, s, h => by
    rw [takeI, impRd_err s h]
    exact takeI_err k _ s h
theorem impsGo_take : ∀ (k : Nat) (l : List S93) (s : RS), s.err = 0 → impsGo k l s = (if (takeI k l s).2.err = 0 then (takeI k l s).1 else [], (takeI k l s).2)
  | 0, l, s, h => by
    show (l, s) = (if s.err = 0 then l else [], s)
    rw [if_pos h]
  | k + 1, l, s, h => by
    rw [impsGo, takeI]
    by_cases he : (impRd s).2.err = 0
    · rw [if_pos he, impsGo_take k _ _ he]
    · rw [if_neg he, takeI_err k _ _ he, if_neg he]
theorem readI_take (s : RS) : readI s = (if (takeI (countS 64 s).1.toNat [] (countS 64 s).2).2.err = 0 then (takeI (countS 64 s).1.toNat [] (countS 64 s).2).1 else [], (takeI (countS 64 s).1.toNat [] (countS 64 s).2).2) := by
  unfold readI
  by_cases h : (countS 64 s).2.err = 0
  · exact impsGo_take _ _ _ h
  · rw [countS_err 64 s h]
    simp only [Int.toNat_zero, impsGo, takeI, if_neg h]

theorem info93r : (Try.prog.info? 93).map (fun i => (i.zero, i.size, i.bytes)) = some (some (.agg #[.string ByteArray.empty, .int .u32 0]), 2, 24) := by kernel_rfl

/-- Behind Read: the list lies in new rows; the reader has moved on. -/
def ReadPostI (w0 w : World) (g : Nat) (l : List S93) (s : RS) (e : Ending) (w' : World) : Prop :=
  ∃ v, e = .returned v ∧ Kd.R k93 93 w' w.heap.size (fun k => w.heap.size ≤ k) v l ∧ IsR w0 w' g s ∧ Below w0.heap.size w0 w' ∧ KeepBut w w' g none

set_option maxHeartbeats 4000000 in
set_option maxRecDepth 100000 in
theorem sread (w0 w : World) (g : Nat) (s : RS) (h : IsR w0 w g s) (hb : Below w0.heap.size w0 w) :
    Calls Try.prog 64 #[.pointer (some ⟨g, 0, none⟩)] w (ReadPostI w0 w g (readI s).1 (readI s).2) := by
  have M0 : Hid (Mid w0 w w g s) := Lib.hid ⟨h, hb, KeepBut.refl _ _ _⟩
  have HG := Lib.hid M0.out.lt
  have hbd := countS_bd 64 s h.bytes
  obtain ⟨n, hn⟩ : ∃ n : Nat, (countS 64 s).1 = (n : Int) := ⟨(countS 64 s).1.toNat, by omega⟩
  have hn2 : n ≤ 64 := by omega
  have HRS : Hid (impsGo n [] (countS 64 s).2 = readI s) := Lib.hid (by unfold readI; rw [hn]; rfl)
  have HNN := Lib.hid hn
  clear h hb hbd
  go_enter Try.func64, Try.ntmps64
  go_wp2_with fail
  refine (M0.out.call (fun hi hb => ccount w0 w g s 64 (by omega) hi hb)).mono ?_
  rintro e w1 ⟨rfl, m1, _⟩
  rw [hn]
  clear hn
  generalize (countS 64 s).2 = s1 at *
  generalize readI s = q at *
  obtain ⟨ql, qs⟩ := q
  simp only
  have M1 := Lib.hid m1
  clear m1 M0 HNN
  go_wp2
  go_loopw [2, 3, 7] (fun r2 r3 r7 wr => ∃ (k : Nat) (v : Value) (l : List S93) (s : RS), k ≤ n ∧ l.length ≤ k ∧ r2 = .slice none 0 0 ∧ r3 = v ∧ r7 = .int .i64 k ∧ Hid (Mid w0 w wr g s) ∧ Hid (Kd.R k93 93 wr w.heap.size (fun k => w.heap.size ≤ k) v l) ∧ Hid (impsGo (n - k) l s = (ql, qs)))
    (fun _ _ r7 _ => n - (intOf r7).toNat)
  case atStart => exact ⟨0, _, [], s1, by omega, by simp, rfl, rfl, rfl, M1, Lib.hid (Kd.R_nil _ _ _ _ _), HRS⟩
  case round =>
    obtain ⟨k, v, l, s, hk, hl, rfl, rfl, rfl, M2, RO, HE⟩ := hrel
    by_cases hlt : k < n
    rotate_left
    · have hk0 : n - k = 0 := by omega
      have HE2 := HE.out
      rw [hk0] at HE2
      have e0 : (l, s) = (ql, qs) := HE2
      injection e0 with e1 e2
      subst e1 e2
      clear HE2 hk0
      obtain ⟨A, c, rfl, _⟩ := Kd.R_reads RO.out
      go_wp2
      go_ret
      exact ⟨_, rfl, RO.out, M2.out.rd, M2.out.low, M2.out.keep⟩
    obtain ⟨d, hd⟩ : ∃ d, n - k = d + 1 := ⟨n - k - 1, by omega⟩
    have HE2 : Hid ((if (impRd s).2.err = 0 then impsGo d (l ++ [(impRd s).1]) (impRd s).2 else ([], (impRd s).2)) = (ql, qs)) := Lib.hid (by
      have h := HE.out
      rw [hd] at h
      exact h)
    have HD : Hid (n - (k + 1) = d) := Lib.hid (by omega)
    have HX : Hid (impRd s = (⟨(textS 32 s).1, (wordS (textS 32 s).2).1⟩, (wordS (textS 32 s).2).2)) := Lib.hid rfl
    clear HE hd
    obtain ⟨AO, cO, rfl, _⟩ := Kd.R_reads RO.out
    go_wp2_with fail
    refine (M2.out.call (fun hi hb => ctext w0 _ g s 32 (by omega) hi hb)).mono ?_
    rintro e w2 ⟨rfl, m3, k3⟩
    have RO2 := Lib.hid (Kd.R_keep RO.out k3 (fun k hk => by have := HG.out; omega))
    have M3 := Lib.hid m3
    clear m3 k3
    generalize (textS 32 s).1 = f0 at *
    generalize (textS 32 s).2 = t1 at *
    obtain ⟨T, hT⟩ : ∃ T, T = w2.heap.size := ⟨_, rfl⟩
    have HTG : Hid (w.heap.size ≤ T) := Lib.hid (by rw [hT]; exact M3.out.size)
    have TT : Hid ((w2.alloc (.cells #[.string f0, .int .u32 0] 93)).heap[T]? = some (.cells #[.string f0, .int .u32 0] 93 (0, 0))) := Lib.hid (by rw [hT]; exact heap_alloc_new _ _)
    have M4 := Lib.hid (M3.out.alloc (.cells #[.string f0, .int .u32 0] 93))
    have RO3 : Hid (Kd.R k93 93 (w2.alloc (.cells #[.string f0, .int .u32 0] 93)) w.heap.size (fun x => w.heap.size ≤ x ∧ x < T) (.slice AO l.length cO) l) := Lib.hid (Kd.R_alloc (Kd.R_mono (Kd.R_bound RO2.out) (fun x hx => ⟨hx.1, by have := hx.2.2.1; omega⟩)) _)
    go_wp2_with fail
    rw [← hT]
    clear hT
    refine (M4.out.call (fun hi hb => cword0 w0 _ g t1 hi hb)).mono ?_
    rintro e w3 ⟨rfl, m5, k5⟩
    have HTNG : Hid (T ≠ g) := Lib.hid (by have := HG.out; have := HTG.out; omega)
    have TT5 := Lib.hid (k5.blk TT.out HTNG.out (by simp))
    have RO5 := Lib.hid (Kd.R_keep RO3.out k5 (fun k hk => by have := HG.out; omega))
    have M5 := Lib.hid m5
    clear m5 k5
    generalize (wordS t1).1 = f1 at *
    generalize (wordS t1).2 = u at *
    have q1 := blk_cell TT5.out 1
    have z1 := blk_frozen TT5.out 1
    simp only [List.getElem?_toArray, List.getElem?_cons_zero, List.getElem?_cons_succ] at q1
    have M6 := Lib.hid (M5.out.set (j := 1) HTG.out HG.out (.int .u32 f1))
    have TT6 := Lib.hid (blk_put TT5.out 1 (.int .u32 f1) (cs' := #[.string f0, .int .u32 f1]) rfl)
    have RO6 := Lib.hid (Kd.R_far (p := ⟨T, 1, none⟩) RO5.out (fun x hx => by show x ≠ T; omega) (.int .u32 f1))
    clear M4 M5 TT TT5 RO2 RO3 RO5 M2 M3
    have ce : Hid (∀ W, Mid w0 w W g u → Calls Try.prog 31 #[.pointer (some ⟨g, 0, none⟩)] W fun e W' => e = .returned (.int .i64 u.err) ∧ Mid w0 w W' g u ∧ KeepBut W W' g none) := Lib.hid (fun W hm => hm.call (fun hi hb => cerr w0 W g u hi hb))
    go_wp2_with fail
    refine (ce.out _ M6.out).mono ?_
    rintro e wd ⟨rfl, md, kd⟩
    have MD := Lib.hid md
    have TD := Lib.hid (kd.blk TT6.out HTNG.out (by simp))
    have OD := Lib.hid (Kd.R_keep RO6.out kd (fun k hk => by have := HG.out; omega))
    clear md kd q1 z1 M6 TT6 RO6
    by_cases hue : u.err = 0
    · have HE3 : Hid (impsGo (n - (k + 1)) (l ++ [⟨f0, f1⟩]) u = (ql, qs)) := Lib.hid (by
        have h := HE2.out
        rw [HX.out] at h
        simp only at h
        rw [if_pos hue] at h
        rw [HD.out]
        exact h)
      have hu2 : (u.err != 0) = false := by rw [hue]; rfl
      clear hue
      have LD := blk_lt TD.out
      have q0 := blk_cell TD.out 0
      have q1 := blk_cell TD.out 1
      simp only [List.getElem?_toArray, List.getElem?_cons_zero, List.getElem?_cons_succ] at q0 q1
      have OD' := Lib.hid (Kd.R_mono OD.out (fun k hk => hk.1))
      go_wp2_with (at_builtin; go_must (refine Kd.R_append k93 w.heap.size rfl _ _ 55 93 (.agg #[.string ByteArray.empty, .int .u32 0]) 24 rfl Try.underlying55 info93r rfl (by decide) (by decide) (.slice AO l.length cO) l ⟨f0, f1⟩ [.string f0, .int .u32 f1] (fun k => w.heap.size ≤ k) (fun _ => False) rfl rfl (k93_mkM _ _ _ ⟨f0, f1⟩) (fun _ h => h.elim) (fun k hk => Nat.le_trans MD.out.size hk) OD'.out (Below.refl _ _) MD.out.size (by omega) ?_; intro v1 we hown hbel hgrow hlie; have ME := Lib.hid (MD.out.grown (fun k e => by have := OD.out.1 k e; omega) HG.out hgrow); have OE := Lib.hid hown; clear hown hbel hgrow hlie))
      go_roundw
      case rel =>
        refine ⟨k + 1, v1, l ++ [⟨f0, f1⟩], u, by omega, by rw [List.length_append]; simp; omega, rfl, rfl, by go_num, ?_, ?_, HE3⟩
        · exact ME
        · exact OE
      case measure => simp [intOf]; omega
    · have HE3 : ([], u) = (ql, qs) := by
        have h := HE2.out
        rw [HX.out] at h
        simp only at h
        rwa [if_neg hue] at h
      injection HE3 with e1 e2
      subst e1 e2
      have hu2 : (u.err != 0) = true := bne_iff_ne.2 hue
      clear hue
      go_wp2
      go_ret
      exact ⟨_, rfl, Kd.R_nil _ _ _ _ _, MD.out.rd, MD.out.low, MD.out.keep⟩
end Go.Proofs.Ytehdhmhpmkkneaa

/- Layer 12: the walk of the document's TakeWord. -/
namespace Go.Proofs.Ytehdhmhpmkkneaa
open Go.RowKit Go.Proofs.YtehdhmhpmkkneaaW.PrintWords Go.Proofs.YtehdhmhpmkkneaaW.PrintMore Go.Proofs.Ytehdhmhpmkkneaa.PAll

theorem refWord (a b c d : Int) (ha : 0 ≤ a ∧ a ≤ 255) (hb : 0 ≤ b ∧ b ≤ 255) (hc : 0 ≤ c ∧ c ≤ 255) (hd : 0 ≤ d ∧ d ≤ 255) : pascalineref01_Word.f 5 [a, b, c, d] = some (a + 256 * b + 65536 * c + 16777216 * d) := by
  unfold pascalineref01_Word.f
  have w3 : wrap64 (3 - 1) = 2 := by unfold wrap64; omega
  have w2 : wrap64 (2 - 1) = 1 := by unfold wrap64; omega
  have w1 : wrap64 (1 - 1) = 0 := by unfold wrap64; omega
  have w0 : wrap64 (0 - 1) = -1 := by unfold wrap64; omega
  have r3 : rd [a, b, c, d] 3 = d := rfl
  have r2 : rd [a, b, c, d] 2 = c := rfl
  have r1 : rd [a, b, c, d] 1 = b := rfl
  have r0 : rd [a, b, c, d] 0 = a := rfl
  simp only [pascalineref01_Word.l0, w3, w2, w1, w0, r3, r2, r1, r0]
  simp
  omega

/-- Four bytes in a block, read as a row. -/
theorem four_bytes {W : World} {T : Nat} {t : TypeId} {a b c d : Int} (h : W.heap[T]? = some (.cells #[.int .u8 a, .int .u8 b, .int .u8 c, .int .u8 d] t (0, 0))) : Kd.C (Kd.int .u8) W.drew (some ⟨T, 0, none⟩) 4 [a, b, c, d] := by
  refine Kd.C_of_reads (d := (0 : Int)) ⟨rfl, by decide, fun _ => ⟨_, rfl, fun j hj => ?_⟩⟩
  rw [plain_add]
  have hc := blk_cell h (0 + j)
  have e : W.drew.cell? ⟨T, 0 + j, none⟩ = W.cell? ⟨T, 0 + j, none⟩ := rfl
  rw [e, hc]
  match j, hj with
  | 0, _ => rfl
  | 1, _ => rfl
  | 2, _ => rfl
  | 3, _ => rfl

set_option maxHeartbeats 4000000 in
set_option maxRecDepth 100000 in
theorem vword (w0 w : World) (v : Value) (s : RS) (h : IsV w0 v s) (hb : Below w0.heap.size w0 w) :
    Calls Try.prog 95 #[v] w (VPost w0 w (wordS s).2 (.int .u32 (wordS s).1)) := by
  have HB := Lib.hid hb
  have HS := Lib.hid hb.size
  have ok0 := h.bytes
  have bd1 := byteS_bd s ok0
  have C0 : Hid (∀ v W, IsV w0 v s → Below w0.heap.size w0 W → Calls Try.prog 103 #[v] W (VPost w0 W (byteS s).2 (.int .u8 (byteS s).1))) := Lib.hid (fun v W hi hB => vbyte w0 W v s hi hB)
  obtain ⟨q1, hq1⟩ : ∃ q, q = byteS s := ⟨_, rfl⟩
  rw [← hq1] at bd1 C0
  have bd2 := byteS_bd q1.2 bd1.2.2
  have C1 : Hid (∀ v W, IsV w0 v q1.2 → Below w0.heap.size w0 W → Calls Try.prog 103 #[v] W (VPost w0 W (byteS q1.2).2 (.int .u8 (byteS q1.2).1))) := Lib.hid (fun v W hi hB => vbyte w0 W v q1.2 hi hB)
  obtain ⟨q2, hq2⟩ : ∃ q, q = byteS q1.2 := ⟨_, rfl⟩
  rw [← hq2] at bd2 C1
  have bd3 := byteS_bd q2.2 bd2.2.2
  have C2 : Hid (∀ v W, IsV w0 v q2.2 → Below w0.heap.size w0 W → Calls Try.prog 103 #[v] W (VPost w0 W (byteS q2.2).2 (.int .u8 (byteS q2.2).1))) := Lib.hid (fun v W hi hB => vbyte w0 W v q2.2 hi hB)
  obtain ⟨q3, hq3⟩ : ∃ q, q = byteS q2.2 := ⟨_, rfl⟩
  rw [← hq3] at bd3 C2
  have bd4 := byteS_bd q3.2 bd3.2.2
  have C3 : Hid (∀ v W, IsV w0 v q3.2 → Below w0.heap.size w0 W → Calls Try.prog 103 #[v] W (VPost w0 W (byteS q3.2).2 (.int .u8 (byteS q3.2).1))) := Lib.hid (fun v W hi hB => vbyte w0 W v q3.2 hi hB)
  obtain ⟨q4, hq4⟩ : ∃ q, q = byteS q3.2 := ⟨_, rfl⟩
  rw [← hq4] at bd4 C3
  have hS : wordS s = if q4.2.err = 0 then (q1.1 + 256 * q2.1 + 65536 * q3.1 + 16777216 * q4.1, q4.2) else (0, q4.2) := by rw [hq4, hq3, hq2, hq1]; rfl
  rw [hS]
  have V0 := Lib.hid h
  obtain ⟨A, n, c, rfl, _, _⟩ := h
  clear hb hS hq1 hq2 hq3 hq4 ok0
  obtain ⟨b1', t1⟩ := q1
  obtain ⟨b2', t2⟩ := q2
  obtain ⟨b3', t3⟩ := q3
  obtain ⟨b4', t4⟩ := q4
  simp only at bd1 bd2 bd3 bd4 C0 C1 C2 C3 ⊢
  have hw4 := refWord b1' b2' b3' b4' ⟨bd1.1, bd1.2.1⟩ ⟨bd2.1, bd2.2.1⟩ ⟨bd3.1, bd3.2.1⟩ ⟨bd4.1, bd4.2.1⟩
  have WW := Lib.hid hw4
  clear hw4 bd1 bd2 bd3 bd4
  generalize b1' + 256 * b2' + 65536 * b3' + 16777216 * b4' = word at *
  obtain ⟨R, hR⟩ : ∃ r, r = w.heap.size := ⟨_, rfl⟩
  obtain ⟨T, hT⟩ : ∃ t, t = R + 1 + 1 := ⟨_, rfl⟩
  have x1 : (((w.alloc (.cells #[.slice A n c, .int .i64 s.err] 48)).alloc (.cells #[.slice none 0 0, .int .i64 0] 48)).alloc (.cells #[.int .u8 0, .int .u8 0, .int .u8 0, .int .u8 0] 155)).heap[R]? = some (.cells #[.slice A n c, .int .i64 s.err] 48 (0, 0)) := by
    rw [hR]; exact blk_below (blk_below (heap_alloc_new w _) (b1 _ _)) (b1 _ _)
  have x2 : (((w.alloc (.cells #[.slice A n c, .int .i64 s.err] 48)).alloc (.cells #[.slice none 0 0, .int .i64 0] 48)).alloc (.cells #[.int .u8 0, .int .u8 0, .int .u8 0, .int .u8 0] 155)).heap[R + 1]? = some (.cells #[.slice none 0 0, .int .i64 0] 48 (0, 0)) := by
    rw [hR]; exact blk_below (boxed w _ _) (b1 _ _)
  have x3 : (((w.alloc (.cells #[.slice A n c, .int .i64 s.err] 48)).alloc (.cells #[.slice none 0 0, .int .i64 0] 48)).alloc (.cells #[.int .u8 0, .int .u8 0, .int .u8 0, .int .u8 0] 155)).heap[T]? = some (.cells #[.int .u8 0, .int .u8 0, .int .u8 0, .int .u8 0] 155 (0, 0)) := by
    rw [hT, hR]; simpa using heap_alloc_new ((w.alloc (.cells #[.slice A n c, .int .i64 s.err] 48)).alloc (.cells #[.slice none 0 0, .int .i64 0] 48)) (.cells #[.int .u8 0, .int .u8 0, .int .u8 0, .int .u8 0] 155)
  have VMa : Hid (Vm w0 w (((w.alloc (.cells #[.slice A n c, .int .i64 s.err] 48)).alloc (.cells #[.slice none 0 0, .int .i64 0] 48)).alloc (.cells #[.int .u8 0, .int .u8 0, .int .u8 0, .int .u8 0] 155)) R A n c s) := Lib.hid ⟨x1, V0.out, x2, (b2 _ _ _).alloc (by simp; omega) _, by omega⟩
  have TTa := Lib.hid x3
  have HTR : Hid (R + 1 < T) := Lib.hid (by omega)
  have HR := Lib.hid hR
  have HT := Lib.hid hT
  have r1 : R ≠ T := by omega
  have r2 : T ≠ R := by omega
  clear x1 x2 x3 V0 hR hT
  by_cases he : t4.err = 0
  rotate_left
  · rw [if_neg he]
    have he' : (t4.err != 0) = true := bne_iff_ne.2 he
    clear he WW
    go_enter Try.func95, Try.ntmps95
    go_wp2
    rw [← HR.out, ← HT.out]
    refine wp_loop_rounds 5 ?_
    rw [rounds_succ]
    have i0 := blk_cell VMa.out.box 0
    have i1 := blk_cell VMa.out.box 1
    simp only [List.getElem?_toArray, List.getElem?_cons_zero, List.getElem?_cons_succ] at i0 i1
    go_wp2_with fail
    refine (VMa.out.call (C0.out _ _ VMa.out.iv (HB.out.trans (VMa.out.low.mono HS.out)))).mono ?_
    rintro e w1 ⟨A1, n1, c1, rfl, iv, bw, vm⟩
    clear i0 i1
    have g0 := blk_cell vm.box 0
    have g1 := blk_cell vm.box 1
    have z0 := blk_frozen vm.box 0
    have z1 := blk_frozen vm.box 1
    simp only [List.getElem?_toArray, List.getElem?_cons_zero, List.getElem?_cons_succ] at g0 g1
    have tt := blk_below TTa.out bw
    have q0 := blk_cell tt 0
    have y0 := blk_frozen tt 0
    simp only [List.getElem?_toArray, List.getElem?_cons_zero] at q0
    have VM1 := Lib.hid ((vm.put iv).set HTR.out 0 (.int .u8 b1'))
    have TT1 := Lib.hid (blk_put (two_far tt HTR.out (.slice A1 n1 c1) (.int .i64 t1.err)) 0 (.int .u8 b1') (cs' := #[.int .u8 b1', .int .u8 0, .int .u8 0, .int .u8 0]) rfl)
    clear iv bw vm tt VMa TTa C0
    go_wp2
    clear g0 g1 z0 z1 q0 y0
    rw [rounds_succ]
    have i0 := blk_cell VM1.out.box 0
    have i1 := blk_cell VM1.out.box 1
    simp only [List.getElem?_toArray, List.getElem?_cons_zero, List.getElem?_cons_succ] at i0 i1
    go_wp2_with fail
    refine (VM1.out.call (C1.out _ _ VM1.out.iv (HB.out.trans (VM1.out.low.mono HS.out)))).mono ?_
    rintro e w2 ⟨A2, n2, c2, rfl, iv, bw, vm⟩
    clear i0 i1
    have g0 := blk_cell vm.box 0
    have g1 := blk_cell vm.box 1
    have z0 := blk_frozen vm.box 0
    have z1 := blk_frozen vm.box 1
    simp only [List.getElem?_toArray, List.getElem?_cons_zero, List.getElem?_cons_succ] at g0 g1
    have tt := blk_below TT1.out bw
    have q0 := blk_cell tt 1
    have y0 := blk_frozen tt 1
    simp only [List.getElem?_toArray, List.getElem?_cons_zero, List.getElem?_cons_succ] at q0
    have VM2 := Lib.hid ((vm.put iv).set HTR.out 1 (.int .u8 b2'))
    have TT2 := Lib.hid (blk_put (two_far tt HTR.out (.slice A2 n2 c2) (.int .i64 t2.err)) 1 (.int .u8 b2') (cs' := #[.int .u8 b1', .int .u8 b2', .int .u8 0, .int .u8 0]) rfl)
    clear iv bw vm tt VM1 TT1 C1
    go_wp2
    clear g0 g1 z0 z1 q0 y0
    rw [rounds_succ]
    have i0 := blk_cell VM2.out.box 0
    have i1 := blk_cell VM2.out.box 1
    simp only [List.getElem?_toArray, List.getElem?_cons_zero, List.getElem?_cons_succ] at i0 i1
    go_wp2_with fail
    refine (VM2.out.call (C2.out _ _ VM2.out.iv (HB.out.trans (VM2.out.low.mono HS.out)))).mono ?_
    rintro e w3 ⟨A3, n3, c3, rfl, iv, bw, vm⟩
    clear i0 i1
    have g0 := blk_cell vm.box 0
    have g1 := blk_cell vm.box 1
    have z0 := blk_frozen vm.box 0
    have z1 := blk_frozen vm.box 1
    simp only [List.getElem?_toArray, List.getElem?_cons_zero, List.getElem?_cons_succ] at g0 g1
    have tt := blk_below TT2.out bw
    have q0 := blk_cell tt 2
    have y0 := blk_frozen tt 2
    simp only [List.getElem?_toArray, List.getElem?_cons_zero, List.getElem?_cons_succ] at q0
    have VM3 := Lib.hid ((vm.put iv).set HTR.out 2 (.int .u8 b3'))
    have TT3 := Lib.hid (blk_put (two_far tt HTR.out (.slice A3 n3 c3) (.int .i64 t3.err)) 2 (.int .u8 b3') (cs' := #[.int .u8 b1', .int .u8 b2', .int .u8 b3', .int .u8 0]) rfl)
    clear iv bw vm tt VM2 TT2 C2
    go_wp2
    clear g0 g1 z0 z1 q0 y0
    rw [rounds_succ]
    have i0 := blk_cell VM3.out.box 0
    have i1 := blk_cell VM3.out.box 1
    simp only [List.getElem?_toArray, List.getElem?_cons_zero, List.getElem?_cons_succ] at i0 i1
    go_wp2_with fail
    refine (VM3.out.call (C3.out _ _ VM3.out.iv (HB.out.trans (VM3.out.low.mono HS.out)))).mono ?_
    rintro e w4 ⟨A4, n4, c4, rfl, iv, bw, vm⟩
    clear i0 i1
    have g0 := blk_cell vm.box 0
    have g1 := blk_cell vm.box 1
    have z0 := blk_frozen vm.box 0
    have z1 := blk_frozen vm.box 1
    simp only [List.getElem?_toArray, List.getElem?_cons_zero, List.getElem?_cons_succ] at g0 g1
    have tt := blk_below TT3.out bw
    have q0 := blk_cell tt 3
    have y0 := blk_frozen tt 3
    simp only [List.getElem?_toArray, List.getElem?_cons_zero, List.getElem?_cons_succ] at q0
    have VM4 := Lib.hid ((vm.put iv).set HTR.out 3 (.int .u8 b4'))
    have TT4 := Lib.hid (blk_put (two_far tt HTR.out (.slice A4 n4 c4) (.int .i64 t4.err)) 3 (.int .u8 b4') (cs' := #[.int .u8 b1', .int .u8 b2', .int .u8 b3', .int .u8 b4']) rfl)
    clear iv bw vm tt VM3 TT3 C3
    go_wp2
    clear g0 g1 z0 z1 q0 y0
    rw [rounds_succ]
    have g0 := blk_cell VM4.out.box 0
    have g1 := blk_cell VM4.out.box 1
    have yc0 := blk_cell VM4.out.res 0
    have yc1 := blk_cell VM4.out.res 1
    have yz0 := blk_frozen VM4.out.res 0
    have yz1 := blk_frozen VM4.out.res 1
    simp only [List.getElem?_toArray, List.getElem?_cons_zero, List.getElem?_cons_succ] at g0 g1 yc0 yc1
    go_wp2
    refine bodyPost_ret (results_ct rfl _ _ (R + 1) 48 #[.slice A4 n4 c4, .int .i64 t4.err] (0, 0) _ rfl (blk_put (blk_put VM4.out.res 0 _ rfl) 1 _ rfl) Try.underlying48 rfl (by kernel_rfl)) rfl ?_
    exact ⟨_, rfl, VM4.out.iv, set2 VM4.out.low (by have := VM4.out.base; omega) _ _⟩
  · rw [if_pos he]
    have he' : (t4.err != 0) = false := by rw [he]; rfl
    clear he
    go_enter Try.func95, Try.ntmps95
    go_wp2
    rw [← HR.out, ← HT.out]
    refine wp_loop_rounds 5 ?_
    rw [rounds_succ]
    have i0 := blk_cell VMa.out.box 0
    have i1 := blk_cell VMa.out.box 1
    simp only [List.getElem?_toArray, List.getElem?_cons_zero, List.getElem?_cons_succ] at i0 i1
    go_wp2_with fail
    refine (VMa.out.call (C0.out _ _ VMa.out.iv (HB.out.trans (VMa.out.low.mono HS.out)))).mono ?_
    rintro e w1 ⟨A1, n1, c1, rfl, iv, bw, vm⟩
    clear i0 i1
    have g0 := blk_cell vm.box 0
    have g1 := blk_cell vm.box 1
    have z0 := blk_frozen vm.box 0
    have z1 := blk_frozen vm.box 1
    simp only [List.getElem?_toArray, List.getElem?_cons_zero, List.getElem?_cons_succ] at g0 g1
    have tt := blk_below TTa.out bw
    have q0 := blk_cell tt 0
    have y0 := blk_frozen tt 0
    simp only [List.getElem?_toArray, List.getElem?_cons_zero] at q0
    have VM1 := Lib.hid ((vm.put iv).set HTR.out 0 (.int .u8 b1'))
    have TT1 := Lib.hid (blk_put (two_far tt HTR.out (.slice A1 n1 c1) (.int .i64 t1.err)) 0 (.int .u8 b1') (cs' := #[.int .u8 b1', .int .u8 0, .int .u8 0, .int .u8 0]) rfl)
    clear iv bw vm tt VMa TTa C0
    go_wp2
    clear g0 g1 z0 z1 q0 y0
    rw [rounds_succ]
    have i0 := blk_cell VM1.out.box 0
    have i1 := blk_cell VM1.out.box 1
    simp only [List.getElem?_toArray, List.getElem?_cons_zero, List.getElem?_cons_succ] at i0 i1
    go_wp2_with fail
    refine (VM1.out.call (C1.out _ _ VM1.out.iv (HB.out.trans (VM1.out.low.mono HS.out)))).mono ?_
    rintro e w2 ⟨A2, n2, c2, rfl, iv, bw, vm⟩
    clear i0 i1
    have g0 := blk_cell vm.box 0
    have g1 := blk_cell vm.box 1
    have z0 := blk_frozen vm.box 0
    have z1 := blk_frozen vm.box 1
    simp only [List.getElem?_toArray, List.getElem?_cons_zero, List.getElem?_cons_succ] at g0 g1
    have tt := blk_below TT1.out bw
    have q0 := blk_cell tt 1
    have y0 := blk_frozen tt 1
    simp only [List.getElem?_toArray, List.getElem?_cons_zero, List.getElem?_cons_succ] at q0
    have VM2 := Lib.hid ((vm.put iv).set HTR.out 1 (.int .u8 b2'))
    have TT2 := Lib.hid (blk_put (two_far tt HTR.out (.slice A2 n2 c2) (.int .i64 t2.err)) 1 (.int .u8 b2') (cs' := #[.int .u8 b1', .int .u8 b2', .int .u8 0, .int .u8 0]) rfl)
    clear iv bw vm tt VM1 TT1 C1
    go_wp2
    clear g0 g1 z0 z1 q0 y0
    rw [rounds_succ]
    have i0 := blk_cell VM2.out.box 0
    have i1 := blk_cell VM2.out.box 1
    simp only [List.getElem?_toArray, List.getElem?_cons_zero, List.getElem?_cons_succ] at i0 i1
    go_wp2_with fail
    refine (VM2.out.call (C2.out _ _ VM2.out.iv (HB.out.trans (VM2.out.low.mono HS.out)))).mono ?_
    rintro e w3 ⟨A3, n3, c3, rfl, iv, bw, vm⟩
    clear i0 i1
    have g0 := blk_cell vm.box 0
    have g1 := blk_cell vm.box 1
    have z0 := blk_frozen vm.box 0
    have z1 := blk_frozen vm.box 1
    simp only [List.getElem?_toArray, List.getElem?_cons_zero, List.getElem?_cons_succ] at g0 g1
    have tt := blk_below TT2.out bw
    have q0 := blk_cell tt 2
    have y0 := blk_frozen tt 2
    simp only [List.getElem?_toArray, List.getElem?_cons_zero, List.getElem?_cons_succ] at q0
    have VM3 := Lib.hid ((vm.put iv).set HTR.out 2 (.int .u8 b3'))
    have TT3 := Lib.hid (blk_put (two_far tt HTR.out (.slice A3 n3 c3) (.int .i64 t3.err)) 2 (.int .u8 b3') (cs' := #[.int .u8 b1', .int .u8 b2', .int .u8 b3', .int .u8 0]) rfl)
    clear iv bw vm tt VM2 TT2 C2
    go_wp2
    clear g0 g1 z0 z1 q0 y0
    rw [rounds_succ]
    have i0 := blk_cell VM3.out.box 0
    have i1 := blk_cell VM3.out.box 1
    simp only [List.getElem?_toArray, List.getElem?_cons_zero, List.getElem?_cons_succ] at i0 i1
    go_wp2_with fail
    refine (VM3.out.call (C3.out _ _ VM3.out.iv (HB.out.trans (VM3.out.low.mono HS.out)))).mono ?_
    rintro e w4 ⟨A4, n4, c4, rfl, iv, bw, vm⟩
    clear i0 i1
    have g0 := blk_cell vm.box 0
    have g1 := blk_cell vm.box 1
    have z0 := blk_frozen vm.box 0
    have z1 := blk_frozen vm.box 1
    simp only [List.getElem?_toArray, List.getElem?_cons_zero, List.getElem?_cons_succ] at g0 g1
    have tt := blk_below TT3.out bw
    have q0 := blk_cell tt 3
    have y0 := blk_frozen tt 3
    simp only [List.getElem?_toArray, List.getElem?_cons_zero, List.getElem?_cons_succ] at q0
    have VM4 := Lib.hid ((vm.put iv).set HTR.out 3 (.int .u8 b4'))
    have TT4 := Lib.hid (blk_put (two_far tt HTR.out (.slice A4 n4 c4) (.int .i64 t4.err)) 3 (.int .u8 b4') (cs' := #[.int .u8 b1', .int .u8 b2', .int .u8 b3', .int .u8 b4']) rfl)
    clear iv bw vm tt VM3 TT3 C3
    go_wp2
    clear g0 g1 z0 z1 q0 y0
    rw [rounds_succ]
    have g0 := blk_cell VM4.out.box 0
    have g1 := blk_cell VM4.out.box 1
    have yc0 := blk_cell VM4.out.res 0
    have yc1 := blk_cell VM4.out.res 1
    have yz0 := blk_frozen VM4.out.res 0
    have yz1 := blk_frozen VM4.out.res 1
    simp only [List.getElem?_toArray, List.getElem?_cons_zero, List.getElem?_cons_succ] at g0 g1 yc0 yc1
    have RC : Hid (Kd.C (Kd.int .u8) (((w4.setCell ⟨R, 0, none⟩ (.slice A4 n4 c4)).setCell ⟨R, 1, none⟩ (.int .i64 t4.err)).setCell ⟨T, 3, none⟩ (.int .u8 b4')).drew (some ⟨T, 0, none⟩) 4 [b1', b2', b3', b4']) := Lib.hid (four_bytes TT4.out)
    go_wp2
    go_region_law (first | (go_simp; go_at_call 105; refine (pascalineref01_Word.calls 5 (some ⟨T, 0, none⟩) 4 [b1', b2', b3', b4'] word _ (by first | exact RC.out | exact Kd.C_below RC.out (Below.refl _ _)) (Nat.le_refl _) WW.out).mono ?_; rintro e wz ⟨rfl, ⟨nd, rfl⟩⟩))
    all_goals go_wp2
    all_goals refine bodyPost_ret (results_ct rfl _ _ (R + 1) 48 #[.slice A4 n4 c4, .int .i64 t4.err] (0, 0) _ rfl (blk_put (blk_put VM4.out.res 0 _ rfl) 1 _ rfl) Try.underlying48 rfl (by kernel_rfl)) rfl ?_
    all_goals exact ⟨_, rfl, VM4.out.iv, set2 (pw_below_drewN VM4.out.low _) (by have := VM4.out.base; omega) _ _⟩
end Go.Proofs.Ytehdhmhpmkkneaa

/- Layer 14: the walk of the document's Read. -/
namespace Go.Proofs.Ytehdhmhpmkkneaa
open Go.RowKit Go.Proofs.YtehdhmhpmkkneaaW.PrintWords Go.Proofs.YtehdhmhpmkkneaaW.PrintMore Go.Proofs.Ytehdhmhpmkkneaa.PAll

/-- Behind Read: the reader, and the list in new rows. -/
def TakePostI (w0 w : World) (l : List S93) (s : RS) (e : Ending) (w' : World) : Prop :=
  ∃ v' v, e = .returned (.tuple #[v', v]) ∧ IsV w0 v' s ∧ Kd.R k93 93 w' w.heap.size (fun k => w.heap.size ≤ k) v l ∧ Below w.heap.size w w'

set_option maxHeartbeats 8000000 in
set_option maxRecDepth 100000 in
theorem vreadI (w0 w : World) (v : Value) (s : RS) (h : IsV w0 v s) (hb : Below w0.heap.size w0 w) :
    Calls Try.prog 65 #[v] w (TakePostI w0 w (readI s).1 (readI s).2) := by
  have HB := Lib.hid hb
  have HS := Lib.hid hb.size
  have hbd := countS_bd 64 s h.bytes
  obtain ⟨m, hm⟩ : ∃ n : Nat, (countS 64 s).1 = (n : Int) := ⟨(countS 64 s).1.toNat, by omega⟩
  have hm2 : m ≤ 64 := by omega
  have HRS : Hid (((if (takeI m [] (countS 64 s).2).2.err = 0 then (takeI m [] (countS 64 s).2).1 else []), (takeI m [] (countS 64 s).2).2) = readI s) := Lib.hid (by rw [readI_take, hm]; rfl)
  have C0 : Hid (∀ W, Below w0.heap.size w0 W → Calls Try.prog 83 #[v, .int .i64 64] W (VPost w0 W (countS 64 s).2 (.int .i64 m))) := Lib.hid (fun W hB => by
    have := vcount w0 W v s 64 (by omega) h hB
    rwa [hm] at this)
  have V0 := Lib.hid h
  obtain ⟨A, n, c, rfl, _, _⟩ := h
  clear hb hbd hm
  generalize (countS 64 s).2 = s1 at *
  generalize readI s = q at *
  obtain ⟨ql, qs⟩ := q
  simp only
  obtain ⟨R, hR⟩ : ∃ r, r = w.heap.size := ⟨_, rfl⟩
  have x1 : ((w.alloc (.cells #[.slice A n c, .int .i64 s.err] 48)).alloc (.cells #[.slice none 0 0, .int .i64 0] 48)).heap[R]? = some (.cells #[.slice A n c, .int .i64 s.err] 48 (0, 0)) := by
    rw [hR]; exact blk_below (heap_alloc_new w _) (b1 _ _)
  have x2 : ((w.alloc (.cells #[.slice A n c, .int .i64 s.err] 48)).alloc (.cells #[.slice none 0 0, .int .i64 0] 48)).heap[R + 1]? = some (.cells #[.slice none 0 0, .int .i64 0] 48 (0, 0)) := by
    rw [hR]; exact boxed w _ _
  have VM : Hid (Vm w0 w ((w.alloc (.cells #[.slice A n c, .int .i64 s.err] 48)).alloc (.cells #[.slice none 0 0, .int .i64 0] 48)) R A n c s) := Lib.hid ⟨x1, V0.out, x2, b2 _ _ _, by omega⟩
  clear x1 x2
  go_enter Try.func65, Try.ntmps65
  go_wp2_with fail
  rw [← hR]
  clear hR
  refine (VM.out.call (C0.out _ (HB.out.trans (VM.out.low.mono HS.out)))).mono ?_
  rintro e w1 ⟨A1, n1, c1, rfl, iv, _, vm⟩
  have VM1 := Lib.hid (vm.put iv)
  have g0 := blk_cell vm.box 0
  have g1 := blk_cell vm.box 1
  have z0 := blk_frozen vm.box 0
  have z1 := blk_frozen vm.box 1
  simp only [List.getElem?_toArray, List.getElem?_cons_zero, List.getElem?_cons_succ] at g0 g1
  clear iv vm VM C0 V0
  generalize hyy : takeI m [] s1 = y at HRS
  have HY := Lib.hid hyy
  obtain ⟨yl, ys⟩ := y
  simp only at HRS
  clear hyy
  have RO1 : Hid (Kd.R k93 93 ((w1.setCell ⟨R, 0, none⟩ (.slice A1 n1 c1)).setCell ⟨R, 1, none⟩ (.int .i64 s1.err)) w.heap.size (fun x => R + 1 < x) (.slice none 0 0) []) := Lib.hid (Kd.R_nil _ _ _ _ _)
  go_wp2
  clear g0 g1 z0 z1
  go_loopw [5, 6] (fun r5 r6 wr => ∃ (k : Nat) (A : Option Addr) (n c : Nat) (l : List S93) (s : RS) (v : Value), k ≤ m ∧ l.length ≤ k ∧ r5 = v ∧ r6 = .int .i64 k ∧ Hid (Vm w0 w wr R A n c s) ∧ Hid (Kd.R k93 93 wr w.heap.size (fun x => R + 1 < x) v l) ∧ Hid (takeI (m - k) l s = (yl, ys)))
    (fun _ r6 _ => m - (intOf r6).toNat)
  case atStart => exact ⟨0, A1, n1, c1, [], s1, _, by omega, by simp, rfl, rfl, VM1, RO1, HY⟩
  case round =>
    obtain ⟨k, A2, n2, c2, l, s2, v, hk, hl, rfl, rfl, VM, RO, HE⟩ := hrel
    have VX := VM.out.box
    have vc1 := blk_cell VX 1
    have vc0 := blk_cell VX 0
    simp only [List.getElem?_toArray, List.getElem?_cons_zero, List.getElem?_cons_succ] at vc0 vc1
    by_cases hkm : k < m
    rotate_left
    · have HF : (l, s2) = (yl, ys) := by
        have h0 : m - k = 0 := by omega
        rw [← HE.out, h0]
        rfl
      injection HF with e1 e2
      subst e1 e2
      have yc0 := blk_cell VM.out.res 0
      have yc1 := blk_cell VM.out.res 1
      have yz0 := blk_frozen VM.out.res 0
      have yz1 := blk_frozen VM.out.res 1
      simp only [List.getElem?_toArray, List.getElem?_cons_zero, List.getElem?_cons_succ] at yc0 yc1
      obtain ⟨AO, cO, rfl, _⟩ := Kd.R_reads RO.out
      by_cases hse : s2.err = 0
      · have e1 : (l, s2) = (ql, qs) := by have h := HRS.out; rwa [if_pos hse] at h
        injection e1 with e2 e3
        subst e2 e3
        have hse' : (s2.err != 0) = false := by rw [hse]; rfl
        clear hse
        go_wp2
        refine bodyPost_ret (results_ct rfl _ _ (R + 1) 48 #[.slice A2 n2 c2, .int .i64 s2.err] (0, 0) _ rfl (blk_put (blk_put VM.out.res 0 _ rfl) 1 _ rfl) Try.underlying48 rfl (by kernel_rfl)) rfl ?_
        exact ⟨_, _, rfl, VM.out.iv, Kd.R_mono (Kd.R_far (Kd.R_far RO.out (fun x hx => by show x ≠ R + 1; omega) _) (fun x hx => by show x ≠ R + 1; omega) _) (fun x hx => by have := VM.out.base; omega), set2 VM.out.low (by have := VM.out.base; omega) _ _⟩
      · have e1 : ([], s2) = (ql, qs) := by have h := HRS.out; rwa [if_neg hse] at h
        injection e1 with e2 e3
        subst e2 e3
        have hse' : (s2.err != 0) = true := bne_iff_ne.2 hse
        clear hse
        go_wp2
        refine bodyPost_ret (results_ct rfl _ _ (R + 1) 48 #[.slice A2 n2 c2, .int .i64 s2.err] (0, 0) _ rfl (blk_put (blk_put VM.out.res 0 _ rfl) 1 _ rfl) Try.underlying48 rfl (by kernel_rfl)) rfl ?_
        exact ⟨_, _, rfl, VM.out.iv, Kd.R_nil _ _ _ _ _, set2 VM.out.low (by have := VM.out.base; omega) _ _⟩
    obtain ⟨d, hd⟩ : ∃ d, m - k = d + 1 := ⟨m - k - 1, by omega⟩
    have HE2 : Hid (takeI d (l ++ [(impRd s2).1]) (impRd s2).2 = (yl, ys)) := Lib.hid (by
      have h := HE.out
      rw [hd, takeI] at h
      exact h)
    have HD : Hid (m - (k + 1) = d) := Lib.hid (by omega)
    have HX : Hid (impRd s2 = (⟨(textS 32 s2).1, (wordS (textS 32 s2).2).1⟩, (wordS (textS 32 s2).2).2)) := Lib.hid rfl
    clear HE hd VX
    obtain ⟨AO, cO, rfl, _⟩ := Kd.R_reads RO.out
    obtain ⟨T, hT⟩ : ∃ T, T = wr.heap.size := ⟨_, rfl⟩
    have HTR : Hid (R + 1 < T) := Lib.hid (by have := blk_lt VM.out.res; omega)
    have LR := blk_lt VM.out.box
    have r1 : R ≠ T := by have := HTR.out; omega
    have r2 : T ≠ R := by have := HTR.out; omega
    have VMa := Lib.hid (VM.out.alloc (.cells #[.string ⟨#[]⟩, .int .u32 0] 93))
    have TTa : Hid ((wr.alloc (.cells #[.string ⟨#[]⟩, .int .u32 0] 93)).heap[T]? = some (.cells #[.string ⟨#[]⟩, .int .u32 0] 93 (0, 0))) := Lib.hid (by rw [hT]; exact heap_alloc_new _ _)
    have ROa : Hid (Kd.R k93 93 (wr.alloc (.cells #[.string ⟨#[]⟩, .int .u32 0] 93)) w.heap.size (fun x => R + 1 < x ∧ x < T) (.slice AO l.length cO) l) := Lib.hid (Kd.R_alloc (Kd.R_mono (Kd.R_bound RO.out) (fun x hx => ⟨hx.1, by have := hx.2.2.1; omega⟩)) _)
    have K1 : Hid (∀ v W, IsV w0 v s2 → Below w0.heap.size w0 W → Calls Try.prog 84 #[v, .int .i64 32] W (VPost w0 W (textS 32 s2).2 (.string (textS 32 s2).1))) := Lib.hid (fun v W hi hB => vtext w0 W v s2 32 (by omega) hi hB)
    have K2 : Hid (∀ v W, IsV w0 v (textS 32 s2).2 → Below w0.heap.size w0 W → Calls Try.prog 95 #[v] W (VPost w0 W (wordS (textS 32 s2).2).2 (.int .u32 (wordS (textS 32 s2).2).1))) := Lib.hid (fun v W hi hB => vword w0 W v _ hi hB)
    generalize (textS 32 s2).1 = f0 at *
    generalize (textS 32 s2).2 = t1 at *
    generalize (wordS t1).1 = f1 at *
    generalize (wordS t1).2 = t2 at *
    clear RO
    go_wp2_with fail
    rw [← hT]
    clear hT VM
    refine (VMa.out.call (K1.out _ _ VMa.out.iv (HB.out.trans (VMa.out.low.mono HS.out)))).mono ?_
    rintro e w5 ⟨Ax, nx, cx, rfl, iv, bw, vm⟩
    have g0 := blk_cell vm.box 0
    have g1 := blk_cell vm.box 1
    have z0 := blk_frozen vm.box 0
    have z1 := blk_frozen vm.box 1
    simp only [List.getElem?_toArray, List.getElem?_cons_zero, List.getElem?_cons_succ] at g0 g1
    have tt := blk_below TTa.out bw
    have q0 := blk_cell tt 0
    have y0 := blk_frozen tt 0
    simp only [List.getElem?_toArray, List.getElem?_cons_zero] at q0
    have VMx := Lib.hid ((vm.put iv).set HTR.out 0 (.string f0))
    have TTx := Lib.hid (blk_put (two_far tt HTR.out (.slice Ax nx cx) (.int .i64 t1.err)) 0 (.string f0) (cs' := #[.string f0, .int .u32 0]) rfl)
    have ROx := Lib.hid (Kd.R_far (p := ⟨T, 0, none⟩) (two_R (Kd.R_below ROa.out bw) (fun k hk => hk.1) (.slice Ax nx cx) (.int .i64 t1.err)) (fun x hx => by show x ≠ T; omega) (.string f0))
    clear iv bw vm tt VMa TTa ROa K1 vc0 vc1
    go_wp2_with fail
    refine (VMx.out.call (K2.out _ _ VMx.out.iv (HB.out.trans (VMx.out.low.mono HS.out)))).mono ?_
    rintro e w6 ⟨Ay, ny, cy, rfl, iv, bw, vm⟩
    clear g0 g1 z0 z1 q0 y0
    have g0 := blk_cell vm.box 0
    have g1 := blk_cell vm.box 1
    have z0 := blk_frozen vm.box 0
    have z1 := blk_frozen vm.box 1
    simp only [List.getElem?_toArray, List.getElem?_cons_zero, List.getElem?_cons_succ] at g0 g1
    have tt := blk_below TTx.out bw
    have q0 := blk_cell tt 0
    have q1 := blk_cell tt 1
    have y1 := blk_frozen tt 1
    simp only [List.getElem?_toArray, List.getElem?_cons_zero, List.getElem?_cons_succ] at q0 q1
    have VMy := Lib.hid ((vm.put iv).set HTR.out 1 (.int .u32 f1))
    have ROy := Lib.hid (Kd.R_far (p := ⟨T, 1, none⟩) (two_R (Kd.R_below ROx.out bw) (fun k hk => hk.1) (.slice Ay ny cy) (.int .i64 t2.err)) (fun x hx => by show x ≠ T; omega) (.int .u32 f1))
    have ROz := Lib.hid (Kd.R_mono ROy.out (fun k hk => hk.1))
    have hsz := Lib.hid VMy.out.low.size
    clear iv bw vm tt VMx TTx ROx K2
    go_wp2_with (at_builtin; go_must (refine Kd.R_append k93 w.heap.size rfl _ _ 55 93 (.agg #[.string ByteArray.empty, .int .u32 0]) 24 rfl Try.underlying55 info93r rfl (by decide) (by decide) (.slice AO l.length cO) l ⟨f0, f1⟩ [.string f0, .int .u32 f1] (fun k => R + 1 < k) (fun _ => False) rfl (by show Value.slice (some ⟨w6.heap.size, 0, none⟩) 1 1 = _; simp [World.setCell]) (k93_mkM _ _ _ ⟨f0, f1⟩) (fun _ h => h.elim) (fun k hk => by have h1 := blk_lt VMy.out.res; omega) ROz.out (Below.refl _ _) hsz.out (by omega) ?_; intro v1 we hown hbel hgrow hlie; have VMe := Lib.hid (VMy.out.grown (fun k e => (ROy.out.1 k e).1) hgrow); have OE := Lib.hid hown; clear hown hbel hgrow hlie))
    go_roundw
    case rel =>
      refine ⟨k + 1, Ay, ny, cy, l ++ [⟨f0, f1⟩], t2, v1, by omega, by rw [List.length_append]; simp; omega, rfl, by go_num, VMe, OE, Lib.hid ?_⟩
      rw [HD.out]
      have h := HE2.out
      rw [HX.out] at h
      exact h
    case measure => simp [intOf]; omega
end Go.Proofs.Ytehdhmhpmkkneaa

/- SymfileImports: the law's walk. -/
namespace Go.Proofs.Ytehdhmhpmkkneaa
open Go.RowKit Go.Proofs.YtehdhmhpmkkneaaW.PrintWords Go.Proofs.YtehdhmhpmkkneaaW.PrintMore Go.Proofs.Ytehdhmhpmkkneaa.PAll

theorem flat_len' {α : Type} (f : α → List Int) (m : Nat) : ∀ l : List α, (∀ x ∈ l, (f x).length ≤ m) → (l.flatMap f).length ≤ m * l.length
  | [], _ => by simp
  | x :: r, h => by
    have h1 := h x (List.mem_cons_self ..)
    have h2 := flat_len' f m r (fun y hy => h y (List.mem_cons_of_mem _ hy))
    rw [List.flatMap_cons, List.length_append, List.length_cons, Nat.mul_succ]
    omega
theorem impsB_len (l : List S93) (hl : l.length ≤ 100) (h : ∀ x ∈ l, x.f0.size ≤ 200) : (impsB l).length ≤ 30000 := by
  have a := cnt_len9 (n := l.length) (by omega)
  have f := flat_len' impB 213 l (fun x hx => by
    have h1 := h x hx
    have h2 := cnt_len9 (n := x.f0.size) (by omega)
    rw [impB_len]
    omega)
  unfold impsB
  rw [List.length_append]
  omega

theorem reads_u8 {w : World} {A : Option Addr} {n : Nat} {xs : List Int} (h : Kd.C (Kd.int .u8) w A n xs) : ReadsInt w .u8 A n xs :=
  Kd.reads_of_C (enc := Value.int .u8) (d := (0 : Int)) (h1 := fun _ => rfl) h
theorem allB_of {xs : List Int} (h : ∀ x ∈ xs, (Lit.int .u8 x).wf = true) : AllB xs := fun x hx => bdu8 (h x hx)

set_option maxHeartbeats 400000 in
set_option maxRecDepth 100000 in
theorem cerr0 (w0 w : World) (g : Nat) (s : RS) (h : IsR w0 w g s) :
    Calls Try.prog 31 #[.pointer (some ⟨g, 0, none⟩)] w fun e w' => e = .returned (.int .i64 s.err) ∧ w' = w := by
  have c2 := h.errCell
  clear h
  go_enter Try.func31, Try.ntmps31
  go_wp2
  go_ret
  exact ⟨rfl, rfl⟩

/-- A round more. -/
theorem meas_lt' (n i : Nat) (h : i < n) (hw : wrap64 ((i : Int) + 1) = (i : Int) + 1) : n - (intOf (.int .i64 (wrap64 ((i : Int) + 1)))).toNat < n - (intOf (.int .i64 (i : Int))).toNat := by
  rw [hw]
  simp only [intOf]
  omega

set_option maxHeartbeats 4000000 in
set_option maxRecDepth 100000 in
theorem symfileImports_any (l : List S93) (AL : Option Addr) (cL : Nat) (AD : Option Addr) (cD : Nat) (xs : List Int) (w : World) (hr : Kd.C k93 w AL l.length l) (hcl : l.length ≤ cL) (hok : ∀ x ∈ l, Ok93 x)
    (hd : ReadsInt w .u8 AD xs.length xs) (hdb : AllB xs) (hcd : xs.length ≤ cD) :
    Calls Try.prog 12 #[.slice AL l.length cL, .slice AD xs.length cD] w fun e w' => e = .returned (.bool true) ∧ Below w.heap.size w w' := by
  have HR := Lib.hid hr
  have HC := Lib.hid hcl
  have OK := Lib.hid hok
  have HD := Lib.hid hd
  have DB := Lib.hid hdb
  have HCD := Lib.hid hcd
  clear hr hcl hok hd hdb hcd
  by_cases big : (l.length : Int) > 100
  · have t0 : decide (100 < (l.length : Int)) = true := decide_eq_true big
    have t1 : decide (100 < l.length) = true := decide_eq_true (by omega)
    clear big
    go_enter Try.func12, Try.ntmps12
    go_wp2_with fail
    refine (awake14 _).mono ?_
    rintro e w1 ⟨rfl, b1⟩
    have B1 := Lib.hid b1
    clear b1
    go_wp2
    go_ret
    exact ⟨rfl, B1.out⟩
  have t0 : decide (100 < (l.length : Int)) = false := decide_eq_false big
  have t0' : decide (100 < l.length) = false := decide_eq_false (by omega)
  have HL : Hid (l.length ≤ 100) := Lib.hid (by omega)
  clear big
  by_cases bigd : (xs.length : Int) > 1000
  · have t1 : decide (1000 < (xs.length : Int)) = true := decide_eq_true bigd
    have t2 : decide (1000 < xs.length) = true := decide_eq_true (by omega)
    clear bigd
    go_enter Try.func12, Try.ntmps12
    go_wp2_with fail
    refine (awake14 _).mono ?_
    rintro e w1 ⟨rfl, b1⟩
    have B1 := Lib.hid b1
    clear b1
    go_wp2
    go_ret
    exact ⟨rfl, B1.out⟩
  have t1 : decide (1000 < (xs.length : Int)) = false := decide_eq_false bigd
  have t1' : decide (1000 < xs.length) = false := decide_eq_false (by omega)
  have HX : Hid (xs.length ≤ 1000) := Lib.hid (by omega)
  clear bigd
  have V0 : Hid (IsV w (.agg #[.slice AD xs.length cD, .int .i64 0]) ⟨xs, 0⟩) := Lib.hid ⟨AD, _, cD, rfl, HD.out, HCD.out, DB.out, by have := HX.out; omega⟩
  go_enter Try.func12, Try.ntmps12
  go_wp2_with fail
  refine (awake14 _).mono ?_
  rintro e w1 ⟨rfl, b1⟩
  have B1 := Lib.hid b1
  clear b1
  go_wp2
  clear t0 t0' t1 t1'
  go_loopw [5] (fun r5 wr => ∃ i : Nat, i ≤ l.length ∧ r5 = .int .i64 i ∧ wr = w1 ∧ Hid (∀ x ∈ l.take i, x.f0.size ≤ 200)) (fun r5 _ => l.length - (intOf r5).toNat)
  case atStart => exact ⟨0, Nat.zero_le _, rfl, rfl, Lib.hid (fun x hx => by rw [List.take_zero] at hx; cases hx)⟩
  case round =>
    obtain ⟨i, hi, rfl, rfl, HS⟩ := hrel
    by_cases hlt : i < l.length
    · obtain ⟨b, off, rfl, hbl, x0, x1⟩ := row93u HR.out i hlt
      have q0 := cell_old B1.out hbl x0
      have ST : Hid (l.take (i + 1) = l.take i ++ [l[i]]) := Lib.hid (List.take_succ_eq_append_getElem hlt)
      clear x0 x1
      generalize l[i] = x at *
      obtain ⟨f0, f1⟩ := x
      simp only at q0
      by_cases hf : (f0.size : Int) > 200
      · have t0 : decide (200 < (f0.size : Int)) = true := decide_eq_true hf
        have t0' : decide (200 < f0.size) = true := decide_eq_true (by omega)
        clear hf
        go_wp2
        go_ret
        exact ⟨rfl, B1.out⟩
      · have t0 : decide (200 < (f0.size : Int)) = false := decide_eq_false hf
        have t0' : decide (200 < f0.size) = false := decide_eq_false (by omega)
        have HF : Hid (f0.size ≤ 200) := Lib.hid (by omega)
        have hw : wrap64 ((i : Int) + 1) = (i : Int) + 1 := by have := HL.out; unfold wrap64; omega
        clear hf
        go_wp2
        go_roundw
        case rel =>
          refine ⟨i + 1, hlt, by simp [hw], trivial, Lib.hid (fun y hy => ?_)⟩
          rw [ST.out] at hy
          rcases List.mem_append.1 hy with h | h
          · exact HS.out y h
          · rw [List.mem_singleton.1 h]; exact HF.out
        case measure => exact meas_lt' _ _ hlt hw
    have HSA : Hid (∀ x ∈ l, x.f0.size ≤ 200) := Lib.hid (fun x hx => HS.out x (by rw [List.take_of_length_le (by omega)]; exact hx))
    have EL := Lib.hid (impsB_len l HL.out HSA.out)
    clear HS
    have W2 := Lib.hid (wr_newB w.heap.size wr B1.out.size)
    have B3 := Lib.hid (B1.out.alloc B1.out.size (.cells #[.slice none 0 0] 26))
    go_wp2_with fail
    refine (swrite w wr.heap.size _ [] l AL cL _ W2.out B3.out HR.out OK.out (by have := EL.out; simp only [List.length_nil]; omega)).mono ?_
    rintro e w4 ⟨rfl, v4, h4, m4⟩
    have H4 := Lib.hid h4
    have B4 := Lib.hid (m4.below B3.out B3.out.size W2.out.2.1 W2.out.base)
    clear h4 m4 W2 B3
    go_wp2_with fail
    refine (wbytes w.heap.size wr.heap.size v4 _ w4 H4.out (by have := EL.out; simp only [List.nil_append]; omega)).mono ?_
    rintro e w5 ⟨v5, rfl, o5, b5⟩
    have O5 := Lib.hid o5
    have B5 := Lib.hid (B4.out.trans (b5.mono B4.out.size))
    clear o5 b5 H4 B4
    obtain ⟨A5, c5, rfl⟩ := own_slice O5.out
    go_wp2_with fail
    refine (rimps l AL cL w5 (Kd.C_below HR.out B5.out) HC.out OK.out (by have := EL.out; omega) (fun x hx => by have := HSA.out x hx; omega) (by have := HL.out; omega)).mono ?_
    rintro e w6 ⟨v6, rfl, o6, b6⟩
    have O6 := Lib.hid o6
    have P5 := Lib.hid (pw_own_below O5.out b6)
    have B6 := Lib.hid (B5.out.trans (b6.mono B5.out.size))
    clear o6 b6 O5 B5
    go_wp2_with fail
    refine (rsame w4.heap.size w5.heap.size _ _ (impsB l) (impsB l) w6 (by have := EL.out; omega) (by have := P5.out; simpa only [List.nil_append] using this) O6.out).mono ?_
    rintro e w7 ⟨rfl, d7⟩
    have B7 := Lib.hid (B6.out.trans (d7.below.mono B6.out.size))
    have tt : decide (impsB l = impsB l) = true := decide_eq_true rfl
    clear d7 P5 O6 B6
    go_wp2_with fail
    refine (cread AD _ cD xs w7 (HD.out.below B7.out) DB.out (by have := HX.out; omega)).mono ?_
    rintro e w8 ⟨w0, g, rfl, hi8, hb8, hb2⟩
    have I2 := Lib.hid hi8
    have L2 := Lib.hid hb8
    have B2 := Lib.hid (B7.out.trans ((hb2.trans (hb8.mono hb2.size)).mono B7.out.size))
    have HG : Hid (w.heap.size ≤ g) := Lib.hid (by
      obtain ⟨_, _, _, _, _, hg, _⟩ := hi8
      have := hb2.size
      have := B7.out.size
      omega)
    clear hi8 hb8 hb2 B7
    go_wp2_with fail
    refine (sread w0 w8 g _ I2.out L2.out).mono ?_
    rintro e w3 ⟨v3, rfl, r3, i3, l3, k3⟩
    have R3 := Lib.hid r3
    have I3 := Lib.hid i3
    have L3 := Lib.hid l3
    have B3 : Hid (Below w.heap.size w w3) := Lib.hid (B2.out.trans ⟨l3.os.trans L2.out.os.symm, l3.tape.trans L2.out.tape.symm, l3.output.trans L2.out.output.symm, k3.1, fun i hi => k3.2 i (Nat.lt_of_lt_of_le hi B2.out.size) (by have := HG.out; omega) (by simp)⟩)
    obtain ⟨A3, c3, rfl, hc3, C3⟩ := Kd.R_reads r3
    have C3h := Lib.hid C3
    clear r3 i3 l3 k3 C3 I2 L2 R3
    go_wp2_with fail
    refine (vreadI w w3 _ _ V0.out B3.out).mono ?_
    rintro e w4 ⟨v', v4, rfl, iv, r4, b4⟩
    obtain ⟨A5, n5, c5, rfl, iw⟩ := id iv
    have IV := Lib.hid iv
    obtain ⟨A4, c4, rfl, hc4, C4⟩ := Kd.R_reads r4
    have C4h := Lib.hid C4
    have B4 := Lib.hid (B3.out.trans (b4.mono B3.out.size))
    have C3i := Lib.hid (Kd.C_below C3h.out b4)
    have I4 := Lib.hid (I3.out.blk (b4.block g (by obtain ⟨_, _, _, _, hb, _⟩ := I3.out; exact blk_lt hb)))
    have L4 := Lib.hid (L3.out.trans (b4.mono L3.out.size))
    clear iv iw r4 b4 C4 C3h I3 L3
    generalize readI ⟨xs, 0⟩ = q at *
    obtain ⟨ql, s⟩ := q
    simp only at C3i C4h I4 IV hc3 hc4
    simp only
    obtain ⟨W, hW⟩ : ∃ W, W = w4.alloc (.cells #[.slice A5 n5 c5, .int .i64 s.err] 48) := ⟨_, rfl⟩
    obtain ⟨Q, hQ⟩ : ∃ Q, Q = w4.heap.size := ⟨_, rfl⟩
    have bx := heap_alloc_new w4 (.cells #[.slice A5 n5 c5, .int .i64 s.err] 48)
    rw [← hW, ← hQ] at bx
    have y0 := blk_cell bx 0
    have y1 := blk_cell bx 1
    simp only [List.getElem?_toArray, List.getElem?_cons_zero, List.getElem?_cons_succ] at y0 y1
    have bW : Below w4.heap.size w4 W := by rw [hW]; exact b1 _ _
    have bWd : Below w4.heap.size w4 W.drew := bW.drew
    have IW := Lib.hid (I4.out.blk (W' := W.drew) (bWd.block g (by obtain ⟨_, _, _, _, hb, _⟩ := I4.out; exact blk_lt hb)))
    have C3W := Lib.hid (Kd.C_below C3i.out bWd)
    have C4W := Lib.hid (Kd.C_below C4h.out bWd)
    have BW := Lib.hid (B4.out.trans (bWd.mono B4.out.size))
    have HQ := Lib.hid (blk_lt bx)
    have HW := Lib.hid hW
    have HQQ := Lib.hid hQ
    have zz : (s.err == s.err) = true := beq_self_eq_true _
    have zl : (leftS s == leftS s) = true := beq_self_eq_true _
    clear bx bW bWd hW hQ I4 L4 C3i C4h B4
    go_wp2
    rw [← HW.out, ← HQQ.out]
    go_region_held3 (fun w' => w'.cell? ⟨Q, 0, none⟩ = some (.slice A5 n5 c5) ∧ w'.cell? ⟨Q, 1, none⟩ = some (.int .i64 s.err)) (first | exact ⟨y0, y1⟩ | exact ⟨yb0, yb1⟩ | exact ⟨yc0, yc1⟩ | exact ⟨yd0, yd1⟩ | go_keep) (first
      | (go_at_call 31; refine (cerr0 w0 _ g s IW.out).mono ?_; rintro e wa ⟨rfl, rfl⟩)
      | (go_at_call 32; refine (cleft w0 _ g s IW.out).mono ?_; rintro e wb ⟨rfl, db⟩; have Bb := Lib.hid db.below; have yb0 := (Bb.out.cell (p := ⟨Q, 0, none⟩) HQ.out).trans y0; have yb1 := (Bb.out.cell (p := ⟨Q, 1, none⟩) HQ.out).trans y1; have C3b := Lib.hid (Kd.C_below C3W.out Bb.out); have C4b := Lib.hid (Kd.C_below C4W.out Bb.out); have BWb := Lib.hid (BW.out.trans (Bb.out.mono BW.out.size)); clear db)
      | (go_at_call 33; refine (vleft w _ _ s IV.out).mono ?_; rintro e wc ⟨rfl, bc⟩; have C3c := Lib.hid (Kd.C_below C3b.out bc); have C4c := Lib.hid (Kd.C_below C4b.out bc); have yc0 := (bc.cell (p := ⟨Q, 0, none⟩) (Nat.lt_of_lt_of_le HQ.out Bb.out.size)).trans yb0; have yc1 := (bc.cell (p := ⟨Q, 1, none⟩) (Nat.lt_of_lt_of_le HQ.out Bb.out.size)).trans yb1; have BWc := Lib.hid (BWb.out.trans (bc.mono BWb.out.size)); have HQc := Lib.hid (Nat.le_trans Bb.out.size bc.size); clear bc)
      | (go_at_call 66; refine (uses' ql ql A3 A4 c3 c4 _ C3c.out C4c.out).mono ?_; rintro e wd ⟨r, rfl, hr, bd⟩; obtain rfl := hr.2 rfl; have BWd := Lib.hid (BWc.out.trans (bd.mono BWc.out.size)); have yd0 := (bd.cell (p := ⟨Q, 0, none⟩) (Nat.lt_of_lt_of_le HQ.out HQc.out)).trans yc0; have yd1 := (bd.cell (p := ⟨Q, 1, none⟩) (Nat.lt_of_lt_of_le HQ.out HQc.out)).trans yc1; clear hr bd))
    go_wp2
    go_ret
    exact ⟨rfl, BWd.out⟩
end Go.Proofs.Ytehdhmhpmkkneaa

