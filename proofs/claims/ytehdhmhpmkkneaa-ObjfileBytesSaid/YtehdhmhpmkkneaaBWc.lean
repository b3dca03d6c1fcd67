/- Wc. -/
import Derived.Test.YtehdhmhpmkkneaaBMFile
import Derived.Test.YtehdhmhpmkkneaaBMObj
/- An object's bytes; what is read of them is what it was: plain laws. -/
namespace Go.Proofs.Ytehdhmhpmkkneaa
open Go.RowKit Go.Proofs.YtehdhmhpmkkneaaW.PrintWords Go.Proofs.YtehdhmhpmkkneaaW.PrintMore Go.Proofs.Ytehdhmhpmkkneaa.PAll
def fixB (f : S134) : List Int := cnt f.f0.toNat ++ (cnt f.f1.toNat ++ (cnt f.f2.toNat ++ cnt f.f3.toNat))
def segB (s : S131) : List Int := cnt s.f0.toNat ++ cnt (s.f1 + 1).toNat
def codesB (l : List Int) : List Int := cnt l.length ++ l.flatMap wrd
def fixesB (l : List S134) : List Int := cnt l.length ++ l.flatMap fixB
def segsB (l : List S131) : List Int := cnt l.length ++ l.flatMap segB
def endB (d e y : Int) : List Int := cnt d.toNat ++ (cnt e.toNat ++ cnt y.toNat)
def objB (b : ByteArray) (z : Int) (l2 : List S93) (l3 : List Int) (l4 : List S134) (l5 : List S131) (d e y : Int) : List Int :=
  wrd 1347371521 ++ ((cnt b.size ++ bytesOf b) ++ (wrd z ++ (impsB l2 ++ (codesB l3 ++ (fixesB l4 ++ (segsB l5 ++ endB d e y))))))
/-! ### reading -/
def Fits134 (f : S134) : Prop := (0 ≤ f.f0 ∧ f.f0 ≤ 16384) ∧ (0 ≤ f.f1 ∧ f.f1 ≤ 4) ∧ (0 ≤ f.f2 ∧ f.f2 ≤ 64) ∧ (0 ≤ f.f3 ∧ f.f3 ≤ 16384)
def Fits131 (s : S131) : Prop := (0 ≤ s.f0 ∧ s.f0 ≤ 16384) ∧ (-1 ≤ s.f1 ∧ s.f1 < 16384)
/-! ### what may be, may be read -/
theorem fixS_fits {n m d e : Int} (hn : n ≤ 16384) (hm : m ≤ 64) : ∀ (l : List S134) (free : Int), fixS n m d e free l = true → ∀ f ∈ l, Fits134 f
  | [], _, _, f, hf => by cases hf
  | x :: r, free, h, f, hf => by
    unfold fixS at h
    rw [Bool.and_eq_true, Bool.and_eq_true] at h
    rcases List.mem_cons.1 hf with rfl | hf
    · have h1 := of_decide_eq_true h.1.1
      have hk : 1 ≤ f.f1 ∧ f.f1 ≤ 4 := by
        have := h1.1
        unfold wordsS at this
        by_cases a : f.f1 = 3
        · omega
        · rw [if_neg a] at this
          by_cases b : f.f1 = 1 ∨ f.f1 = 2 ∨ f.f1 = 4
          · omega
          · rw [if_neg b] at this; exact absurd rfl this
      have hw := words_range f.f1
      exact ⟨⟨h1.2.1, by omega⟩, ⟨by omega, hk.2⟩, ⟨h1.2.2.2.1, by omega⟩, ⟨h1.2.2.2.2.2.1, h1.2.2.2.2.2.2.1⟩⟩
    · exact fixS_fits hn hm r _ h.2 f hf
theorem segS_fits {n : Int} (hn : n ≤ 16384) : ∀ (l : List S131) (last : Int), -1 ≤ last → segS n last l = true → ∀ s ∈ l, Fits131 s
  | [], _, _, _, s, hs => by cases hs
  | x :: r, last, hl, h, s, hs => by
    unfold segS at h
    rw [Bool.and_eq_true] at h
    have h1 := of_decide_eq_true h.1
    rcases List.mem_cons.1 hs with rfl | hs
    · exact ⟨⟨by omega, by omega⟩, ⟨h1.2.2.1, by omega⟩⟩
    · exact segS_fits hn r _ (by omega) h.2 s hs
structure ObjFits (b : ByteArray) (l2 : List S93) (l3 : List Int) (l4 : List S134) (l5 : List S131) (d e y : Int) : Prop where
  b : b.size ≤ 32
  n2 : l2.length ≤ 64
  s2 : ∀ x ∈ l2, x.f0.size ≤ 32
  n3 : l3.length ≤ 16384
  n4 : l4.length ≤ 16384
  s4 : ∀ f ∈ l4, Fits134 f
  n5 : l5.length ≤ 16384
  s5 : ∀ s ∈ l5, Fits131 s
  d : 0 ≤ d ∧ d ≤ 16384
  e : 0 ≤ e ∧ e ≤ 4096
  y : 0 ≤ y ∧ y ≤ 16384
theorem obj_fits (b : ByteArray) (l2 : List S93) (l3 : List Int) (l4 : List S134) (l5 : List S131) (d e y : Int) (h : objS b l2 l3 l4 l5 d e y = 0) : ObjFits b l2 l3 l4 l5 d e y := by
  unfold objS at h
  by_cases hn : nameB b = true
  rotate_left
  · rw [if_neg hn] at h; cases h
  rw [if_pos hn] at h
  by_cases hi : impsS b l2 = 0
  rotate_left
  · rw [if_neg hi] at h; exact absurd h hi
  rw [if_pos hi] at h
  by_cases h1 : l3.length > 16384 ∨ l4.length > 16384 ∨ l5.length > 16384
  · rw [if_pos h1] at h; cases h
  rw [if_neg h1] at h
  by_cases h2 : d < 0 ∨ d > 16384 ∨ e < 0 ∨ e > 4096
  · rw [if_pos h2] at h; cases h
  rw [if_neg h2] at h
  by_cases h3 : y < 0 ∨ y ≥ l3.length ∨ (segS l3.length (-1) l5 && headS l5) = false
  · rw [if_pos h3] at h; cases h
  rw [if_neg h3] at h
  by_cases h4 : fixS l3.length l2.length d e 0 l4 = true
  rotate_left
  · rw [if_neg h4] at h; cases h
  unfold impsS at hi
  by_cases h64 : l2.length > 64
  · rw [if_pos h64] at hi; cases hi
  rw [if_neg h64] at hi
  have hsg : (segS l3.length (-1) l5 && headS l5) = true := by
    cases hb : (segS l3.length (-1) l5 && headS l5) with
    | true => rfl
    | false => exact absurd (.inr (.inr hb)) h3
  rw [Bool.and_eq_true] at hsg
  exact ⟨nameB_size hn, by omega, impS_fits l2 _ hi, by omega, by omega, fixS_fits (by omega) (by omega) l4 _ h4, by omega, segS_fits (by omega) l5 _ (by omega) hsg.1, by omega, by omega, by omega⟩
/-! ### how many bytes -/
theorem cnt_le9 (n : Nat) (h : n ≤ 9223372036854775807) : (cnt n).length ≤ 10 := by
  have := cnt_len9 (n := n) h
  omega
theorem fixB_le (f : S134) (h : Fits134 f) : (fixB f).length ≤ 40 := by
  obtain ⟨h0, h1, h2, h3⟩ := h
  have a0 := cnt_le9 f.f0.toNat (by omega)
  have a1 := cnt_le9 f.f1.toNat (by omega)
  have a2 := cnt_le9 f.f2.toNat (by omega)
  have a3 := cnt_le9 f.f3.toNat (by omega)
  unfold fixB
  simp only [List.length_append]
  omega
theorem segB_le (s : S131) (h : Fits131 s) : (segB s).length ≤ 40 := by
  obtain ⟨h0, h1⟩ := h
  have a0 := cnt_le9 s.f0.toNat (by omega)
  have a1 := cnt_le9 (s.f1 + 1).toNat (by omega)
  unfold segB
  simp only [List.length_append]
  omega
theorem flat_le {α : Type} (f : α → List Int) (m : Nat) : ∀ (l : List α), (∀ x ∈ l, (f x).length ≤ m) → (l.flatMap f).length ≤ m * l.length
  | [], _ => by simp
  | x :: r, h => by
    have h1 := flat_le f m r (fun y hy => h y (List.mem_cons_of_mem _ hy))
    have h2 := h x (List.mem_cons_self ..)
    rw [List.flatMap_cons, List.length_append, List.length_cons, Nat.mul_add]
    omega
theorem codesB_le (l : List Int) (h : l.length ≤ 16384) : (codesB l).length ≤ 70000 := by
  have := flat_le wrd 4 l (fun _ _ => Nat.le_refl _)
  have := cnt_le9 l.length (by omega)
  unfold codesB
  rw [List.length_append]
  omega
theorem fixesB_le (l : List S134) (h : l.length ≤ 16384) (hf : ∀ f ∈ l, Fits134 f) : (fixesB l).length ≤ 700000 := by
  have := flat_le fixB 40 l (fun x hx => fixB_le x (hf x hx))
  have := cnt_le9 l.length (by omega)
  unfold fixesB
  rw [List.length_append]
  omega
theorem segsB_le (l : List S131) (h : l.length ≤ 16384) (hf : ∀ s ∈ l, Fits131 s) : (segsB l).length ≤ 700000 := by
  have := flat_le segB 40 l (fun x hx => segB_le x (hf x hx))
  have := cnt_le9 l.length (by omega)
  unfold segsB
  rw [List.length_append]
  omega
theorem impsB_le2 (l : List S93) (h : l.length ≤ 64) (hs : ∀ x ∈ l, x.f0.size ≤ 32) : (impsB l).length ≤ 4000 := by
  have := impsB_le l hs
  have := cnt_le9 l.length (by omega)
  unfold impsB
  rw [List.length_append]
  omega
theorem endB_le (d e y : Int) (hd : d ≤ 16384) (he : e ≤ 16384) (hy : y ≤ 16384) : (endB d e y).length ≤ 30 := by
  have a0 := cnt_le9 d.toNat (by omega)
  have a1 := cnt_le9 e.toNat (by omega)
  have a2 := cnt_le9 y.toNat (by omega)
  unfold endB
  simp only [List.length_append]
  omega
theorem wrd_len (n : Int) : (wrd n).length = 4 := rfl
theorem objB_le (b : ByteArray) (z : Int) (l2 : List S93) (l3 : List Int) (l4 : List S134) (l5 : List S131) (d e y : Int) (F : ObjFits b l2 l3 l4 l5 d e y) : (objB b z l2 l3 l4 l5 d e y).length ≤ 2000000 := by
  have h2 := impsB_le2 l2 F.n2 F.s2
  have h3 := codesB_le l3 F.n3
  have h4 := fixesB_le l4 F.n4 F.s4
  have h5 := segsB_le l5 F.n5 F.s5
  have h6 := endB_le d e y F.d.2 (by have := F.e; omega) F.y.2
  have h7 := cnt_le9 b.size (by have := F.b; omega)
  have h8 := F.b
  unfold objB
  simp only [List.length_append, wrd_len, bytesOf_length]
  omega
theorem allB_fix (f : S134) : AllB (fixB f) := allB_app (allB_cnt _) (allB_app (allB_cnt _) (allB_app (allB_cnt _) (allB_cnt _)))
theorem allB_seg (s : S131) : AllB (segB s) := allB_app (allB_cnt _) (allB_cnt _)
theorem objB_all (b : ByteArray) (z : Int) (l2 : List S93) (l3 : List Int) (l4 : List S134) (l5 : List S131) (d e y : Int) (o2 : ∀ x ∈ l2, Ok93 x) (o3 : ∀ x ∈ l3, 0 ≤ x ∧ x ≤ 4294967295) (hz : 0 ≤ z ∧ z ≤ 4294967295) : AllB (objB b z l2 l3 l4 l5 d e y) :=
  allB_app (allB_wrd (by omega)) (allB_app (allB_app (allB_cnt _) (allB_str _)) (allB_app (allB_wrd hz) (allB_app (allB_app (allB_cnt _) (fun x hx => by
    obtain ⟨y, hm, hy⟩ := List.mem_flatMap.1 hx
    exact allB_app (allB_app (allB_cnt _) (allB_str _)) (allB_wrd (bdu32 (o2 y hm).2)) x hy))
    (allB_app (allB_app (allB_cnt _) (fun x hx => by
      obtain ⟨y, hm, hy⟩ := List.mem_flatMap.1 hx
      exact allB_wrd (o3 y hm) x hy))
    (allB_app (allB_app (allB_cnt _) (allB_map allB_fix _)) (allB_app (allB_app (allB_cnt _) (allB_map allB_seg _)) (allB_app (allB_cnt _) (allB_app (allB_cnt _) (allB_cnt _)))))))))
end Go.Proofs.Ytehdhmhpmkkneaa

/- objfile.many of words, walked where the bytes are as they should be. -/
namespace Go.Proofs.Ytehdhmhpmkkneaa
open Go.RowKit Go.Proofs.YtehdhmhpmkkneaaW.PrintWords Go.Proofs.YtehdhmhpmkkneaaW.PrintMore Go.Proofs.Ytehdhmhpmkkneaa.PAll
theorem info39r : (Try.prog.info? 39).map (fun i => (i.zero, i.size, i.bytes)) = some (some (.int .u32 0), 1, 4) := by kernel_rfl
def ManyPost {α : Type} (K : Kd α) (t : Nat) (w0 w : World) (g : Nat) (l : List α) (s : RS) (e : Ending) (w' : World) : Prop :=
  ∃ v, e = .returned v ∧ Kd.R K t w' w.heap.size (fun k => w.heap.size ≤ k) v l ∧ IsR w0 w' g s ∧ Below w0.heap.size w0 w' ∧ KeepBut w w' g none
theorem dropR {α : Type} (f : α → List Int) (l : List α) (k : Nat) (hk : k < l.length) (rest : List Int) : (l.drop k).flatMap f ++ rest = f l[k] ++ ((l.drop (k + 1)).flatMap f ++ rest) := by
  rw [List.drop_eq_getElem_cons hk, List.flatMap_cons, List.append_assoc]
theorem take_on {α : Type} (l : List α) (k : Nat) (hk : k < l.length) : l.take k ++ [l[k]] = l.take (k + 1) := (List.take_succ_eq_append_getElem hk).symm
set_option maxHeartbeats 4000000 in
set_option maxRecDepth 100000 in
theorem manyU (w0 w : World) (g : Nat) (l : List Int) (rest : List Int) (h : IsR w0 w g ⟨codesB l ++ rest, 0⟩) (hb : Below w0.heap.size w0 w) (hl : l.length ≤ 16384) :
    Calls Try.prog 96 #[.pointer (some ⟨g, 0, none⟩), .func (.func 47) #[.pointer (some ⟨g, 0, none⟩)] #[]] w (ManyPost (Kd.int .u32) 39 w0 w g l ⟨rest, 0⟩) := by
  have M0 : Hid (Mid w0 w w g ⟨codesB l ++ rest, 0⟩) := Lib.hid ⟨h, hb, KeepBut.refl _ _ _⟩
  have HG := Lib.hid M0.out.lt
  have S0 : countS 16384 ⟨codesB l ++ rest, 0⟩ = ((l.length : Int), ⟨l.flatMap wrd ++ rest, 0⟩) := by
    unfold codesB
    rw [List.append_assoc]
    exact countS_cnt 16384 l.length _ (by omega) (by omega)
  have C0 : Hid (∀ W, Mid w0 w W g ⟨codesB l ++ rest, 0⟩ → Calls Try.prog 40 #[.pointer (some ⟨g, 0, none⟩), .int .i64 16384] W fun e W' => e = .returned (.int .i64 (l.length : Int)) ∧ Mid w0 w W' g ⟨l.flatMap wrd ++ rest, 0⟩ ∧ KeepBut W W' g none) := Lib.hid (fun W hm => hm.call (fun hi hb => by have := ccount w0 W g _ 16384 (by omega) hi hb; rwa [S0] at this))
  have CE : Hid (∀ W xs, Mid w0 w W g ⟨xs, 0⟩ → Calls Try.prog 31 #[.pointer (some ⟨g, 0, none⟩)] W fun e W' => e = .returned (.int .i64 0) ∧ Mid w0 w W' g ⟨xs, 0⟩ ∧ KeepBut W W' g none) := Lib.hid (fun W xs hm => hm.call (fun hi hb => cerr w0 W g _ hi hb))
  have CW : Hid (∀ W x xs, Mid w0 w W g ⟨wrd x ++ xs, 0⟩ → Calls Try.prog 47 #[.pointer (some ⟨g, 0, none⟩)] W fun e W' => e = .returned (.int .u32 x) ∧ Mid w0 w W' g ⟨xs, 0⟩ ∧ KeepBut W W' g none) := Lib.hid (fun W x xs hm => hm.call (fun hi hb => by have := cword0 w0 W g _ hi hb; rwa [wordS_wrd] at this))
  clear h hb S0
  go_enter Try.func96, Try.ntmps96
  go_wp2_with fail
  refine (C0.out _ M0.out).mono ?_
  rintro e w1 ⟨rfl, m1, _⟩
  have M1 := Lib.hid m1
  clear m1 M0 C0
  go_wp2
  go_loopw [4, 5, 9] (fun r4 r5 r9 wr => ∃ (k : Nat) (v : Value), k ≤ l.length ∧ r4 = .slice none 0 0 ∧ r5 = v ∧ r9 = .int .i64 k ∧ Hid (Mid w0 w wr g ⟨(l.drop k).flatMap wrd ++ rest, 0⟩) ∧ Hid (Kd.R (Kd.int .u32) 39 wr w.heap.size (fun k => w.heap.size ≤ k) v (l.take k)))
    (fun _ _ r9 _ => l.length - (intOf r9).toNat)
  case atStart => exact ⟨0, _, by omega, rfl, rfl, rfl, by rw [List.drop_zero]; exact M1, Lib.hid (by rw [List.take_zero]; exact Kd.R_nil _ _ _ _ _)⟩
  case round =>
    clear M1
    obtain ⟨k, v, hk, rfl, rfl, rfl, M2, RO⟩ := hrel
    obtain ⟨AO, cO, rfl, _⟩ := Kd.R_reads RO.out
    by_cases hlt : k < l.length
    rotate_left
    · obtain rfl : k = l.length := by omega
      have M3 : Hid (Mid w0 w wr g ⟨rest, 0⟩) := Lib.hid (by have := M2.out; rw [List.drop_eq_nil_of_le (Nat.le_refl _), List.flatMap_nil, List.nil_append] at this; exact this)
      have RO3 : Hid (Kd.R (Kd.int .u32) 39 wr w.heap.size (fun k => w.heap.size ≤ k) (.slice AO (l.take l.length).length cO) l) := Lib.hid (by have := RO.out; rw [List.take_length] at this ⊢; exact this)
      clear M2 RO
      go_wp2
      go_ret
      exact ⟨_, rfl, RO3.out, M3.out.rd, M3.out.low, M3.out.keep⟩
    have M3 : Hid (Mid w0 w wr g ⟨wrd l[k] ++ ((l.drop (k + 1)).flatMap wrd ++ rest), 0⟩) := Lib.hid (by have := M2.out; rw [dropR wrd l k hlt rest] at this; exact this)
    have HTK := Lib.hid (take_on l k hlt)
    have HLT : Hid (k < l.length) := Lib.hid hlt
    generalize l[k] = x at *
    clear M2
    have LK : (l.take k).length = k := by rw [List.length_take]; omega
    rw [LK] at RO ⊢
    go_wp2_with fail
    refine (CW.out _ _ _ M3.out).mono ?_
    rintro e w2 ⟨rfl, m4, k4⟩
    have RO4 := Lib.hid (Kd.R_keep RO.out k4 (fun k hk => by have := HG.out; omega))
    have M4 := Lib.hid m4
    clear m4 k4 M3 RO
    go_wp2_with fail
    refine (CE.out _ _ M4.out).mono ?_
    rintro e w3 ⟨rfl, m5, k5⟩
    have RO5 := Lib.hid (Kd.R_keep RO4.out k5 (fun k hk => by have := HG.out; omega))
    have M5 := Lib.hid m5
    clear m5 k5 M4 RO4
    go_wp2_with (at_builtin; go_must (refine Kd.R_append (Kd.int .u32) w.heap.size rfl _ _ 56 39 (.int .u32 0) 4 rfl Try.underlying56 info39r rfl (by decide) (by decide) (.slice AO k cO) (l.take k) x [.int .u32 x] (fun k => w.heap.size ≤ k) (fun _ => False) rfl rfl rfl (fun _ h => h.elim) (fun k hk => Nat.le_trans M5.out.size hk) RO5.out (Below.refl _ _) M5.out.size (by rw [List.length_take]; omega) ?_; intro v1 we hown hbel hgrow hlie; have ME := Lib.hid (M5.out.grown (fun k e => by have := RO5.out.1 k e; omega) HG.out hgrow); have OE := Lib.hid hown; clear hown hbel hgrow hlie))
    go_roundw
    case rel =>
      refine ⟨k + 1, v1, by omega, rfl, rfl, by go_num, ME, Lib.hid ?_⟩
      have := OE.out
      rw [HTK.out] at this
      exact this
    case measure => simp [intOf]; omega
end Go.Proofs.Ytehdhmhpmkkneaa
