/- The walk of the law CodecBack. -/
import Derived.Test.YtehdhmhpmkkneaaOd
import Derived.Test.YtehdhmhpmkkneaaOn
import Derived.Test.YtehdhmhpmkkneaaRh
import Derived.Deep.RegionHeld3
namespace Go.Proofs.Ytehdhmhpmkkneaa
open Go.RowKit Go.Proofs.YtehdhmhpmkkneaaW.PrintWords Go.Proofs.YtehdhmhpmkkneaaW.PrintMore Go.Proofs.Ytehdhmhpmkkneaa.PAll

theorem allB_cnt : ∀ (d n : Nat), n < 128 ^ d → AllB (cnt n)
  | 0, n, h => by
    rw [cnt_low (by simp at h; omega)]
    intro x hx
    simp at hx h
    omega
  | d + 1, n, h => by
    by_cases hl : n < 128
    · rw [cnt_low hl]
      intro x hx
      simp at hx
      omega
    · rw [cnt_high hl]
      intro x hx
      rcases List.mem_cons.1 hx with e | e
      · omega
      · exact allB_cnt d (n / 128) (by rw [Nat.pow_succ] at h; omega) x e
theorem allB_cnt' (n : Nat) : AllB (cnt n) := allB_cnt n n (Nat.lt_pow_self (by omega))
theorem allB_bytes (s : ByteArray) : AllB (bytesOf s) := by
  intro x hx
  obtain ⟨b, _, rfl⟩ := List.mem_map.1 hx
  have := b.toNat_lt
  omega
theorem AllB.app {a b : List Int} (h : AllB a) (k : AllB b) : AllB (a ++ b) := by
  intro x hx
  rcases List.mem_append.1 hx with e | e
  · exact h x e
  · exact k x e
theorem allB_wrd (v : Int) (h0 : 0 ≤ v) (h1 : v ≤ 4294967295) : AllB (wrd v) := by
  intro x hx
  simp only [wrd, List.mem_cons, List.not_mem_nil, or_false] at hx
  omega
theorem allB_piece (k n : Int) (s : ByteArray) : AllB (piece k n s) := by
  unfold piece
  split
  · intro x hx; simp at hx; omega
  split
  · exact allB_cnt' _
  split
  · exact allB_cnt' _
  split
  · exact allB_wrd _ (by omega) (by omega)
  split
  · exact (allB_cnt' _).app (allB_bytes s)
  · intro x hx; cases hx

theorem beq_bytes (s : ByteArray) : (s == s) = true := by
  obtain ⟨⟨l⟩⟩ := s
  exact beq_self_eq_true (Array.mk l)

abbrev Pc := Int × Int × ByteArray
def pc (p : Pc) : List Int := piece p.1 p.2.1 p.2.2
def pd (ps : List Pc) (k : Nat) : Pc := ps.getD k (0, 0, ByteArray.empty)
theorem allB_flat (l : List Pc) : AllB (l.flatMap pc) := by
  intro x hx
  obtain ⟨p, _, h⟩ := List.mem_flatMap.1 hx
  exact allB_piece _ _ _ x h
theorem flat_take (ps : List Pc) (k : Nat) (h : k < ps.length) : (ps.take (k + 1)).flatMap pc = (ps.take k).flatMap pc ++ pc (pd ps k) := by
  rw [List.take_succ_eq_append_getElem h, List.flatMap_append]
  simp [pd, h]
theorem flat_drop (ps : List Pc) (k : Nat) (h : k < ps.length) : (ps.drop k).flatMap pc = pc (pd ps k) ++ (ps.drop (k + 1)).flatMap pc := by
  rw [List.drop_eq_getElem_cons h, List.flatMap_cons]
  simp [pd, h]
theorem pd_take (ps : List Pc) (m k : Nat) (h : k < m) : pd (ps.take m) k = pd ps k := by
  unfold pd
  simp [List.getD_eq_getElem?_getD, h]

section
attribute [local go_sem] max2_mx max_two
set_option maxHeartbeats 16000000 in
set_option maxRecDepth 100000 in
theorem codecBack_any (A : Option Addr) (n c : Nat) (ps : List Pc) (w : World) (hn : n ≤ 9223372036854775807) (hlen : ps.length = n) (hr : Pcs w A n ps) :
    Calls Try.prog 9 #[.slice A n c] w fun e w' => e = .returned (.bool true) ∧ Below w.heap.size w w' := by
  have HR := Lib.hid hr
  have HN := Lib.hid hn
  have HLEN := Lib.hid hlen
  clear hr hlen
  go_enter Try.func9, Try.ntmps9
  go_wp2_with (go_at_call 15; refine (awake12 _).mono ?_; rintro e w1 ⟨rfl, hb1⟩; have hs1 := hb1.size)
  clear hn
  have HS1 := Lib.hid hs1
  go_loopw [2, 4] (fun r2 r4 wr => ∃ (k : Nat) (v : Value), k ≤ n ∧ k ≤ 60 ∧ r2 = .bool false ∧ r4 = .int .i64 k ∧ Hid (Wr w.heap.size wr w1.heap.size v ((ps.take k).flatMap pc)) ∧ Hid (Below w.heap.size w wr) ∧ Hid (((ps.take k).flatMap pc).length ≤ 1010 * k) ∧ Hid (∀ i, i < k → (pd ps i).2.2.size ≤ 1000))
    (fun _ r4 _ => n - (intOf r4).toNat)
  case atStart => exact ⟨0, _, by omega, by omega, rfl, rfl, Lib.hid (by simpa using wr_new _ _ hs1), Lib.hid (hb1.alloc hs1 _), Lib.hid (by simp), Lib.hid (fun i hi => by omega)⟩
  case round =>
    obtain ⟨k, v, hk, hk6, rfl, rfl, H1, HB, HL, HZ⟩ := hrel
    have hsz : Hid (w.heap.size ≤ wr.heap.size) := Lib.hid HB.out.size
    by_cases hlt : k < n ∧ k < 60
    · obtain ⟨h1, h2⟩ := hlt
      obtain ⟨b, off, rfl, hbl, hc0, hc1, hc2, n0, n1, hs⟩ := HR.out k h1
      have x0 := (HB.out.cell (p := ⟨b, off + k * 3, none⟩) hbl).trans hc0
      have x1 := (HB.out.cell (p := ⟨b, off + k * 3 + 1, none⟩) hbl).trans hc1
      have x2 := (HB.out.cell (p := ⟨b, off + k * 3 + 2, none⟩) hbl).trans hc2
      have EP := Lib.hid (flat_take ps k (by rw [HLEN.out]; exact h1))
      have hpd : pd ps k = ps.getD k (0, 0, ByteArray.empty) := rfl
      rw [← hpd] at x0 x1 x2 n0 n1 hs
      obtain ⟨p, hp⟩ : ∃ p, p = pd ps k := ⟨_, rfl⟩
      rw [← hp] at x0 x1 x2 n0 n1 hs EP
      have HP := Lib.hid hp
      obtain ⟨q, m, s⟩ := p
      simp only at x0 x1 x2 n0 n1 hs
      clear hc0 hc1 hc2 hp hpd
      have M0 := Lib.hid n0
      have M1 := Lib.hid n1
      clear n0 n1
      by_cases h3 : s.size ≤ 1000
      · go_wp2_with fail
        refine (put_any w.heap.size w1.heap.size v (.slice none 0 0) _ [] q m s _ ⟨H1.out, own_nil _ _ _ _, .inl rfl, hsz.out, by have := HL.out; omega, by simp, M0.out, M1.out, h3⟩).mono ?_
        rintro e w2 ⟨v', u', rfl, p1, p2, p3, p4⟩
        have P1 := Lib.hid p1
        have P4 := Lib.hid (HB.out.trans p4)
        clear p1 p2 p3 p4
        go_wp2
        go_roundw
        case rel =>
          refine ⟨k + 1, v', by omega, by omega, rfl, by go_num, Lib.hid (by rw [EP.out]; exact P1.out), P4, Lib.hid ?_, Lib.hid (fun i hi => ?_)⟩
          · have := piece_len q m s M1.out h3
            have := HL.out
            rw [EP.out, List.length_append]
            show _ + (piece q m s).length ≤ _
            omega
          · by_cases e : i = k
            · rw [e, ← HP.out]; exact h3
            · exact HZ.out i (by omega)
        case measure => simp [intOf]; omega
      · go_wp2
        go_ret
        exact ⟨rfl, HB.out⟩
    · have hm : k = min n 60 := by omega
      have HM := Lib.hid hm
      have HX0 : Hid (((ps.take k).drop 0).flatMap pc = (ps.take k).flatMap pc) := Lib.hid rfl
      have HAB := Lib.hid (allB_flat (ps.take k))
      have hX : Hid (((ps.take k).flatMap pc).length ≤ 1000000000) := Lib.hid (by have := HL.out; omega)
      clear HL
      generalize (ps.take k).flatMap pc = X at HX0 HAB hX H1
      by_cases h1 : k < n
      all_goals
        first | (have h2 : 60 ≤ k := by omega) | skip
        clear hlt hm
        go_wp2_with fail
        refine (wbytes w.heap.size w1.heap.size v _ wr H1.out hX.out).mono ?_
        rintro e w3 ⟨u3, rfl, ho3, b3⟩
        obtain ⟨A3, c3, rfl, hr3⟩ := own_reads ho3
        have R3 := Lib.hid hr3
        have B3 := Lib.hid (HB.out.trans (b3.mono hsz.out))
        clear ho3 b3 hr3
        go_wp2_with fail
        refine (creadN A3 _ c3 _ w3 R3.out HAB.out hX.out).mono ?_
        rintro e w4 ⟨g, rfl, r4, g4, b4⟩
        rw [← HX0.out] at r4
        have R4 := Lib.hid r4
        have B4 := Lib.hid (B3.out.trans (b4.mono B3.out.size))
        have G := Lib.hid (Nat.le_trans B3.out.size g4)
        clear r4 b4 g4 R3 B3 HAB H1 HX0 hX HB hsz HS1 hs1 hb1
        have kn : k ≤ n := hk
        have k6 : k ≤ 60 := hk6
        have hmax : k = n ∨ k = 60 := by have := HM.out; omega
        clear h1 hk hk6
        try clear h2
        obtain ⟨wo, rfl⟩ : ∃ wo : World, wo = wr := ⟨_, rfl⟩
        go_wp2
        go_loopw [2, 6, 7, 8] (fun r2 r6 r7 r8 wl => ∃ (j : Nat), j ≤ k ∧ r2 = .bool false ∧ r6 = .int .i64 j ∧ Hid (RD wl g ⟨((ps.take k).drop j).flatMap pc, 0⟩) ∧ Hid (Below w.heap.size w wl))
          (fun _ r6 _ _ _ => n - (intOf r6).toNat)
        case atStart => exact ⟨0, by omega, rfl, rfl, R4, B4⟩
        case round =>
          obtain ⟨j, hj, rfl, rfl, R5, B5⟩ := hrel
          have hB5 : Hid (w.heap.size ≤ wr.heap.size) := Lib.hid B5.out.size
          by_cases hjk : j < k
          · have hjn : j < n := by omega
            have hj6 : j < 60 := by omega
            obtain ⟨b, off, rfl, hbl, hc0, hc1, hc2, n0, n1, hs⟩ := HR.out j hjn
            have x0 := (B5.out.cell (p := ⟨b, off + j * 3, none⟩) hbl).trans hc0
            have x1 := (B5.out.cell (p := ⟨b, off + j * 3 + 1, none⟩) hbl).trans hc1
            have x2 := (B5.out.cell (p := ⟨b, off + j * 3 + 2, none⟩) hbl).trans hc2
            have EP := flat_drop (ps.take k) j (by simp; have := HLEN.out; omega)
            rw [pd_take ps k j hjk] at EP
            have hz := HZ.out j hjk
            have hpd : pd ps j = ps.getD j (0, 0, ByteArray.empty) := rfl
            rw [← hpd] at x0 x1 x2 n0 n1
            have r5 := R5.out
            rw [EP] at r5
            obtain ⟨p, hp⟩ : ∃ p, p = pd ps j := ⟨_, rfl⟩
            rw [← hp] at x0 x1 x2 n0 n1 hz r5
            obtain ⟨RR, hRR⟩ : ∃ l, l = ((ps.take k).drop (j + 1)).flatMap pc := ⟨_, rfl⟩
            rw [← hRR] at r5
            have HRR := Lib.hid hRR
            obtain ⟨q, m, s⟩ := p
            simp only at x0 x1 x2 n0 n1 hz
            have ht := takes_piece q m s RR n1 hz
            have r6 := r5.belowR ((Below.refl _ _).alloc (Nat.le_refl _) (.cells #[.int .i64 q, .int .i64 m, .string s] 28))
            have hng : Hid (wr.heap.size ≠ g) := Lib.hid (by have := r5.lt; omega)
            have B6 := Lib.hid (B5.out.alloc hB5.out (.cells #[.int .i64 q, .int .i64 m, .string s] 28))
            obtain ⟨W, hW⟩ : ∃ W, W = wr.alloc (.cells #[.int .i64 q, .int .i64 m, .string s] 28) := ⟨_, rfl⟩
            obtain ⟨N, hN⟩ : ∃ N, N = wr.heap.size := ⟨_, rfl⟩
            have y0 : W.cell? ⟨N, 0, none⟩ = some (.int .i64 q) := by rw [hW, hN]; simp [go_sem]
            have y1 : W.cell? ⟨N, 1, none⟩ = some (.int .i64 m) := by rw [hW, hN]; simp [go_sem]
            have y2 : W.cell? ⟨N, 2, none⟩ = some (.string s) := by rw [hW, hN]; simp [go_sem]
            rw [← hN] at hng
            rw [← hW] at r6 B6
            have eX : (⟨pc (q, m, s) ++ RR, 0⟩ : RS) = ⟨piece q m s ++ RR, 0⟩ := rfl
            rw [eX] at r6
            generalize (⟨piece q m s ++ RR, 0⟩ : RS) = z at r6 ht
            have R6 := Lib.hid r6
            have HW := Lib.hid hW
            have HNN := Lib.hid hN
            have HTK := Lib.hid ht
            have R6d := Lib.hid (R6.out.belowR (Below.refl _ _).drew)
            have B6d := Lib.hid B6.out.drew
            have B6s := Lib.hid B6.out.size
            clear r5 r6 R5 hc0 hc1 hc2 hp hpd hz EP hRR n0 n1 hs hW hN ht eX
            by_cases q0 : q = 0
            · subst q0
              have e1 : decide ((byteS z).1 = m % 256) = true := congrArg Prod.fst HTK.out
              have e2 : (byteS z).2 = ⟨RR, 0⟩ := congrArg Prod.snd HTK.out
              have e3 := of_decide_eq_true e1
              have E2 := Lib.hid e2
              have E3 := Lib.hid e3
              clear e1 e2 e3 HTK
              have zz : (!(m % 256 == m % 256)) = false := by rw [beq_self_eq_true]; rfl
              go_wp2
              rw [← HW.out, ← HNN.out]
              clear x0 x1 x2
              go_region_held3 (fun w' => w'.cell? ⟨N, 1, none⟩ = some (.int .i64 m)) (first | assumption | go_keep) (first | (go_at_call 46; refine (R6d.out.call (fun w0 hi hb => cbyte w0 _ g _ hi hb)).mono ?_; rw [E2.out, E3.out]; rintro e w5 ⟨rfl, r, st⟩; have R7 := Lib.hid r; have B7 := Lib.hid (B6d.out.trans (st.low (by have := G.out; omega) B6s.out)); have y := cell_mv st y1 hng.out (by simp [Value.ownBlock]); clear r st))
              all_goals go_wp2
              all_goals (rename_i h; first | (exfalso; rw [zz] at h; exact Bool.noConfusion h) | skip)
              all_goals
                go_roundw
                case rel => exact ⟨j + 1, by omega, rfl, by go_num, Lib.hid (by rw [← HRR.out]; exact R7.out), B7⟩
                case measure => simp [intOf]; omega
            by_cases q1 : q = 1
            · subst q1
              have e1 : decide ((countS 9223372036854775807 z).1 = mx m 0) = true := congrArg Prod.fst HTK.out
              have e2 : (countS 9223372036854775807 z).2 = ⟨RR, 0⟩ := congrArg Prod.snd HTK.out
              have e3 := of_decide_eq_true e1
              have E2 := Lib.hid e2
              have E3 := Lib.hid e3
              clear e1 e2 e3 HTK
              have zz : (!(mx m 0 == mx m 0)) = false := by rw [beq_self_eq_true]; rfl
              go_wp2
              rw [← HW.out, ← HNN.out]
              clear x0 x1 x2
              go_region_held3 (fun w' => w'.cell? ⟨N, 1, none⟩ = some (.int .i64 m)) (first | assumption | go_keep) (first | (go_at_call 40; refine (R6d.out.call (fun w0 hi hb => ccount w0 _ g _ 9223372036854775807 (by omega) hi hb)).mono ?_; rw [E2.out, E3.out]; rintro e w5 ⟨rfl, r, st⟩; have R7 := Lib.hid r; have B7 := Lib.hid (B6d.out.trans (st.low (by have := G.out; omega) B6s.out)); have y := cell_mv st y1 hng.out (by simp [Value.ownBlock]); clear r st))
              all_goals go_wp2
              all_goals (rename_i h; first | (exfalso; rw [zz] at h; exact Bool.noConfusion h) | skip)
              all_goals
                go_roundw
                case rel => exact ⟨j + 1, by omega, rfl, by go_num, Lib.hid (by rw [← HRR.out]; exact R7.out), B7⟩
                case measure => simp [intOf]; omega
            by_cases q2 : q = 2
            · subst q2
              have e1 : decide ((numS z).1 = wrap32 m) = true := congrArg Prod.fst HTK.out
              have e2 : (numS z).2 = ⟨RR, 0⟩ := congrArg Prod.snd HTK.out
              have e3 := of_decide_eq_true e1
              have E2 := Lib.hid e2
              have E3 := Lib.hid e3
              clear e1 e2 e3 HTK
              have zz : (!(wrap32 m == wrap32 m)) = false := by rw [beq_self_eq_true]; rfl
              go_wp2
              rw [← HW.out, ← HNN.out]
              clear x0 x1 x2
              go_region_held3 (fun w' => w'.cell? ⟨N, 1, none⟩ = some (.int .i64 m)) (first | assumption | go_keep) (first | (go_at_call 42; refine (R6d.out.call (fun w0 hi hb => cnumber w0 _ g _ hi hb)).mono ?_; rw [E2.out, E3.out]; rintro e w5 ⟨rfl, r, st⟩; have R7 := Lib.hid r; have B7 := Lib.hid (B6d.out.trans (st.low (by have := G.out; omega) B6s.out)); have y := cell_mv st y1 hng.out (by simp [Value.ownBlock]); clear r st))
              all_goals go_wp2
              all_goals (rename_i h; first | (exfalso; rw [zz] at h; exact Bool.noConfusion h) | skip)
              all_goals
                go_roundw
                case rel => exact ⟨j + 1, by omega, rfl, by go_num, Lib.hid (by rw [← HRR.out]; exact R7.out), B7⟩
                case measure => simp [intOf]; omega
            by_cases q3 : q = 3
            · subst q3
              have e1 : decide ((wordS z).1 = m % 4294967296) = true := congrArg Prod.fst HTK.out
              have e2 : (wordS z).2 = ⟨RR, 0⟩ := congrArg Prod.snd HTK.out
              have e3 := of_decide_eq_true e1
              have E2 := Lib.hid e2
              have E3 := Lib.hid e3
              clear e1 e2 e3 HTK
              have zz : (!(m % 4294967296 == m % 4294967296)) = false := by rw [beq_self_eq_true]; rfl
              go_wp2
              rw [← HW.out, ← HNN.out]
              clear x0 x1 x2
              go_region_held3 (fun w' => w'.cell? ⟨N, 1, none⟩ = some (.int .i64 m)) (first | assumption | go_keep) (first | (go_at_call 47; refine (cword _ g _ R6d.out).mono ?_; rw [E2.out, E3.out]; rintro e w5 ⟨rfl, r, st⟩; have R7 := Lib.hid r; have B7 := Lib.hid (B6d.out.trans (st.low (by have := G.out; omega) B6s.out)); have y := cell_mv st y1 hng.out (by simp [Value.ownBlock]); clear r st))
              all_goals go_wp2
              all_goals (rename_i h; first | (exfalso; rw [zz] at h; exact Bool.noConfusion h) | skip)
              all_goals
                go_roundw
                case rel => exact ⟨j + 1, by omega, rfl, by go_num, Lib.hid (by rw [← HRR.out]; exact R7.out), B7⟩
                case measure => simp [intOf]; omega
            by_cases q4 : q = 4
            · subst q4
              have e1 : decide ((textS 1000 z).1 = s) = true := congrArg Prod.fst HTK.out
              have e2 : (textS 1000 z).2 = ⟨RR, 0⟩ := congrArg Prod.snd HTK.out
              have e3 := of_decide_eq_true e1
              have E2 := Lib.hid e2
              have E3 := Lib.hid e3
              clear e1 e2 e3 HTK
              have zz : (!(s == s)) = false := by rw [show (s == s) = true from beq_bytes s]; rfl
              go_wp2
              rw [← HW.out, ← HNN.out]
              clear x0 x1 x2
              go_region_held3 (fun w' => w'.cell? ⟨N, 2, none⟩ = some (.string s)) (first | assumption | go_keep) (first | (go_at_call 44; refine (R6d.out.call (fun w0 hi hb => ctext w0 _ g _ 1000 (by omega) hi hb)).mono ?_; rw [E2.out, E3.out]; rintro e w5 ⟨rfl, r, st⟩; have R7 := Lib.hid r; have B7 := Lib.hid (B6d.out.trans (st.low (by have := G.out; omega) B6s.out)); have y := cell_mv st y2 hng.out (by simp [Value.ownBlock]); clear r st))
              all_goals go_wp2
              all_goals (rename_i h; first | (exfalso; rw [zz] at h; exact Bool.noConfusion h) | skip)
              all_goals
                go_roundw
                case rel => exact ⟨j + 1, by omega, rfl, by go_num, Lib.hid (by rw [← HRR.out]; exact R7.out), B7⟩
                case measure => simp [intOf]; omega
            have e0 := HTK.out
            unfold takes at e0
            rw [if_neg q0, if_neg q1, if_neg q2, if_neg q3, if_neg q4] at e0
            have e1 : z = ⟨RR, 0⟩ := congrArg Prod.snd e0
            clear e0
            have E2 := Lib.hid e1
            clear e1 HTK
            have z0 : (q == 0) = false := beq_eq_false_iff_ne.2 q0
            have z1 : (q == 1) = false := beq_eq_false_iff_ne.2 q1
            have z2 : (q == 2) = false := beq_eq_false_iff_ne.2 q2
            have z3 : (q == 3) = false := beq_eq_false_iff_ne.2 q3
            have z4 : (q == 4) = false := beq_eq_false_iff_ne.2 q4
            go_wp2
            rw [← HW.out]
            go_roundw
            case rel => exact ⟨j + 1, by omega, rfl, by go_num, Lib.hid (by rw [← HRR.out]; have := R6.out; rwa [E2.out] at this), B6⟩
            case measure => simp [intOf]; omega
          · obtain rfl : j = k := by omega
            have e5 : ((ps.take j).drop j).flatMap pc = [] := by simp
            rw [e5] at R5
            have hj6 : ¬ (j < n) ∨ ¬ (j < 60) := by omega
            clear e5
            rcases hj6 with h1 | h1
            · go_wp2_with fail
              refine (R5.out.call (fun w0 hi hb => cend w0 _ g _ hi hb)).mono ?_
              rintro e w6 ⟨rfl, r, st⟩
              have B7 := Lib.hid (B5.out.trans (st.low (by have := G.out; omega) hB5.out))
              have hx : (endS ⟨[], 0⟩).err = 0 := rfl
              rw [hx]
              clear r st
              go_wp2
              go_ret
              exact ⟨rfl, B7.out⟩
            · by_cases h2 : j < n
              all_goals
                go_wp2_with fail
                refine (R5.out.call (fun w0 hi hb => cend w0 _ g _ hi hb)).mono ?_
                rintro e w6 ⟨rfl, r, st⟩
                have B7 := Lib.hid (B5.out.trans (st.low (by have := G.out; omega) hB5.out))
                have hx : (endS ⟨[], 0⟩).err = 0 := rfl
                rw [hx]
                clear r st
                go_wp2
                go_ret
                exact ⟨rfl, B7.out⟩

end
end Go.Proofs.Ytehdhmhpmkkneaa
