/- Layer 12: several readers and writers at once: what one call leaves of the others. -/
import Derived.Test.YtehdhmhpmkkneaaRd
import Derived.Test.YtehdhmhpmkkneaaCp
namespace Go.Proofs.Ytehdhmhpmkkneaa
open Go.RowKit Go.Proofs.YtehdhmhpmkkneaaW.PrintWords Go.Proofs.Ytehdhmhpmkkneaa.PAll

/-- One step: no block that was there has changed but x. -/
abbrev Stp (w w' : World) (x : Nat) : Prop := Mv w w' x (.slice none 0 0) (.slice none 0 0)

theorem Stp.of {w w' : World} {x : Nat} {v' : Value} (h : Mv w w' x (.slice none 0 0) v') : Stp w w' x :=
  ⟨h.os, h.tape, h.output, h.size, h.block, .inl rfl⟩
theorem Stp.low {w w' : World} {x B : Nat} (h : Stp w w' x) (hx : B ≤ x) (hB : B ≤ w.heap.size) : Below B w w' :=
  ⟨h.os, h.tape, h.output, h.size, fun i hi => h.block i (by omega) (by omega) (by simp [Value.ownBlock])⟩
theorem Stp.same {w w' : World} {x : Nat} (h : Stp w w' x) {i : Nat} (hi : i < w.heap.size) (hx : i ≠ x) : w'.heap[i]? = w.heap[i]? := h.block i hi hx (by simp [Value.ownBlock])
theorem Stp.below {w w' : World} {x : Nat} (h : Below w.heap.size w w') : Stp w w' x := Mv.of_below h x _

/-- A block of a reader or of a writer. -/
def Hd (W : World) (x : Nat) : Prop := (∃ v, W.heap[x]? = some (.cells #[v] 26 (0, 0)) ∧ ∀ n, v ≠ .int .u8 n) ∨ ∃ v m n, W.heap[x]? = some (.cells #[v, .int .i64 m, .int .i64 n] 123 (0, 0)) ∧ ∀ n, v ≠ .int .u8 n
theorem Hd.not {W : World} {x : Nat} (h : Hd W x) {j : Nat} {n : Int} (hc : W.cell? ⟨x, j, none⟩ = some (.int .u8 n)) : False := by
  rcases h with ⟨v, hb, hv⟩ | ⟨v, m, q, hb, hv⟩
  · have := blk_cell hb j
    rw [hc] at this
    match j, this with
    | 0, this => injection this with this; exact hv n this.symm
    | j + 1, this => simp at this
  · have := blk_cell hb j
    rw [hc] at this
    match j, this with
    | 0, this => injection this with this; exact hv n this.symm
    | 1, this => simp at this
    | 2, this => simp at this
    | j + 3, this => simp at this

/-- A reader, among others. -/
def RD (W : World) (g : Nat) (s : RS) : Prop := ∃ w0, IsR w0 W g s ∧ Below w0.heap.size w0 W
theorem RD.hd {W : World} {g : Nat} {s : RS} (h : RD W g s) : Hd W g := by
  obtain ⟨_, ⟨_, _, _, _, hb, _⟩, _⟩ := h
  exact .inr ⟨_, _, _, hb, by simp⟩
theorem RD.lt {W : World} {g : Nat} {s : RS} (h : RD W g s) : g < W.heap.size := by
  obtain ⟨_, ⟨_, _, _, _, hb, _⟩, _⟩ := h
  exact blk_lt hb
theorem RD.bytes {W : World} {g : Nat} {s : RS} (h : RD W g s) : AllB s.xs := by obtain ⟨_, h, _⟩ := h; exact h.bytes
theorem RD.len {W : World} {g : Nat} {s : RS} (h : RD W g s) : s.xs.length ≤ 140737488351232 := by obtain ⟨_, h, _⟩ := h; exact h.len
theorem RD.step {W W' : World} {g x : Nat} {s : RS} (h : RD W g s) (hs : Stp W W' x) (hx : x ≠ g) (hd : Hd W x) : RD W' g s := by
  obtain ⟨w0, ⟨f0, p, A, c, hb, hg, hc, hr, ha, ok, hl⟩, hB⟩ := h
  have hlt := blk_lt hb
  have hsz : (({ W' with heap := W'.heap.extract 0 g } : World)).heap.size = g := by
    show (W'.heap.extract 0 g).size = g
    have := hs.size
    simp; omega
  have hbel : Below g ({ W' with heap := W'.heap.extract 0 g } : World) W' := by
    refine ⟨rfl, rfl, rfl, ?_, fun i hi => ?_⟩
    · rw [hsz]; have := hs.size; omega
    · show W'.heap[i]? = (W'.heap.extract 0 g)[i]?
      have := hs.size
      rw [Array.getElem?_extract]
      simp; omega
  refine ⟨{ W' with heap := W'.heap.extract 0 g }, ⟨f0, p, A, c, (hs.same hlt (Ne.symm hx)).trans hb, by rw [hsz]; exact Nat.le_refl _, hc, ⟨hr.1, hr.2.1, fun h0 => ?_⟩, ha, ok, hl⟩, by rw [hsz]; exact hbel⟩
  obtain ⟨ad, e, hcl⟩ := hr.2.2 h0
  refine ⟨ad, e, fun j hj => ?_⟩
  have x0 := hcl j hj
  have hbl : (ad.add j).block < w0.heap.size := World.block_lt_of_cell? _ _ x0
  have x1 := (hB.cell hbl).trans x0
  have e1 := hbel.cell (p := ad.add j) (by omega)
  rw [← e1, ← x1]
  have hsp : (ad.add j).spot = none := World.cell?_spot x0
  have hne : (ad.add j).block ≠ x := by
    intro e2
    refine hd.not (j := (ad.add j).off) (n := f0.getD j 0) ?_
    rw [← x1, ← e2, ← hsp]
  have hlt2 : (ad.add j).block < W.heap.size := World.block_lt_of_cell? _ _ x1
  exact World.cell?_of_block (w := W) (hs.same hlt2 hne)

theorem RD.call {W : World} {g : Nat} {s : RS} {i : Nat} {args : Array Value} {v : Value} {s' : RS} (h : RD W g s)
    (hc : ∀ w0, IsR w0 W g s → Below w0.heap.size w0 W → Calls Try.prog i args W (RPost w0 W g v s')) :
    Calls Try.prog i args W fun e W' => e = .returned v ∧ RD W' g s' ∧ Stp W W' g := by
  obtain ⟨w0, hi, hB⟩ := h
  refine (hc w0 hi hB).mono ?_
  rintro e W' ⟨rfl, i1, b1, k1⟩
  exact ⟨rfl, ⟨w0, i1, b1⟩, b1.os.trans hB.os.symm, b1.tape.trans hB.tape.symm, b1.output.trans hB.output.symm, k1.1, fun i hi hx _ => k1.2 i hi hx (by simp), .inl rfl⟩

/-- A writer, among others: its bytes lie in blocks that were not there in a world of size S. -/
def Wn (S : Nat) (W : World) (h : Nat) (xs : List Int) : Prop := ∃ v, Wr 0 W h v xs ∧ (v.ownBlock = none ∨ ∃ b, v.ownBlock = some b ∧ S ≤ b)
theorem Wn.hd {S : Nat} {W : World} {h : Nat} {xs : List Int} (k : Wn S W h xs) : Hd W h := by
  obtain ⟨v, ⟨hb, _, ho⟩, _⟩ := k
  obtain ⟨A, c, rfl⟩ := own_slice ho
  exact .inl ⟨_, hb, by simp⟩
theorem Wn.step {S : Nat} {W W' : World} {h x : Nat} {xs : List Int} (k : Wn S W h xs) (hs : Stp W W' x) (hx : x ≠ h) (hS : x < S) : Wn S W' h xs := by
  obtain ⟨v, ⟨hb, h0, ho⟩, hv⟩ := k
  have hk : KeepBut W W' x none := ⟨hs.size, fun i hi hx _ => hs.same hi hx⟩
  refine ⟨v, ⟨(hs.same (blk_lt hb) (Ne.symm hx)).trans hb, h0, hk.own ho ?_ ?_⟩, hv⟩
  · rcases hv with e | ⟨b, e, hb⟩
    · rw [e]; simp
    · rw [e]; intro e2; injection e2; omega
  · rcases hv with e | ⟨b, e, hb⟩
    · exact .inl e
    · right; rw [e]; simp

theorem Wn.call {W : World} {h : Nat} {i : Nat} {args : Array Value} {ys : List Int}
    (hc : Calls Try.prog i args W fun e w' => e = .returned (.tuple #[]) ∧ ∃ v', Wr 0 w' h v' ([] ++ ys) ∧ Mv W w' h (.slice none 0 0) v') :
    Calls Try.prog i args W fun e W' => e = .returned (.tuple #[]) ∧ Wn W.heap.size W' h ys ∧ Stp W W' h := by
  refine hc.mono ?_
  rintro e W' ⟨rfl, v', h1, m1⟩
  refine ⟨rfl, ⟨v', h1, ?_⟩, Stp.of m1⟩
  rcases m1.lies with e | e
  · exact .inl (by rw [e]; rfl)
  · exact .inr e
theorem Wr.stp {W W' : World} {h x : Nat} (k : Wr 0 W h (.slice none 0 0) []) (hs : Stp W W' x) (hx : x ≠ h) : Wr 0 W' h (.slice none 0 0) [] :=
  ⟨(hs.same (blk_lt k.1) (Ne.symm hx)).trans k.1, k.2.1, own_nil _ _ _ _⟩

/-- The bytes of a writer are compared with bytes that are read. -/
theorem rsameA {B : Nat} {v : Value} {xs ys : List Int} {A : Option Addr} {n c : Nat} {w : World} (hm : xs.length ≤ 1000000000) (hx : w.ownsRow B 5 1 v xs.length (nums .u8 xs)) (hy : ReadsInt w .u8 A n ys) (hn : n ≤ c) :
    Calls Try.prog 17 #[v, .slice A n c] w fun e w' => e = .returned (.bool (decide (xs = ys))) ∧ Drawn0 w w' := by
  obtain ⟨A1, c1, rfl, hc, hr⟩ := reads_own hx
  obtain rfl := hy.1
  exact pascalineref01_Same.calls (xs.length + 1) A1 c1 xs A c ys _ w hr hc (Kd.C_of_reads (enc := Value.int .u8) (d := (0 : Int)) (h1 := fun _ => rfl) hy) hn (refSame xs ys (by omega))

end Go.Proofs.Ytehdhmhpmkkneaa
