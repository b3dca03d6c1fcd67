/- Layer 13: sums and keys: contracts. -/
import Derived.Test.YtehdhmhpmkkneaaFx
import Derived.Test.YtehdhmhpmkkneaaFr
import Derived.Test.YtehdhmhpmkkneaaPAllx9
namespace Go.Proofs.Ytehdhmhpmkkneaa
open Go.RowKit Go.Proofs.YtehdhmhpmkkneaaW.PrintWords Go.Proofs.Ytehdhmhpmkkneaa.PAll

def fstep (s b : Int) : Int := ((Go.bits .xor .u32 s (b % 4294967296)) * 16777619) % 4294967296
/-- The sum of bytes behind a sum. -/
def fnv (s : Int) (l : List Int) : Int := l.foldl fstep s

theorem more_eq (l : List Int) : ∀ (k : Nat) (s i : Int), finger_More.l0 k s l (l.length : Int) i = pascalineref13_More.l0 k s l i
  | 0, _, _ => rfl
  | k + 1, s, i => by
    simp only [finger_More.l0, pascalineref13_More.l0]
    by_cases h : i < (l.length : Int)
    · by_cases h0 : 0 ≤ i
      · simp only [h, h0, if_true]
        exact more_eq l k _ _
      · simp only [h0, if_false, h, if_true]
    · simp only [h, if_false]

theorem more_fnv (l : List Int) (hl : l.length ≤ 140737488351232) : ∀ (d k i : Nat) (s : Int), i + d = l.length → d < k → pascalineref13_More.l0 k s l (i : Int) = some (fnv s (l.drop i)) := by
  intro d
  induction d with
  | zero =>
    intro k i s hi hk
    obtain ⟨k, rfl⟩ : ∃ m, k = m + 1 := ⟨k - 1, by omega⟩
    rw [pascalineref13_More.l0, if_neg (by omega), List.drop_of_length_le (by omega)]
    rfl
  | succ d ih =>
    intro k i s hi hk
    obtain ⟨k, rfl⟩ : ∃ m, k = m + 1 := ⟨k - 1, by omega⟩
    have hil : i < l.length := by omega
    have e1 : rd l (i : Int) = l[i] := by simp [rd, hil]
    rw [pascalineref13_More.l0, if_pos (by omega), if_pos (by omega), e1, wrap_succ i (by omega), ih k (i + 1) _ (by omega) (by omega), List.drop_eq_getElem_cons hil]
    rfl

theorem refMore {k : Nat} (s : Int) (l : List Int) (hl : l.length ≤ 140737488351232) (hk : l.length < k) : pascalineref13_More.f k s l = some (fnv s l) := by
  have h := more_fnv l hl l.length k 0 s (by omega) hk
  rw [Int.natCast_zero, List.drop_zero] at h
  exact h
theorem finSum {k : Nat} (l : List Int) (hl : l.length ≤ 140737488351232) (hk : l.length < k) : finger_Sum.f k l = some (fnv 2166136261 l) := by
  unfold finger_Sum.f finger_More.f
  rw [more_eq]
  have h := refMore (k := k) 2166136261 l hl hk
  unfold pascalineref13_More.f at h
  rw [h]
  rfl

/-- What a key is of. -/
def keyB (s : ByteArray) (l : List S80) : List Int := (cnt s.size ++ bytesOf s) ++ expsB l
def keyOf80 (s : ByteArray) (l : List S80) : Int := fnv 2166136261 (keyB s l)

theorem refKey (s : ByteArray) (l : List S80) (ok : ∀ x ∈ l, Ok80 x) (hl : l.length < 9223372036854775807) (hT : (keyB s l).length ≤ 1000000000) (hs : ∀ x ∈ l, x.f0.size ≤ 1000000000) (hs0 : s.size ≤ 1000000000) :
    ∃ k, pascalineref13_Key.f k s l = some (keyOf80 s l) := by
  have hT2 : (keyB s l).length = (cnt s.size ++ bytesOf s).length + (expsB l).length := by unfold keyB; rw [List.length_append]
  obtain ⟨k, hk⟩ : ∃ k, k = max (rounds80 l) ((keyB s l).length + 1) := ⟨_, rfl⟩
  have hr := rounds80_ge l
  refine ⟨k, ?_⟩
  unfold pascalineref13_Key.f
  rw [refTextK (by omega) s hs0]
  simp only [Option.bind_some]
  rw [at_rounds (g := fun k => pascalineref13_Bytes.f k l) (fun j => pascalineref13_Bytes.mono l j) (show rounds80 l ≤ k by omega) (refBytes13 l ok hl (by omega) hs)]
  simp only [Option.bind_some]
  rw [if_pos (by omega), refMore _ _ (by show (keyB s l).length ≤ _; omega) (by show (keyB s l).length < _; omega)]
  rfl

theorem rkey (s : ByteArray) (l : List S80) (A : Option Addr) (c : Nat) (w : World) (hr : Kd.C k80 w A l.length l) (hc : l.length ≤ c) (ok : ∀ x ∈ l, Ok80 x) (hT : (keyB s l).length ≤ 1000000000) (hs : ∀ x ∈ l, x.f0.size ≤ 1000000000) (hs0 : s.size ≤ 1000000000) (hl : l.length < 9223372036854775807) :
    Calls Try.prog 25 #[.string s, .slice A l.length c] w fun e w' => e = .returned (.int .u32 (keyOf80 s l)) ∧ Below w.heap.size w w' := by
  obtain ⟨k, h⟩ := refKey s l ok hl hT hs hs0
  exact pascalineref13_Key.calls k s A c l _ w hr hc h

theorem rexps (l : List S80) (A : Option Addr) (c : Nat) (w : World) (hr : Kd.C k80 w A l.length l) (hc : l.length ≤ c) (ok : ∀ x ∈ l, Ok80 x) (hT : (expsB l).length ≤ 1000000000) (hs : ∀ x ∈ l, x.f0.size ≤ 1000000000) (hl : l.length < 9223372036854775807) :
    Calls Try.prog 23 #[.slice A l.length c] w (Got w (expsB l)) :=
  (pascalineref13_Bytes.calls _ A c l _ w hr hc (refBytes13 l ok hl hT hs)).mono fun _ _ ⟨v, he, hr, hb⟩ => ⟨v, he, Kd.own_of_R hr, hb⟩

theorem fsum (B : Nat) (v : Value) (xs : List Int) (w : World) (hm : xs.length ≤ 1000000000) (hx : w.ownsRow B 5 1 v xs.length (nums .u8 xs)) :
    Calls Try.prog 80 #[v] w fun e w' => e = .returned (.int .u32 (fnv 2166136261 xs)) ∧ Drawn0 w w' := by
  obtain ⟨A, c, rfl, hc, hr⟩ := reads_own hx
  exact finger_Sum.calls (xs.length + 1) A c xs _ w hr hc (finSum xs (by omega) (by omega))

theorem fawake (w : World) : Calls Try.prog 20 #[] w fun e w' => e = .returned (.bool true) ∧ Drawn0 w w' :=
  pascalinelaw13_awake.calls 1 true w (by unfold pascalinelaw13_awake.f; rw [finSum [] (by simp) (by simp)]; rfl)

theorem wr_newB (B : Nat) (w : World) (h : B ≤ w.heap.size) : Wr B (w.alloc (.cells #[.slice none 0 0] 26)) w.heap.size (.slice none 0 0) [] :=
  ⟨heap_alloc_new w _, h, own_nil _ _ _ _⟩
theorem wr_new' (w : World) : Wr w.heap.size (w.alloc (.cells #[.slice none 0 0] 26)) w.heap.size (.slice none 0 0) [] :=
  ⟨heap_alloc_new w _, Nat.le_refl _, own_nil _ _ _ _⟩

set_option maxHeartbeats 400000 in
set_option maxRecDepth 100000 in
theorem fkey (s : ByteArray) (l : List S80) (A : Option Addr) (c : Nat) (w : World) (hr : Kd.C k80 w A l.length l) (hok : ∀ x ∈ l, Ok80 x) (hT : (keyB s l).length ≤ 1000000000) (hs0 : s.size ≤ 1000000000) :
    Calls Try.prog 24 #[.string s, .slice A l.length c] w fun e w' => e = .returned (.int .u32 (keyOf80 s l)) ∧ Below w.heap.size w w' := by
  have HR := Lib.hid hr
  have OK := Lib.hid hok
  have hT2 : (keyB s l).length = (cnt s.size ++ bytesOf s).length + (expsB l).length := by unfold keyB; rw [List.length_append]
  have HT : Hid ((cnt s.size ++ bytesOf s).length + (expsB l).length ≤ 1000000000) := Lib.hid (by omega)
  have HS := Lib.hid hs0
  have HW := Lib.hid (wr_new' w)
  clear hr hok hT hs0 hT2
  go_enter Try.func24, Try.ntmps24
  go_wp2_with fail
  refine (wtext w.heap.size w.heap.size _ [] s _ HW.out (by simp) HS.out).mono ?_
  rintro e w1 ⟨rfl, v1, h1, m1⟩
  have H1 := Lib.hid h1
  have M1 := Lib.hid m1
  have ba : Below w.heap.size w (w.alloc (.cells #[.slice none 0 0] 26)) := (Below.refl _ _).alloc (Nat.le_refl _) _
  have B1 := Lib.hid (m1.below ba (by simp) (Nat.le_refl _) (fun k hk => by simp [Value.ownBlock] at hk))
  clear h1 m1 ba
  go_wp2_with fail
  refine (fwrite w w.heap.size v1 _ l A c w1 H1.out B1.out HR.out OK.out (by have := HT.out; simp only [List.nil_append]; omega)).mono ?_
  rintro e w2 ⟨rfl, v2, h2, m2⟩
  have H2 := Lib.hid h2
  have B2 := Lib.hid (m2.below B1.out B1.out.size (Nat.le_refl _) H1.out.base)
  clear h2 m2
  go_wp2_with fail
  refine (wbytes w.heap.size w.heap.size v2 _ w2 H2.out (by have := HT.out; simp only [List.nil_append, List.length_append] at *; omega)).mono ?_
  rintro e w3 ⟨u3, rfl, ho3, b3⟩
  have O3 := Lib.hid ho3
  have B3 := Lib.hid b3
  obtain ⟨A3, n3, c3, rfl⟩ := own_form ho3
  clear ho3 b3
  go_wp2_with fail
  refine (fsum w2.heap.size _ _ w3 (by have := HT.out; simp only [List.nil_append, List.length_append] at *; omega) O3.out).mono ?_
  rintro e w4 ⟨rfl, d4⟩
  have B4 := Lib.hid d4.below
  clear d4
  go_wp2
  go_ret
  have s2 := B2.out.size
  have s3 := B3.out.size
  refine ⟨?_, B2.out.trans ((B3.out.mono s2).trans (B4.out.mono (by omega)))⟩
  have hf : keyOf80 s l = fnv 2166136261 (cnt s.size ++ (bytesOf s ++ expsB l)) := by unfold keyOf80 keyB; rw [List.append_assoc]
  rw [hf]
  rfl

end Go.Proofs.Ytehdhmhpmkkneaa
