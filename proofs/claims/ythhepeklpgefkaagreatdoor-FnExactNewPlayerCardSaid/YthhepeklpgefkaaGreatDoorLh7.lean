/- The laws' helpers that mark voices and players. -/
import Derived.Test.YthhepeklpgefkaaGreatDoorLh5
import Derived.Test.YthhepeklpgefkaaGreatDoorLk2
set_option linter.unusedVariables false
set_option linter.unusedSimpArgs false
namespace Go.Sx
open Go.Proofs
set_option maxRecDepth 100000
set_option maxHeartbeats 2000000

/-- An array whose first j floats are marked. -/
def mkA (xs : List Nat) (k j : Nat) : List Nat := (List.range j).map (fun i => FloatKind.f32.nearest ((k + i : Nat) : Int)) ++ xs.drop j
def mkQ (k n : Nat) : List Nat := (List.range n).map fun i => FloatKind.f32.nearest ((k + i : Nat) : Int)
theorem mkA_zero (xs : List Nat) (k : Nat) : mkA xs k 0 = xs := by simp [mkA]
theorem mkA_all {xs : List Nat} {n : Nat} (k : Nat) (h : xs.length = n) : mkA xs k n = mkQ k n := by
  unfold mkA mkQ
  rw [List.drop_of_length_le (by omega), List.append_nil]
theorem mkA_set {xs : List Nat} {j : Nat} (k : Nat) (h : j < xs.length) : (mkA xs k j).set j (FloatKind.f32.nearest ((k + j : Nat) : Int)) = mkA xs k (j + 1) := by
  unfold mkA
  rw [List.set_append_right _ _ (by simp)]
  simp only [List.length_map, List.length_range, Nat.sub_self]
  rw [List.drop_eq_getElem_cons h, List.set_cons_zero, List.range_succ, List.map_append, List.append_assoc]
  rfl
theorem mkQ_len (k n : Nat) : (mkQ k n).length = n := by simp [mkQ]
theorem mkQ_get {k n j : Nat} (h : j < n) : (mkQ k n)[j]! = FloatKind.f32.nearest ((k + j : Nat) : Int) := by
  rw [getElem!_pos _ j (by rw [mkQ_len]; exact h)]
  simp [mkQ]
abbrev SJ := Option Addr × Nat × Nat × Int × Int × Int
section
variable {h0 h : Heap}
/-- A loop that marks an array within a voice. -/
theorem markA {B : (SJ → Heap → Prop) → SJ → Heap → Prop} {n off : Nat} {get : GVoice → List Nat} {put : GVoice → List Nat → GVoice} (Fc : Foc rVoice (rArr n (rF .f32)) off get put) (hpg : ∀ v, put v (get v) = v) (hpp : ∀ a x y, put (put a x) y = put a y) (hg : ∀ a x, get (put a x) = x)
    {a0 : Addr} {l c i k : Nat} {F : Fr} {L : List Blk} {v : GVoice} (P : Pt rVoice h0 h (a0.add (i * 45)) F L v) (hk : k + n ≤ 2147483648)
    (step : ∀ (N : SJ → Heap → Prop) (j : Nat) (hh : Heap), j < n → (ST1 hh ((a0.add (i * 45)).add (off + j * 1)) (.float .f32 (FloatKind.f32.nearest ((k + j : Nat) : Int))) fun h' => N (some a0, l, c, ((k + j + 1 : Nat) : Int), (i : Int), ((j + 1 : Nat) : Int)) h') → B N (some a0, l, c, ((k + j : Nat) : Int), (i : Int), (j : Int)) hh)
    (last : ∀ (N : SJ → Heap → Prop) (hh : Heap), Pt rVoice h0 hh (a0.add (i * 45)) F L (put v (mkQ k n)) → B N (some a0, l, c, ((k + n : Nat) : Int), (i : Int), (n : Int)) hh) : LOOP B (some a0, l, c, (k : Int), (i : Int), 0) h := by
  have hl : (get v).length = n := (P.rd.foc Fc).len
  refine loop (fun x hh => ∃ j : Nat, x = (some a0, l, c, ((k + j : Nat) : Int), (i : Int), (j : Int)) ∧ j ≤ n ∧ Pt rVoice h0 hh (a0.add (i * 45)) F L (put v (mkA (get v) k j))) (fun x => ((n : Int) - x.2.2.2.2.2).toNat) ⟨0, rfl, by omega, by rw [mkA_zero, hpg]; exact P⟩ ?_
  rintro x hh ⟨j, rfl, hj, P⟩
  by_cases e : j = n
  · subst e
    rw [mkA_all k hl] at P
    exact last _ hh P
  · refine step _ j hh (by omega) ?_
    refine P.st (B' := []) ((Fc.trans (Foc.arr (rF .f32) j (by omega))).at rfl) rfl ⟨rfl, _, rfl, fw_nearest .f32 _⟩ fun h' P => ?_
    have P : Pt rVoice h0 h' (a0.add (i * 45)) F L (put (put v (mkA (get v) k j)) ((get (put v (mkA (get v) k j))).set j (FloatKind.f32.nearest ((k + j : Nat) : Int)))) := P
    rw [hg, hpp, mkA_set k (by omega)] at P
    exact ⟨⟨j + 1, rfl, by omega, P⟩, by show ((n : Int) - ((j + 1 : Nat) : Int)).toNat < ((n : Int) - (j : Int)).toNat; omega⟩
/-- A loop that looks whether an array within a voice is as it was marked. -/
theorem heldA {P1 : Prop} {B : (SJ → Heap → Prop) → SJ → Heap → Prop} {n off : Nat} {get : GVoice → List Nat} {put : GVoice → List Nat → GVoice} (Fc : Foc rVoice (rArr n (rF .f32)) off get put)
    {a0 : Addr} {l c i k : Nat} {v : GVoice} (P : RdP rVoice h (a0.add (i * 45)) v) (hm : get v = mkQ k n) (hk : k + n ≤ 2147483648)
    (step : ∀ (N : SJ → Heap → Prop) (j : Nat), j < n → (oF .f32 (cell h ((a0.add (i * 45)).add (off + j * 1))) fun r => BIF (FloatKind.f32.format.order r (FloatKind.f32.nearest ((k + j : Nat) : Int)) != some .eq) P1 (N (some a0, l, c, ((k + j + 1 : Nat) : Int), (i : Int), ((j + 1 : Nat) : Int)) h)) → B N (some a0, l, c, ((k + j : Nat) : Int), (i : Int), (j : Int)) h)
    (last : ∀ (N : SJ → Heap → Prop), B N (some a0, l, c, ((k + n : Nat) : Int), (i : Int), (n : Int)) h) : LOOP B (some a0, l, c, (k : Int), (i : Int), 0) h := by
  refine loop (fun x hh => ∃ j : Nat, x = (some a0, l, c, ((k + j : Nat) : Int), (i : Int), (j : Int)) ∧ j ≤ n ∧ hh = h) (fun x => ((n : Int) - x.2.2.2.2.2).toNat) ⟨0, rfl, by omega, rfl⟩ ?_
  rintro x hh ⟨j, rfl, hj, rfl⟩
  by_cases e : j = n
  · subst e
    exact last _
  · refine step _ j (by omega) ?_
    have Fj := (Fc.trans (Foc.arr (rF .f32) j (by omega))).at (off' := off + j * 1) rfl
    obtain ⟨u, e1, y, e2, hy⟩ := P.cell Fj rfl
    obtain rfl : u = .float .f32 y := by simpa using e2
    have hy : FW .f32 y (get v)[j]! := hy
    rw [hm, mkQ_get (by omega)] at hy
    obtain rfl := hy.eq (nearest_not_nan _ _)
    refine o_f e1 (br_f (order_eq (nearest_not_nan _ _)) ⟨⟨j + 1, rfl, by omega, rfl⟩, by show ((n : Int) - ((j + 1 : Nat) : Int)).toNat < ((n : Int) - (j : Int)).toNat; omega⟩)
def gB80 (v : GVoice) (k : Nat) : GVoice :=
  let v := { v with Bow := { v.Bow with Damp := { v.Bow.Damp with S := mkQ k 2 } } }
  let v := { v with Bow := { v.Bow with Slope := FloatKind.f32.nearest ((k + 2 : Nat) : Int) } }
  let v := { v with Bow := { v.Bow with Loss := FloatKind.f32.nearest ((k + 3 : Nat) : Int) } }
  v
def gB75 (v : GVoice) (k : Nat) : GVoice :=
  let v := { v with Bow := { v.Bow with Damp := { v.Bow.Damp with C := mkQ k 3 } } }
  gB80 v (k + 3)
def gB54 (v : GVoice) (k : Nat) : GVoice :=
  let v := { v with Pipe := { v.Pipe with End := { v.Pipe.End with S := mkQ k 2 } } }
  let v := { v with Pipe := { v.Pipe with Open := (Int.tmod ((k + 2 : Nat) : Int) 3 == 0) } }
  let v := { v with Pipe := { v.Pipe with Loss := FloatKind.f32.nearest ((k + 3 : Nat) : Int) } }
  let v := { v with Pipe := { v.Pipe with Rest := FloatKind.f32.nearest ((k + 4 : Nat) : Int) } }
  let v := { v with Pipe := { v.Pipe with Slope := FloatKind.f32.nearest ((k + 5 : Nat) : Int) } }
  let k1 := k + 6 + n_Float32S v.Bow.Neck.Samples
  let v := { v with Bow := { v.Bow with Neck := { v.Bow.Neck with Samples := mk_Float32S v.Bow.Neck.Samples (k + 6) } } }
  let v := { v with Bow := { v.Bow with Neck := { v.Bow.Neck with At := ((k1 : Nat) : Int) } } }
  let k2 := k1 + 1 + n_Float32S v.Bow.Bridge.Samples
  let v := { v with Bow := { v.Bow with Bridge := { v.Bow.Bridge with Samples := mk_Float32S v.Bow.Bridge.Samples (k1 + 1) } } }
  let v := { v with Bow := { v.Bow with Bridge := { v.Bow.Bridge with At := ((k2 : Nat) : Int) } } }
  let v := { v with Bow := { v.Bow with Damp := { v.Bow.Damp with Kind := ((k2 + 1 : Nat) : Int) } } }
  gB75 v (k2 + 2)
def gB49 (v : GVoice) (k : Nat) : GVoice :=
  let v := { v with Pipe := { v.Pipe with End := { v.Pipe.End with C := mkQ k 3 } } }
  gB54 v (k + 3)
def gB37 (v : GVoice) (k : Nat) : GVoice :=
  let v := { v with String := { v.String with Damp := { v.String.Damp with S := mkQ k 2 } } }
  let v := { v with String := { v.String with Loss := FloatKind.f32.nearest ((k + 2 : Nat) : Int) } }
  let k1 := k + 3 + n_RingS v.Pipe.Right
  let v := { v with Pipe := { v.Pipe with Right := mk_RingS v.Pipe.Right (k + 3) } }
  let k2 := k1 + n_RingS v.Pipe.Left
  let v := { v with Pipe := { v.Pipe with Left := mk_RingS v.Pipe.Left (k1) } }
  let k3 := k2 + n_Float32S v.Pipe.Scatter
  let v := { v with Pipe := { v.Pipe with Scatter := mk_Float32S v.Pipe.Scatter (k2) } }
  let v := { v with Pipe := { v.Pipe with End := { v.Pipe.End with Kind := ((k3 : Nat) : Int) } } }
  gB49 v (k3 + 1)
def gB32 (v : GVoice) (k : Nat) : GVoice :=
  let v := { v with String := { v.String with Damp := { v.String.Damp with C := mkQ k 3 } } }
  gB37 v (k + 3)
def gB25 (v : GVoice) (k : Nat) : GVoice :=
  let v := { v with String := { v.String with Tune := { v.String.Tune with S := mkQ k 2 } } }
  let v := { v with String := { v.String with Damp := { v.String.Damp with Kind := ((k + 2 : Nat) : Int) } } }
  gB32 v (k + 3)
def gB20 (v : GVoice) (k : Nat) : GVoice :=
  let v := { v with String := { v.String with Tune := { v.String.Tune with C := mkQ k 3 } } }
  gB25 v (k + 3)
def mkE_Voice (v : GVoice) (k : Nat) : GVoice :=
  let v := { v with Note := ((k : Nat) : Int) }
  let v := { v with Instrument := ((k + 1 : Nat) : Int) }
  let v := { v with Born := ((k + 2 : Nat) : Int) }
  let v := { v with Gone := (Int.tmod ((k + 3 : Nat) : Int) 3 == 0) }
  let v := { v with Drive := FloatKind.f32.nearest ((k + 4 : Nat) : Int) }
  let k1 := k + 5 + n_Float32S v.String.Loop.Samples
  let v := { v with String := { v.String with Loop := { v.String.Loop with Samples := mk_Float32S v.String.Loop.Samples (k + 5) } } }
  let v := { v with String := { v.String with Loop := { v.String.Loop with At := ((k1 : Nat) : Int) } } }
  let v := { v with String := { v.String with Tune := { v.String.Tune with Kind := ((k1 + 1 : Nat) : Int) } } }
  gB20 v (k1 + 2)
theorem st_add {q : Addr} {a b : Nat} {v : Value} {K : Heap → Prop} (H : ST1 h (q.add (a + b)) v K) : ST1 h ((q.add a).add b) v K := by rw [add_add']; exact H
theorem cell_add {q : Addr} {a b : Nat} {v : Option Value} (e : cell h (q.add (a + b)) = v) : cell h ((q.add a).add b) = v := by rw [add_add']; exact e
theorem mark_B80 {N2 : (Option Addr × Nat × Nat × Int × Int) → Heap → Prop} {Post : Value → Heap → Prop} {a0 : Addr} {l c i k : Nat} {F : Fr} {L : List Blk} {v : GVoice} (hi : i < l) (hl : l ≤ 1073741824) (P : Pt rVoice h0 h (a0.add (i * 45)) F L v) (hk : k + (4) ≤ 1073741824)
    (H : ∀ h', Pt rVoice h0 h' (a0.add (i * 45)) F L (gB80 v k) → N2 (some a0, l, c, ((k + (4) : Nat) : Int), ((i + 1 : Nat) : Int)) h') : LOOP (laws_markVoiceS.B80 N2 Post) (some a0, l, c, (k : Int), (i : Int), 0) h := by
  refine markA (n := 2) (off := 41) ((foc_Voice_Bow.trans (foc_Bow_Damp.trans foc_Filter_S)).at rfl) (fun _ => rfl) (fun _ _ _ => rfl) (fun _ _ => rfl) P (by omega) (fun N j hh hj Hs => ?_) fun N hh P => ?_
  · refine brd (fun hc => idxs (by omega) (by omega) (idx (by omega) (by omega) ?_)) fun hc => by omega
    rw [wrap64_succ (by omega), wrap64_succ (by omega)]
    refine st_add (st_add (st_add ?_))
    simp only [Int.toNat_natCast]
    rw [show 33 + (4 + (4 + j * 1)) = 41 + j * 1 by omega]
    exact Hs
  · unfold laws_markVoiceS.B80
    refine brd (fun hc => by omega) fun hc => ?_
    have w0 : IntKind.i64.wrap (((k + 2 : Nat) : Int) + 1) = ((k + 2 + 1 : Nat) : Int) := wrap64_succ (by omega)
    have w1 : IntKind.i64.wrap (((k + 2 + 1 : Nat) : Int) + 1) = ((k + 2 + 2 : Nat) : Int) := wrap64_succ (by omega)
    simp only [w0, w1]
    clear w0 w1
    refine idxs (by omega) (by omega) (st_add (P.stF (off := 43) (fw_nearest _ _) fun h' P => ?_))
    refine idxs (by omega) (by omega) (st_add (P.stF (off := 44) (fw_nearest _ _) fun h' P => ?_))
    rw [wrap64_succ (by omega)]
    have := H _ P
    exact this
theorem mark_B75 {N2 : (Option Addr × Nat × Nat × Int × Int) → Heap → Prop} {Post : Value → Heap → Prop} {a0 : Addr} {l c i k : Nat} {F : Fr} {L : List Blk} {v : GVoice} (hi : i < l) (hl : l ≤ 1073741824) (P : Pt rVoice h0 h (a0.add (i * 45)) F L v) (hk : k + (7) ≤ 1073741824)
    (H : ∀ h', Pt rVoice h0 h' (a0.add (i * 45)) F L (gB75 v k) → N2 (some a0, l, c, ((k + (7) : Nat) : Int), ((i + 1 : Nat) : Int)) h') : LOOP (laws_markVoiceS.B75 N2 Post) (some a0, l, c, (k : Int), (i : Int), 0) h := by
  refine markA (n := 3) (off := 38) ((foc_Voice_Bow.trans (foc_Bow_Damp.trans foc_Filter_C)).at rfl) (fun _ => rfl) (fun _ _ _ => rfl) (fun _ _ => rfl) P (by omega) (fun N j hh hj Hs => ?_) fun N hh P => ?_
  · refine brd (fun hc => idxs (by omega) (by omega) (idx (by omega) (by omega) ?_)) fun hc => by omega
    rw [wrap64_succ (by omega), wrap64_succ (by omega)]
    refine st_add (st_add (st_add ?_))
    simp only [Int.toNat_natCast]
    rw [show 33 + (4 + (1 + j * 1)) = 38 + j * 1 by omega]
    exact Hs
  · unfold laws_markVoiceS.B75
    refine brd (fun hc => by omega) fun hc => ?_
    have Hn := mark_B80 (N2 := N2) (Post := Post) (c := c) (k := k + 3) hi hl P  (by (try dsimp only); omega) fun h' P => ?_
    · exact Hn
    · have := H h' P
      rw [show k + (7) = k + 3 + (4) by omega] at this
      exact this
theorem mark_B54 {N2 : (Option Addr × Nat × Nat × Int × Int) → Heap → Prop} {Post : Value → Heap → Prop} {a0 : Addr} {l c i k : Nat} {F : Fr} {L : List Blk} {v : GVoice} (hi : i < l) (hl : l ≤ 1073741824) (P : Pt rVoice h0 h (a0.add (i * 45)) F L v) (s0 : v.Bow.Neck.Samples.length ≤ 1048576) (s1 : v.Bow.Bridge.Samples.length ≤ 1048576) (hk : k + (16 + v.Bow.Neck.Samples.length + v.Bow.Bridge.Samples.length) ≤ 1073741824)
    (H : ∀ h', Pt rVoice h0 h' (a0.add (i * 45)) F L (gB54 v k) → N2 (some a0, l, c, ((k + (16 + v.Bow.Neck.Samples.length + v.Bow.Bridge.Samples.length) : Nat) : Int), ((i + 1 : Nat) : Int)) h') : LOOP (laws_markVoiceS.B54 N2 Post) (some a0, l, c, (k : Int), (i : Int), 0) h := by
  refine markA (n := 2) (off := 27) ((foc_Voice_Pipe.trans (foc_Pipe_End.trans foc_Filter_S)).at rfl) (fun _ => rfl) (fun _ _ _ => rfl) (fun _ _ => rfl) P (by omega) (fun N j hh hj Hs => ?_) fun N hh P => ?_
  · refine brd (fun hc => idxs (by omega) (by omega) (idx (by omega) (by omega) ?_)) fun hc => by omega
    rw [wrap64_succ (by omega), wrap64_succ (by omega)]
    refine st_add (st_add (st_add ?_))
    simp only [Int.toNat_natCast]
    rw [show 20 + (3 + (4 + j * 1)) = 27 + j * 1 by omega]
    exact Hs
  · unfold laws_markVoiceS.B54
    refine brd (fun hc => by omega) fun hc => ?_
    have w0 : IntKind.i64.wrap (((k + 2 : Nat) : Int) + 1) = ((k + 2 + 1 : Nat) : Int) := wrap64_succ (by omega)
    have w1 : IntKind.i64.wrap (((k + 2 + 1 : Nat) : Int) + 1) = ((k + 2 + 2 : Nat) : Int) := wrap64_succ (by omega)
    have w2 : IntKind.i64.wrap (((k + 2 + 2 : Nat) : Int) + 1) = ((k + 2 + 3 : Nat) : Int) := wrap64_succ (by omega)
    have w3 : IntKind.i64.wrap (((k + 2 + 3 : Nat) : Int) + 1) = ((k + 2 + 4 : Nat) : Int) := wrap64_succ (by omega)
    simp only [w0, w1, w2, w3]
    clear w0 w1 w2 w3
    refine nz (by decide) (idxs (by omega) (by omega) (st_add (P.stB (off := 29) fun h' P => ?_)))
    refine idxs (by omega) (by omega) (st_add (P.stF (off := 30) (fw_nearest _ _) fun h' P => ?_))
    refine idxs (by omega) (by omega) (st_add (P.stF (off := 31) (fw_nearest _ _) fun h' P => ?_))
    refine idxs (by omega) (by omega) (st_add (P.stF (off := 32) (fw_nearest _ _) fun h' P => ?_))
    refine idxs (by omega) (by omega) ?_
    obtain ⟨b2, l2, c2, Bs, Nn, eb, Ms, Os, hs2, back⟩ := P.slg lf_Voice_33.f
    refine o_l eb ((mark_Float32S_c Os Ms (k + 2 + 4) (by dsimp only [w_Float32S]; omega) (by dsimp only [n_Float32S]; omega)).mono ?_)
    rintro _ h' ⟨rfl, B', O', M'⟩
    have P := (back _ _ _ _ O' M').1
    clear back Os Ms hs2 eb O' M'
    refine as_i ?_
    dsimp only [n_Float32S] at P ⊢
    have w0 : IntKind.i64.wrap (((k + 2 + 4 + v.Bow.Neck.Samples.length : Nat) : Int) + 1) = ((k + 2 + 4 + v.Bow.Neck.Samples.length + 1 : Nat) : Int) := wrap64_succ (by omega)
    simp only [w0]
    clear w0
    refine idxs (by omega) (by omega) (st_add (P.stI (off := 34) fun h' P => ?_))
    refine idxs (by omega) (by omega) ?_
    obtain ⟨b2, l2, c2, Bs, Nn, eb, Ms, Os, hs2, back⟩ := P.slg lf_Voice_35.f
    refine o_l (cell_add eb) ((mark_Float32S_c Os Ms (k + 2 + 4 + v.Bow.Neck.Samples.length + 1) (by dsimp only [w_Float32S]; omega) (by dsimp only [n_Float32S]; omega)).mono ?_)
    rintro _ h' ⟨rfl, B', O', M'⟩
    have P := (back _ _ _ _ O' M').1
    clear back Os Ms hs2 eb O' M'
    refine as_i ?_
    dsimp only [n_Float32S] at P ⊢
    have w0 : IntKind.i64.wrap (((k + 2 + 4 + v.Bow.Neck.Samples.length + 1 + v.Bow.Bridge.Samples.length : Nat) : Int) + 1) = ((k + 2 + 4 + v.Bow.Neck.Samples.length + 1 + v.Bow.Bridge.Samples.length + 1 : Nat) : Int) := wrap64_succ (by omega)
    have w1 : IntKind.i64.wrap (((k + 2 + 4 + v.Bow.Neck.Samples.length + 1 + v.Bow.Bridge.Samples.length + 1 : Nat) : Int) + 1) = ((k + 2 + 4 + v.Bow.Neck.Samples.length + 1 + v.Bow.Bridge.Samples.length + 2 : Nat) : Int) := wrap64_succ (by omega)
    simp only [w0, w1]
    clear w0 w1
    refine idxs (by omega) (by omega) (st_add (st_add (P.stI (off := 36) fun h' P => ?_)))
    refine idxs (by omega) (by omega) (st_add (P.stI (off := 37) fun h' P => ?_))
    have Hn := mark_B75 (N2 := N2) (Post := Post) (c := c) (k := k + 2 + 4 + v.Bow.Neck.Samples.length + 1 + v.Bow.Bridge.Samples.length + 2) hi hl P  (by (try dsimp only); omega) fun h' P => ?_
    · exact Hn
    · have := H h' P
      rw [show k + (16 + v.Bow.Neck.Samples.length + v.Bow.Bridge.Samples.length) = k + 2 + 4 + v.Bow.Neck.Samples.length + 1 + v.Bow.Bridge.Samples.length + 2 + (7) by omega] at this
      exact this
theorem mark_B49 {N2 : (Option Addr × Nat × Nat × Int × Int) → Heap → Prop} {Post : Value → Heap → Prop} {a0 : Addr} {l c i k : Nat} {F : Fr} {L : List Blk} {v : GVoice} (hi : i < l) (hl : l ≤ 1073741824) (P : Pt rVoice h0 h (a0.add (i * 45)) F L v) (s0 : v.Bow.Neck.Samples.length ≤ 1048576) (s1 : v.Bow.Bridge.Samples.length ≤ 1048576) (hk : k + (19 + v.Bow.Neck.Samples.length + v.Bow.Bridge.Samples.length) ≤ 1073741824)
    (H : ∀ h', Pt rVoice h0 h' (a0.add (i * 45)) F L (gB49 v k) → N2 (some a0, l, c, ((k + (19 + v.Bow.Neck.Samples.length + v.Bow.Bridge.Samples.length) : Nat) : Int), ((i + 1 : Nat) : Int)) h') : LOOP (laws_markVoiceS.B49 N2 Post) (some a0, l, c, (k : Int), (i : Int), 0) h := by
  refine markA (n := 3) (off := 24) ((foc_Voice_Pipe.trans (foc_Pipe_End.trans foc_Filter_C)).at rfl) (fun _ => rfl) (fun _ _ _ => rfl) (fun _ _ => rfl) P (by omega) (fun N j hh hj Hs => ?_) fun N hh P => ?_
  · refine brd (fun hc => idxs (by omega) (by omega) (idx (by omega) (by omega) ?_)) fun hc => by omega
    rw [wrap64_succ (by omega), wrap64_succ (by omega)]
    refine st_add (st_add (st_add ?_))
    simp only [Int.toNat_natCast]
    rw [show 20 + (3 + (1 + j * 1)) = 24 + j * 1 by omega]
    exact Hs
  · unfold laws_markVoiceS.B49
    refine brd (fun hc => by omega) fun hc => ?_
    have Hn := mark_B54 (N2 := N2) (Post := Post) (c := c) (k := k + 3) hi hl P (by (try dsimp only); omega) (by (try dsimp only); omega) (by (try dsimp only); omega) fun h' P => ?_
    · exact Hn
    · have := H h' P
      rw [show k + (19 + v.Bow.Neck.Samples.length + v.Bow.Bridge.Samples.length) = k + 3 + (16 + v.Bow.Neck.Samples.length + v.Bow.Bridge.Samples.length) by omega] at this
      exact this
theorem mark_B37 {N2 : (Option Addr × Nat × Nat × Int × Int) → Heap → Prop} {Post : Value → Heap → Prop} {a0 : Addr} {l c i k : Nat} {F : Fr} {L : List Blk} {v : GVoice} (hi : i < l) (hl : l ≤ 1073741824) (P : Pt rVoice h0 h (a0.add (i * 45)) F L v) (s0 : w_RingS v.Pipe.Right ≤ 1048576) (s1 : w_RingS v.Pipe.Left ≤ 1048576) (s2 : v.Pipe.Scatter.length ≤ 1048576) (s3 : v.Bow.Neck.Samples.length ≤ 1048576) (s4 : v.Bow.Bridge.Samples.length ≤ 1048576) (hk : k + (23 + n_RingS v.Pipe.Right + n_RingS v.Pipe.Left + v.Pipe.Scatter.length + v.Bow.Neck.Samples.length + v.Bow.Bridge.Samples.length) ≤ 1073741824)
    (H : ∀ h', Pt rVoice h0 h' (a0.add (i * 45)) F L (gB37 v k) → N2 (some a0, l, c, ((k + (23 + n_RingS v.Pipe.Right + n_RingS v.Pipe.Left + v.Pipe.Scatter.length + v.Bow.Neck.Samples.length + v.Bow.Bridge.Samples.length) : Nat) : Int), ((i + 1 : Nat) : Int)) h') : LOOP (laws_markVoiceS.B37 N2 Post) (some a0, l, c, (k : Int), (i : Int), 0) h := by
  refine markA (n := 2) (off := 17) ((foc_Voice_String.trans (foc_String_Damp.trans foc_Filter_S)).at rfl) (fun _ => rfl) (fun _ _ _ => rfl) (fun _ _ => rfl) P (by omega) (fun N j hh hj Hs => ?_) fun N hh P => ?_
  · refine brd (fun hc => idxs (by omega) (by omega) (idx (by omega) (by omega) ?_)) fun hc => by omega
    rw [wrap64_succ (by omega), wrap64_succ (by omega)]
    refine st_add (st_add (st_add ?_))
    simp only [Int.toNat_natCast]
    rw [show 5 + (8 + (4 + j * 1)) = 17 + j * 1 by omega]
    exact Hs
  · unfold laws_markVoiceS.B37
    refine brd (fun hc => by omega) fun hc => ?_
    have w0 : IntKind.i64.wrap (((k + 2 : Nat) : Int) + 1) = ((k + 2 + 1 : Nat) : Int) := wrap64_succ (by omega)
    simp only [w0]
    clear w0
    refine idxs (by omega) (by omega) (st_add (P.stF (off := 19) (fw_nearest _ _) fun h' P => ?_))
    refine idxs (by omega) (by omega) ?_
    obtain ⟨b2, l2, c2, Bs, Nn, eb, Ms, Os, hs2, back⟩ := P.slg lf_Voice_20.f
    refine o_l eb ((mark_RingS_c Os Ms (k + 2 + 1) (by dsimp only [w_Float32S]; omega) (by dsimp only [n_Float32S]; omega)).mono ?_)
    rintro _ h' ⟨rfl, B', O', M'⟩
    have P := (back _ _ _ _ O' M').1
    clear back Os Ms hs2 eb O' M'
    refine as_i ?_
    dsimp only [n_Float32S] at P ⊢
    refine idxs (by omega) (by omega) ?_
    obtain ⟨b2, l2, c2, Bs, Nn, eb, Ms, Os, hs2, back⟩ := P.slg lf_Voice_21.f
    refine o_l (cell_add eb) ((mark_RingS_c Os Ms (k + 2 + 1 + n_RingS v.Pipe.Right) (by dsimp only [w_Float32S]; omega) (by dsimp only [n_Float32S]; omega)).mono ?_)
    rintro _ h' ⟨rfl, B', O', M'⟩
    have P := (back _ _ _ _ O' M').1
    clear back Os Ms hs2 eb O' M'
    refine as_i ?_
    dsimp only [n_Float32S] at P ⊢
    refine idxs (by omega) (by omega) ?_
    obtain ⟨b2, l2, c2, Bs, Nn, eb, Ms, Os, hs2, back⟩ := P.slg lf_Voice_22.f
    refine o_l (cell_add eb) ((mark_Float32S_c Os Ms (k + 2 + 1 + n_RingS v.Pipe.Right + n_RingS v.Pipe.Left) (by dsimp only [w_Float32S]; omega) (by dsimp only [n_Float32S]; omega)).mono ?_)
    rintro _ h' ⟨rfl, B', O', M'⟩
    have P := (back _ _ _ _ O' M').1
    clear back Os Ms hs2 eb O' M'
    refine as_i ?_
    dsimp only [n_Float32S] at P ⊢
    have w0 : IntKind.i64.wrap (((k + 2 + 1 + n_RingS v.Pipe.Right + n_RingS v.Pipe.Left + v.Pipe.Scatter.length : Nat) : Int) + 1) = ((k + 2 + 1 + n_RingS v.Pipe.Right + n_RingS v.Pipe.Left + v.Pipe.Scatter.length + 1 : Nat) : Int) := wrap64_succ (by omega)
    simp only [w0]
    clear w0
    refine idxs (by omega) (by omega) (st_add (P.stI (off := 23) fun h' P => ?_))
    have Hn := mark_B49 (N2 := N2) (Post := Post) (c := c) (k := k + 2 + 1 + n_RingS v.Pipe.Right + n_RingS v.Pipe.Left + v.Pipe.Scatter.length + 1) hi hl P (by (try dsimp only); omega) (by (try dsimp only); omega) (by (try dsimp only); omega) fun h' P => ?_
    · exact Hn
    · have := H h' P
      rw [show k + (23 + n_RingS v.Pipe.Right + n_RingS v.Pipe.Left + v.Pipe.Scatter.length + v.Bow.Neck.Samples.length + v.Bow.Bridge.Samples.length) = k + 2 + 1 + n_RingS v.Pipe.Right + n_RingS v.Pipe.Left + v.Pipe.Scatter.length + 1 + (19 + v.Bow.Neck.Samples.length + v.Bow.Bridge.Samples.length) by omega] at this
      exact this
theorem mark_B32 {N2 : (Option Addr × Nat × Nat × Int × Int) → Heap → Prop} {Post : Value → Heap → Prop} {a0 : Addr} {l c i k : Nat} {F : Fr} {L : List Blk} {v : GVoice} (hi : i < l) (hl : l ≤ 1073741824) (P : Pt rVoice h0 h (a0.add (i * 45)) F L v) (s0 : w_RingS v.Pipe.Right ≤ 1048576) (s1 : w_RingS v.Pipe.Left ≤ 1048576) (s2 : v.Pipe.Scatter.length ≤ 1048576) (s3 : v.Bow.Neck.Samples.length ≤ 1048576) (s4 : v.Bow.Bridge.Samples.length ≤ 1048576) (hk : k + (26 + n_RingS v.Pipe.Right + n_RingS v.Pipe.Left + v.Pipe.Scatter.length + v.Bow.Neck.Samples.length + v.Bow.Bridge.Samples.length) ≤ 1073741824)
    (H : ∀ h', Pt rVoice h0 h' (a0.add (i * 45)) F L (gB32 v k) → N2 (some a0, l, c, ((k + (26 + n_RingS v.Pipe.Right + n_RingS v.Pipe.Left + v.Pipe.Scatter.length + v.Bow.Neck.Samples.length + v.Bow.Bridge.Samples.length) : Nat) : Int), ((i + 1 : Nat) : Int)) h') : LOOP (laws_markVoiceS.B32 N2 Post) (some a0, l, c, (k : Int), (i : Int), 0) h := by
  refine markA (n := 3) (off := 14) ((foc_Voice_String.trans (foc_String_Damp.trans foc_Filter_C)).at rfl) (fun _ => rfl) (fun _ _ _ => rfl) (fun _ _ => rfl) P (by omega) (fun N j hh hj Hs => ?_) fun N hh P => ?_
  · refine brd (fun hc => idxs (by omega) (by omega) (idx (by omega) (by omega) ?_)) fun hc => by omega
    rw [wrap64_succ (by omega), wrap64_succ (by omega)]
    refine st_add (st_add (st_add ?_))
    simp only [Int.toNat_natCast]
    rw [show 5 + (8 + (1 + j * 1)) = 14 + j * 1 by omega]
    exact Hs
  · unfold laws_markVoiceS.B32
    refine brd (fun hc => by omega) fun hc => ?_
    have Hn := mark_B37 (N2 := N2) (Post := Post) (c := c) (k := k + 3) hi hl P (by (try dsimp only); omega) (by (try dsimp only); omega) (by (try dsimp only); omega) (by (try dsimp only); omega) (by (try dsimp only); omega) (by (try dsimp only); omega) fun h' P => ?_
    · exact Hn
    · have := H h' P
      rw [show k + (26 + n_RingS v.Pipe.Right + n_RingS v.Pipe.Left + v.Pipe.Scatter.length + v.Bow.Neck.Samples.length + v.Bow.Bridge.Samples.length) = k + 3 + (23 + n_RingS v.Pipe.Right + n_RingS v.Pipe.Left + v.Pipe.Scatter.length + v.Bow.Neck.Samples.length + v.Bow.Bridge.Samples.length) by omega] at this
      exact this
theorem mark_B25 {N2 : (Option Addr × Nat × Nat × Int × Int) → Heap → Prop} {Post : Value → Heap → Prop} {a0 : Addr} {l c i k : Nat} {F : Fr} {L : List Blk} {v : GVoice} (hi : i < l) (hl : l ≤ 1073741824) (P : Pt rVoice h0 h (a0.add (i * 45)) F L v) (s0 : w_RingS v.Pipe.Right ≤ 1048576) (s1 : w_RingS v.Pipe.Left ≤ 1048576) (s2 : v.Pipe.Scatter.length ≤ 1048576) (s3 : v.Bow.Neck.Samples.length ≤ 1048576) (s4 : v.Bow.Bridge.Samples.length ≤ 1048576) (hk : k + (29 + n_RingS v.Pipe.Right + n_RingS v.Pipe.Left + v.Pipe.Scatter.length + v.Bow.Neck.Samples.length + v.Bow.Bridge.Samples.length) ≤ 1073741824)
    (H : ∀ h', Pt rVoice h0 h' (a0.add (i * 45)) F L (gB25 v k) → N2 (some a0, l, c, ((k + (29 + n_RingS v.Pipe.Right + n_RingS v.Pipe.Left + v.Pipe.Scatter.length + v.Bow.Neck.Samples.length + v.Bow.Bridge.Samples.length) : Nat) : Int), ((i + 1 : Nat) : Int)) h') : LOOP (laws_markVoiceS.B25 N2 Post) (some a0, l, c, (k : Int), (i : Int), 0) h := by
  refine markA (n := 2) (off := 11) ((foc_Voice_String.trans (foc_String_Tune.trans foc_Filter_S)).at rfl) (fun _ => rfl) (fun _ _ _ => rfl) (fun _ _ => rfl) P (by omega) (fun N j hh hj Hs => ?_) fun N hh P => ?_
  · refine brd (fun hc => idxs (by omega) (by omega) (idx (by omega) (by omega) ?_)) fun hc => by omega
    rw [wrap64_succ (by omega), wrap64_succ (by omega)]
    refine st_add (st_add (st_add ?_))
    simp only [Int.toNat_natCast]
    rw [show 5 + (2 + (4 + j * 1)) = 11 + j * 1 by omega]
    exact Hs
  · unfold laws_markVoiceS.B25
    refine brd (fun hc => by omega) fun hc => ?_
    have w0 : IntKind.i64.wrap (((k + 2 : Nat) : Int) + 1) = ((k + 2 + 1 : Nat) : Int) := wrap64_succ (by omega)
    simp only [w0]
    clear w0
    refine idxs (by omega) (by omega) (st_add (P.stI (off := 13) fun h' P => ?_))
    have Hn := mark_B32 (N2 := N2) (Post := Post) (c := c) (k := k + 2 + 1) hi hl P (by (try dsimp only); omega) (by (try dsimp only); omega) (by (try dsimp only); omega) (by (try dsimp only); omega) (by (try dsimp only); omega) (by (try dsimp only); omega) fun h' P => ?_
    · exact Hn
    · have := H h' P
      rw [show k + (29 + n_RingS v.Pipe.Right + n_RingS v.Pipe.Left + v.Pipe.Scatter.length + v.Bow.Neck.Samples.length + v.Bow.Bridge.Samples.length) = k + 2 + 1 + (26 + n_RingS v.Pipe.Right + n_RingS v.Pipe.Left + v.Pipe.Scatter.length + v.Bow.Neck.Samples.length + v.Bow.Bridge.Samples.length) by omega] at this
      exact this
theorem mark_B20 {N2 : (Option Addr × Nat × Nat × Int × Int) → Heap → Prop} {Post : Value → Heap → Prop} {a0 : Addr} {l c i k : Nat} {F : Fr} {L : List Blk} {v : GVoice} (hi : i < l) (hl : l ≤ 1073741824) (P : Pt rVoice h0 h (a0.add (i * 45)) F L v) (s0 : w_RingS v.Pipe.Right ≤ 1048576) (s1 : w_RingS v.Pipe.Left ≤ 1048576) (s2 : v.Pipe.Scatter.length ≤ 1048576) (s3 : v.Bow.Neck.Samples.length ≤ 1048576) (s4 : v.Bow.Bridge.Samples.length ≤ 1048576) (hk : k + (32 + n_RingS v.Pipe.Right + n_RingS v.Pipe.Left + v.Pipe.Scatter.length + v.Bow.Neck.Samples.length + v.Bow.Bridge.Samples.length) ≤ 1073741824)
    (H : ∀ h', Pt rVoice h0 h' (a0.add (i * 45)) F L (gB20 v k) → N2 (some a0, l, c, ((k + (32 + n_RingS v.Pipe.Right + n_RingS v.Pipe.Left + v.Pipe.Scatter.length + v.Bow.Neck.Samples.length + v.Bow.Bridge.Samples.length) : Nat) : Int), ((i + 1 : Nat) : Int)) h') : LOOP (laws_markVoiceS.B20 N2 Post) (some a0, l, c, (k : Int), (i : Int), 0) h := by
  refine markA (n := 3) (off := 8) ((foc_Voice_String.trans (foc_String_Tune.trans foc_Filter_C)).at rfl) (fun _ => rfl) (fun _ _ _ => rfl) (fun _ _ => rfl) P (by omega) (fun N j hh hj Hs => ?_) fun N hh P => ?_
  · refine brd (fun hc => idxs (by omega) (by omega) (idx (by omega) (by omega) ?_)) fun hc => by omega
    rw [wrap64_succ (by omega), wrap64_succ (by omega)]
    refine st_add (st_add (st_add ?_))
    simp only [Int.toNat_natCast]
    rw [show 5 + (2 + (1 + j * 1)) = 8 + j * 1 by omega]
    exact Hs
  · unfold laws_markVoiceS.B20
    refine brd (fun hc => by omega) fun hc => ?_
    have Hn := mark_B25 (N2 := N2) (Post := Post) (c := c) (k := k + 3) hi hl P (by (try dsimp only); omega) (by (try dsimp only); omega) (by (try dsimp only); omega) (by (try dsimp only); omega) (by (try dsimp only); omega) (by (try dsimp only); omega) fun h' P => ?_
    · exact Hn
    · have := H h' P
      rw [show k + (32 + n_RingS v.Pipe.Right + n_RingS v.Pipe.Left + v.Pipe.Scatter.length + v.Bow.Neck.Samples.length + v.Bow.Bridge.Samples.length) = k + 3 + (29 + n_RingS v.Pipe.Right + n_RingS v.Pipe.Left + v.Pipe.Scatter.length + v.Bow.Neck.Samples.length + v.Bow.Bridge.Samples.length) by omega] at this
      exact this
def nE_Voice (v : GVoice) : Nat := 39 + v.String.Loop.Samples.length + n_RingS v.Pipe.Right + n_RingS v.Pipe.Left + v.Pipe.Scatter.length + v.Bow.Neck.Samples.length + v.Bow.Bridge.Samples.length
theorem mark_Voice_go {N2 : (Option Addr × Nat × Nat × Int × Int) → Heap → Prop} {Post : Value → Heap → Prop} {a0 : Addr} {l c i k : Nat} {F : Fr} {L : List Blk} {v : GVoice} (hi : i < l) (hl : l ≤ 1073741824) (P : Pt rVoice h0 h (a0.add (i * 45)) F L v) (s0 : v.String.Loop.Samples.length ≤ 1048576) (s1 : w_RingS v.Pipe.Right ≤ 1048576) (s2 : w_RingS v.Pipe.Left ≤ 1048576) (s3 : v.Pipe.Scatter.length ≤ 1048576) (s4 : v.Bow.Neck.Samples.length ≤ 1048576) (s5 : v.Bow.Bridge.Samples.length ≤ 1048576) (hk : k + (39 + v.String.Loop.Samples.length + n_RingS v.Pipe.Right + n_RingS v.Pipe.Left + v.Pipe.Scatter.length + v.Bow.Neck.Samples.length + v.Bow.Bridge.Samples.length) ≤ 1073741824)
    (H : ∀ h', Pt rVoice h0 h' (a0.add (i * 45)) F L (mkE_Voice v k) → N2 (some a0, l, c, ((k + (39 + v.String.Loop.Samples.length + n_RingS v.Pipe.Right + n_RingS v.Pipe.Left + v.Pipe.Scatter.length + v.Bow.Neck.Samples.length + v.Bow.Bridge.Samples.length) : Nat) : Int), ((i + 1 : Nat) : Int)) h') : laws_markVoiceS.B2 Post N2 (some a0, l, c, (k : Int), (i : Int)) h := by
  unfold laws_markVoiceS.B2
  refine brd (fun hc => ?_) fun hc => by omega
  have w0 : IntKind.i64.wrap (((k : Nat) : Int) + 1) = ((k + 1 : Nat) : Int) := wrap64_succ (by omega)
  have w1 : IntKind.i64.wrap (((k + 1 : Nat) : Int) + 1) = ((k + 2 : Nat) : Int) := wrap64_succ (by omega)
  have w2 : IntKind.i64.wrap (((k + 2 : Nat) : Int) + 1) = ((k + 3 : Nat) : Int) := wrap64_succ (by omega)
  have w3 : IntKind.i64.wrap (((k + 3 : Nat) : Int) + 1) = ((k + 4 : Nat) : Int) := wrap64_succ (by omega)
  have w4 : IntKind.i64.wrap (((k + 4 : Nat) : Int) + 1) = ((k + 5 : Nat) : Int) := wrap64_succ (by omega)
  simp only [w0, w1, w2, w3, w4]
  clear w0 w1 w2 w3 w4
  refine idxs (by omega) (by omega) (P.stI1 fun h' P => ?_)
  refine idxs (by omega) (by omega) (P.stI (off := 1) fun h' P => ?_)
  refine idxs (by omega) (by omega) (P.stI (off := 2) fun h' P => ?_)
  refine nz (by decide) (idxs (by omega) (by omega) (P.stB (off := 3) fun h' P => ?_))
  refine idxs (by omega) (by omega) (P.stF (off := 4) (fw_nearest _ _) fun h' P => ?_)
  refine idxs (by omega) (by omega) ?_
  obtain ⟨b2, l2, c2, Bs, Nn, eb, Ms, Os, hs2, back⟩ := P.slg lf_Voice_5.f
  refine o_l eb ((mark_Float32S_c Os Ms (k + 5) (by dsimp only [w_Float32S]; omega) (by dsimp only [n_Float32S]; omega)).mono ?_)
  rintro _ h' ⟨rfl, B', O', M'⟩
  have P := (back _ _ _ _ O' M').1
  clear back Os Ms hs2 eb O' M'
  refine as_i ?_
  dsimp only [n_Float32S] at P ⊢
  have w0 : IntKind.i64.wrap (((k + 5 + v.String.Loop.Samples.length : Nat) : Int) + 1) = ((k + 5 + v.String.Loop.Samples.length + 1 : Nat) : Int) := wrap64_succ (by omega)
  have w1 : IntKind.i64.wrap (((k + 5 + v.String.Loop.Samples.length + 1 : Nat) : Int) + 1) = ((k + 5 + v.String.Loop.Samples.length + 2 : Nat) : Int) := wrap64_succ (by omega)
  simp only [w0, w1]
  clear w0 w1
  refine idxs (by omega) (by omega) (st_add (P.stI (off := 6) fun h' P => ?_))
  refine idxs (by omega) (by omega) (st_add (P.stI (off := 7) fun h' P => ?_))
  have Hn := mark_B20 (N2 := N2) (Post := Post) (c := c) (k := k + 5 + v.String.Loop.Samples.length + 2) hi hl P (by (try dsimp only); omega) (by (try dsimp only); omega) (by (try dsimp only); omega) (by (try dsimp only); omega) (by (try dsimp only); omega) (by (try dsimp only); omega) fun h' P => ?_
  · exact Hn
  · have := H h' P
    rw [show k + (39 + v.String.Loop.Samples.length + n_RingS v.Pipe.Right + n_RingS v.Pipe.Left + v.Pipe.Scatter.length + v.Bow.Neck.Samples.length + v.Bow.Bridge.Samples.length) = k + 5 + v.String.Loop.Samples.length + 2 + (32 + n_RingS v.Pipe.Right + n_RingS v.Pipe.Left + v.Pipe.Scatter.length + v.Bow.Neck.Samples.length + v.Bow.Bridge.Samples.length) by omega] at this
    exact this
def hB80 (u v : GVoice) (k : Nat) : Prop := u.Bow.Damp.S = mkQ (k) 2 ∧ u.Bow.Slope = FloatKind.f32.nearest ((k + 2 : Nat) : Int) ∧ u.Bow.Loss = FloatKind.f32.nearest ((k + 3 : Nat) : Int)
def hB75 (u v : GVoice) (k : Nat) : Prop := u.Bow.Damp.C = mkQ (k) 3 ∧ hB80 u v (k + 3)
def hB54 (u v : GVoice) (k : Nat) : Prop := u.Pipe.End.S = mkQ (k) 2 ∧ u.Pipe.Open = (Int.tmod ((k + 2 : Nat) : Int) 3 == 0) ∧ u.Pipe.Loss = FloatKind.f32.nearest ((k + 3 : Nat) : Int) ∧ u.Pipe.Rest = FloatKind.f32.nearest ((k + 4 : Nat) : Int) ∧ u.Pipe.Slope = FloatKind.f32.nearest ((k + 5 : Nat) : Int) ∧ u.Bow.Neck.Samples = mk_Float32S v.Bow.Neck.Samples (k + 6) ∧ u.Bow.Neck.At = ((k + 6 + n_Float32S v.Bow.Neck.Samples : Nat) : Int) ∧ u.Bow.Bridge.Samples = mk_Float32S v.Bow.Bridge.Samples (k + 6 + n_Float32S v.Bow.Neck.Samples + 1) ∧ u.Bow.Bridge.At = ((k + 6 + n_Float32S v.Bow.Neck.Samples + 1 + n_Float32S v.Bow.Bridge.Samples : Nat) : Int) ∧ u.Bow.Damp.Kind = ((k + 6 + n_Float32S v.Bow.Neck.Samples + 1 + n_Float32S v.Bow.Bridge.Samples + 1 : Nat) : Int) ∧ hB75 u v (k + 6 + n_Float32S v.Bow.Neck.Samples + 1 + n_Float32S v.Bow.Bridge.Samples + 2)
def hB49 (u v : GVoice) (k : Nat) : Prop := u.Pipe.End.C = mkQ (k) 3 ∧ hB54 u v (k + 3)
def hB37 (u v : GVoice) (k : Nat) : Prop := u.String.Damp.S = mkQ (k) 2 ∧ u.String.Loss = FloatKind.f32.nearest ((k + 2 : Nat) : Int) ∧ u.Pipe.Right = mk_RingS v.Pipe.Right (k + 3) ∧ u.Pipe.Left = mk_RingS v.Pipe.Left (k + 3 + n_RingS v.Pipe.Right) ∧ u.Pipe.Scatter = mk_Float32S v.Pipe.Scatter (k + 3 + n_RingS v.Pipe.Right + n_RingS v.Pipe.Left) ∧ u.Pipe.End.Kind = ((k + 3 + n_RingS v.Pipe.Right + n_RingS v.Pipe.Left + n_Float32S v.Pipe.Scatter : Nat) : Int) ∧ hB49 u v (k + 3 + n_RingS v.Pipe.Right + n_RingS v.Pipe.Left + n_Float32S v.Pipe.Scatter + 1)
def hB32 (u v : GVoice) (k : Nat) : Prop := u.String.Damp.C = mkQ (k) 3 ∧ hB37 u v (k + 3)
def hB25 (u v : GVoice) (k : Nat) : Prop := u.String.Tune.S = mkQ (k) 2 ∧ u.String.Damp.Kind = ((k + 2 : Nat) : Int) ∧ hB32 u v (k + 3)
def hB20 (u v : GVoice) (k : Nat) : Prop := u.String.Tune.C = mkQ (k) 3 ∧ hB25 u v (k + 3)
def hHEAD (u v : GVoice) (k : Nat) : Prop := u.Note = ((k : Nat) : Int) ∧ u.Instrument = ((k + 1 : Nat) : Int) ∧ u.Born = ((k + 2 : Nat) : Int) ∧ u.Gone = (Int.tmod ((k + 3 : Nat) : Int) 3 == 0) ∧ u.Drive = FloatKind.f32.nearest ((k + 4 : Nat) : Int) ∧ u.String.Loop.Samples = mk_Float32S v.String.Loop.Samples (k + 5) ∧ u.String.Loop.At = ((k + 5 + n_Float32S v.String.Loop.Samples : Nat) : Int) ∧ u.String.Tune.Kind = ((k + 5 + n_Float32S v.String.Loop.Samples + 1 : Nat) : Int) ∧ hB20 u v (k + 5 + n_Float32S v.String.Loop.Samples + 2)
theorem RdP.heldF {α : Type} {r : Rep α} {q : Addr} {x : α} {off : Nat} {get : α → Nat} {put : α → Nat → α} {m : Int} {K1 K2 : Prop} (R : RdP r h q x) [Fc : FocC r off (rF .f32) get put] (e : get x = FloatKind.f32.nearest m) (H : K2) : Sx.oF .f32 (Sx.cell h (q.add off)) fun y => BIF (FloatKind.f32.format.order y (FloatKind.f32.nearest m) != some .eq) K1 K2 := by
  refine R.oF fun y hy => ?_
  rw [e] at hy
  obtain rfl := hy.eq (nearest_not_nan _ _)
  exact br_f (order_eq (nearest_not_nan _ _)) H
theorem RdP.heldI {α : Type} {r : Rep α} {q : Addr} {x : α} {off : Nat} {get : α → Int} {put : α → Int → α} {m : Int} {K1 K2 : Prop} (R : RdP r h q x) [Fc : FocC r off (rI .i64) get put] (e : get x = m) (H : K2) : Sx.oI .i64 (Sx.cell h (q.add off)) fun y => BIF (y != m) K1 K2 := by
  refine R.oI ?_
  rw [e]
  exact br_f (bne_self_eq_false _) H
theorem RdP.heldI0 {α : Type} {r : Rep α} {q : Addr} {x : α} {get : α → Int} {put : α → Int → α} {m : Int} {K1 K2 : Prop} (R : RdP r h q x) [Fc : FocC r 0 (rI .i64) get put] (e : get x = m) (H : K2) : Sx.oI .i64 (Sx.cell h q) fun y => BIF (y != m) K1 K2 := by
  refine R.oI1 ?_
  rw [e]
  exact br_f (bne_self_eq_false _) H
theorem RdP.heldB {α : Type} {r : Rep α} {q : Addr} {x : α} {off : Nat} {get : α → Bool} {put : α → Bool → α} {m : Bool} {K1 K2 : Prop} (R : RdP r h q x) [Fc : FocC r off rB get put] (e : get x = m) (H : K2) : Sx.oB (Sx.cell h (q.add off)) fun y => NZ 3 (BIF (!(y == m)) K1 K2) := by
  refine R.oB (nz (by decide) ?_)
  rw [e]
  exact br_f (by simp) H
theorem oF_add {q : Addr} {a b : Nat} {K : Nat → Prop} (H : Sx.oF .f32 (Sx.cell h (q.add (a + b))) K) : Sx.oF .f32 (Sx.cell h ((q.add a).add b)) K := by rw [add_add']; exact H
theorem oI_add {q : Addr} {a b : Nat} {K : Int → Prop} (H : Sx.oI .i64 (Sx.cell h (q.add (a + b))) K) : Sx.oI .i64 (Sx.cell h ((q.add a).add b)) K := by rw [add_add']; exact H
theorem oB_add {q : Addr} {a b : Nat} {K : Bool → Prop} (H : Sx.oB (Sx.cell h (q.add (a + b))) K) : Sx.oB (Sx.cell h ((q.add a).add b)) K := by rw [add_add']; exact H
theorem oL_add {q : Addr} {a b : Nat} {K : Option Addr → Nat → Nat → Prop} (H : Sx.oL (Sx.cell h (q.add (a + b))) K) : Sx.oL (Sx.cell h ((q.add a).add b)) K := by rw [add_add']; exact H
theorem held_B80 {N2 : (Option Addr × Nat × Nat × Int × Int) → Heap → Prop} {Post : Value → Heap → Prop} {a0 : Addr} {l c i k : Nat} {u v : GVoice} (hi : i < l) (hl : l ≤ 1073741824) (R : RdP rVoice h (a0.add (i * 45)) u) (E : hB80 u v k) (hk : k + (4) ≤ 1073741824)
    (H : ∀ h', Ext h h' → N2 (some a0, l, c, ((k + (4) : Nat) : Int), ((i + 1 : Nat) : Int)) h') : LOOP (laws_heldVoiceS.B116 N2 Post) (some a0, l, c, (k : Int), (i : Int), 0) h := by
  obtain ⟨e0, e1, e2⟩ := E
  have f0 : n_Float32S v.String.Loop.Samples = v.String.Loop.Samples.length := rfl
  have f3 : n_Float32S v.Pipe.Scatter = v.Pipe.Scatter.length := rfl
  have f4 : n_Float32S v.Bow.Neck.Samples = v.Bow.Neck.Samples.length := rfl
  have f5 : n_Float32S v.Bow.Bridge.Samples = v.Bow.Bridge.Samples.length := rfl
  refine heldA (n := 2) (off := 41) (P1 := Post (.int .i64 (-1)) h) ((foc_Voice_Bow.trans (foc_Bow_Damp.trans foc_Filter_S)).at rfl) R e0 (by omega) (fun N j hj Hs => ?_) fun N => ?_
  · refine brd (fun hc => idxs (by omega) (by omega) (idx (by omega) (by omega) ?_)) fun hc => by omega
    rw [wrap64_succ (by omega), wrap64_succ (by omega)]
    refine oF_add (oF_add (oF_add ?_))
    simp only [Int.toNat_natCast]
    rw [show 33 + (4 + (4 + j * 1)) = 41 + j * 1 by omega]
    exact Hs
  · unfold laws_heldVoiceS.B116
    refine brd (fun hc => by omega) fun hc => ?_
    have X := Ext.refl h
    have w0 : IntKind.i64.wrap (((k + 2 : Nat) : Int) + 1) = ((k + 3 : Nat) : Int) := wrap64_succ (by omega)
    have w1 : IntKind.i64.wrap (((k + 3 : Nat) : Int) + 1) = ((k + 4 : Nat) : Int) := wrap64_succ (by omega)
    simp only [w0, w1]
    clear w0 w1
    refine idxs (by omega) (by omega) (oF_add (R.heldF (off := 43) e1 ?_))
    refine idxs (by omega) (by omega) (oF_add (R.heldF (off := 44) e2 ?_))
    rw [wrap64_succ (by omega)]
    exact H _ X
theorem held_B75 {N2 : (Option Addr × Nat × Nat × Int × Int) → Heap → Prop} {Post : Value → Heap → Prop} {a0 : Addr} {l c i k : Nat} {u v : GVoice} (hi : i < l) (hl : l ≤ 1073741824) (R : RdP rVoice h (a0.add (i * 45)) u) (E : hB75 u v k) (hk : k + (7) ≤ 1073741824)
    (H : ∀ h', Ext h h' → N2 (some a0, l, c, ((k + (7) : Nat) : Int), ((i + 1 : Nat) : Int)) h') : LOOP (laws_heldVoiceS.B110 N2 Post) (some a0, l, c, (k : Int), (i : Int), 0) h := by
  obtain ⟨e0, E⟩ := E
  have f0 : n_Float32S v.String.Loop.Samples = v.String.Loop.Samples.length := rfl
  have f3 : n_Float32S v.Pipe.Scatter = v.Pipe.Scatter.length := rfl
  have f4 : n_Float32S v.Bow.Neck.Samples = v.Bow.Neck.Samples.length := rfl
  have f5 : n_Float32S v.Bow.Bridge.Samples = v.Bow.Bridge.Samples.length := rfl
  refine heldA (n := 3) (off := 38) (P1 := Post (.int .i64 (-1)) h) ((foc_Voice_Bow.trans (foc_Bow_Damp.trans foc_Filter_C)).at rfl) R e0 (by omega) (fun N j hj Hs => ?_) fun N => ?_
  · refine brd (fun hc => idxs (by omega) (by omega) (idx (by omega) (by omega) ?_)) fun hc => by omega
    rw [wrap64_succ (by omega), wrap64_succ (by omega)]
    refine oF_add (oF_add (oF_add ?_))
    simp only [Int.toNat_natCast]
    rw [show 33 + (4 + (1 + j * 1)) = 38 + j * 1 by omega]
    exact Hs
  · unfold laws_heldVoiceS.B110
    refine brd (fun hc => by omega) fun hc => ?_
    have X := Ext.refl h
    have Hn := held_B80 (N2 := N2) (Post := Post) (c := c) (k := k + 3) hi hl R E  (by omega) fun h' x' => ?_
    · exact Hn
    · have := H h' (X.trans x')
      rw [show k + (7) = k + 3 + (4) by omega] at this
      exact this
theorem held_B54 {N2 : (Option Addr × Nat × Nat × Int × Int) → Heap → Prop} {Post : Value → Heap → Prop} {a0 : Addr} {l c i k : Nat} {u v : GVoice} (hi : i < l) (hl : l ≤ 1073741824) (R : RdP rVoice h (a0.add (i * 45)) u) (E : hB54 u v k) (s0 : v.Bow.Neck.Samples.length ≤ 1048576) (s1 : v.Bow.Bridge.Samples.length ≤ 1048576) (hk : k + (16 + v.Bow.Neck.Samples.length + v.Bow.Bridge.Samples.length) ≤ 1073741824)
    (H : ∀ h', Ext h h' → N2 (some a0, l, c, ((k + (16 + v.Bow.Neck.Samples.length + v.Bow.Bridge.Samples.length) : Nat) : Int), ((i + 1 : Nat) : Int)) h') : LOOP (laws_heldVoiceS.B77 N2 Post) (some a0, l, c, (k : Int), (i : Int), 0) h := by
  obtain ⟨e0, e1, e2, e3, e4, e5, e6, e7, e8, e9, E⟩ := E
  have f0 : n_Float32S v.String.Loop.Samples = v.String.Loop.Samples.length := rfl
  have f3 : n_Float32S v.Pipe.Scatter = v.Pipe.Scatter.length := rfl
  have f4 : n_Float32S v.Bow.Neck.Samples = v.Bow.Neck.Samples.length := rfl
  have f5 : n_Float32S v.Bow.Bridge.Samples = v.Bow.Bridge.Samples.length := rfl
  refine heldA (n := 2) (off := 27) (P1 := Post (.int .i64 (-1)) h) ((foc_Voice_Pipe.trans (foc_Pipe_End.trans foc_Filter_S)).at rfl) R e0 (by omega) (fun N j hj Hs => ?_) fun N => ?_
  · refine brd (fun hc => idxs (by omega) (by omega) (idx (by omega) (by omega) ?_)) fun hc => by omega
    rw [wrap64_succ (by omega), wrap64_succ (by omega)]
    refine oF_add (oF_add (oF_add ?_))
    simp only [Int.toNat_natCast]
    rw [show 20 + (3 + (4 + j * 1)) = 27 + j * 1 by omega]
    exact Hs
  · unfold laws_heldVoiceS.B77
    refine brd (fun hc => by omega) fun hc => ?_
    have X := Ext.refl h
    have w0 : IntKind.i64.wrap (((k + 2 : Nat) : Int) + 1) = ((k + 3 : Nat) : Int) := wrap64_succ (by omega)
    have w1 : IntKind.i64.wrap (((k + 3 : Nat) : Int) + 1) = ((k + 4 : Nat) : Int) := wrap64_succ (by omega)
    have w2 : IntKind.i64.wrap (((k + 4 : Nat) : Int) + 1) = ((k + 5 : Nat) : Int) := wrap64_succ (by omega)
    have w3 : IntKind.i64.wrap (((k + 5 : Nat) : Int) + 1) = ((k + 6 : Nat) : Int) := wrap64_succ (by omega)
    simp only [w0, w1, w2, w3]
    clear w0 w1 w2 w3
    refine idxs (by omega) (by omega) (oB_add (R.heldB (off := 29) e1 ?_))
    refine idxs (by omega) (by omega) (oF_add (R.heldF (off := 30) e2 ?_))
    refine idxs (by omega) (by omega) (oF_add (R.heldF (off := 31) e3 ?_))
    refine idxs (by omega) (by omega) (oF_add (R.heldF (off := 32) e4 ?_))
    refine idxs (by omega) (by omega) (R.oL (off := 33) fun b1 l1 c1 S1 => ?_)
    rw [e5] at S1
    refine goX (held_Float32S_c (xs := v.Bow.Neck.Samples) (k + 6) S1 (by (try dsimp only [w_Float32S]); omega) (by (try dsimp only [n_Float32S]); omega)) fun h' x' => as_i (br_f (decide_eq_false (by omega)) ?_)
    have R := R.ext x'
    have X := X.trans x'
    clear S1
    have w0 : IntKind.i64.wrap (((k + 6 + n_Float32S v.Bow.Neck.Samples : Nat) : Int) + 1) = ((k + 6 + n_Float32S v.Bow.Neck.Samples + 1 : Nat) : Int) := wrap64_succ (by omega)
    simp only [w0]
    clear w0
    refine idxs (by omega) (by omega) (oI_add (R.heldI (off := 34) e6 ?_))
    refine idxs (by omega) (by omega) (oL_add (R.oL (off := 35) fun b1 l1 c1 S1 => ?_))
    rw [e7] at S1
    refine goX (held_Float32S_c (xs := v.Bow.Bridge.Samples) (k + 6 + n_Float32S v.Bow.Neck.Samples + 1) S1 (by (try dsimp only [w_Float32S]); omega) (by (try dsimp only [n_Float32S]); omega)) fun h' x' => as_i (br_f (decide_eq_false (by omega)) ?_)
    have R := R.ext x'
    have X := X.trans x'
    clear S1
    have w0 : IntKind.i64.wrap (((k + 6 + n_Float32S v.Bow.Neck.Samples + 1 + n_Float32S v.Bow.Bridge.Samples : Nat) : Int) + 1) = ((k + 6 + n_Float32S v.Bow.Neck.Samples + 1 + n_Float32S v.Bow.Bridge.Samples + 1 : Nat) : Int) := wrap64_succ (by omega)
    have w1 : IntKind.i64.wrap (((k + 6 + n_Float32S v.Bow.Neck.Samples + 1 + n_Float32S v.Bow.Bridge.Samples + 1 : Nat) : Int) + 1) = ((k + 6 + n_Float32S v.Bow.Neck.Samples + 1 + n_Float32S v.Bow.Bridge.Samples + 2 : Nat) : Int) := wrap64_succ (by omega)
    simp only [w0, w1]
    clear w0 w1
    refine idxs (by omega) (by omega) (oI_add (oI_add (R.heldI (off := 36) e8 ?_)))
    refine idxs (by omega) (by omega) (oI_add (R.heldI (off := 37) e9 ?_))
    have Hn := held_B75 (N2 := N2) (Post := Post) (c := c) (k := k + 6 + n_Float32S v.Bow.Neck.Samples + 1 + n_Float32S v.Bow.Bridge.Samples + 2) hi hl R E  (by omega) fun h' x' => ?_
    · exact Hn
    · have := H h' (X.trans x')
      rw [show k + (16 + v.Bow.Neck.Samples.length + v.Bow.Bridge.Samples.length) = k + 6 + n_Float32S v.Bow.Neck.Samples + 1 + n_Float32S v.Bow.Bridge.Samples + 2 + (7) by omega] at this
      exact this
theorem held_B49 {N2 : (Option Addr × Nat × Nat × Int × Int) → Heap → Prop} {Post : Value → Heap → Prop} {a0 : Addr} {l c i k : Nat} {u v : GVoice} (hi : i < l) (hl : l ≤ 1073741824) (R : RdP rVoice h (a0.add (i * 45)) u) (E : hB49 u v k) (s0 : v.Bow.Neck.Samples.length ≤ 1048576) (s1 : v.Bow.Bridge.Samples.length ≤ 1048576) (hk : k + (19 + v.Bow.Neck.Samples.length + v.Bow.Bridge.Samples.length) ≤ 1073741824)
    (H : ∀ h', Ext h h' → N2 (some a0, l, c, ((k + (19 + v.Bow.Neck.Samples.length + v.Bow.Bridge.Samples.length) : Nat) : Int), ((i + 1 : Nat) : Int)) h') : LOOP (laws_heldVoiceS.B71 N2 Post) (some a0, l, c, (k : Int), (i : Int), 0) h := by
  obtain ⟨e0, E⟩ := E
  have f0 : n_Float32S v.String.Loop.Samples = v.String.Loop.Samples.length := rfl
  have f3 : n_Float32S v.Pipe.Scatter = v.Pipe.Scatter.length := rfl
  have f4 : n_Float32S v.Bow.Neck.Samples = v.Bow.Neck.Samples.length := rfl
  have f5 : n_Float32S v.Bow.Bridge.Samples = v.Bow.Bridge.Samples.length := rfl
  refine heldA (n := 3) (off := 24) (P1 := Post (.int .i64 (-1)) h) ((foc_Voice_Pipe.trans (foc_Pipe_End.trans foc_Filter_C)).at rfl) R e0 (by omega) (fun N j hj Hs => ?_) fun N => ?_
  · refine brd (fun hc => idxs (by omega) (by omega) (idx (by omega) (by omega) ?_)) fun hc => by omega
    rw [wrap64_succ (by omega), wrap64_succ (by omega)]
    refine oF_add (oF_add (oF_add ?_))
    simp only [Int.toNat_natCast]
    rw [show 20 + (3 + (1 + j * 1)) = 24 + j * 1 by omega]
    exact Hs
  · unfold laws_heldVoiceS.B71
    refine brd (fun hc => by omega) fun hc => ?_
    have X := Ext.refl h
    have Hn := held_B54 (N2 := N2) (Post := Post) (c := c) (k := k + 3) hi hl R E (by omega) (by omega) (by omega) fun h' x' => ?_
    · exact Hn
    · have := H h' (X.trans x')
      rw [show k + (19 + v.Bow.Neck.Samples.length + v.Bow.Bridge.Samples.length) = k + 3 + (16 + v.Bow.Neck.Samples.length + v.Bow.Bridge.Samples.length) by omega] at this
      exact this
theorem held_B37 {N2 : (Option Addr × Nat × Nat × Int × Int) → Heap → Prop} {Post : Value → Heap → Prop} {a0 : Addr} {l c i k : Nat} {u v : GVoice} (hi : i < l) (hl : l ≤ 1073741824) (R : RdP rVoice h (a0.add (i * 45)) u) (E : hB37 u v k) (s0 : w_RingS v.Pipe.Right ≤ 1048576) (s1 : w_RingS v.Pipe.Left ≤ 1048576) (s2 : v.Pipe.Scatter.length ≤ 1048576) (s3 : v.Bow.Neck.Samples.length ≤ 1048576) (s4 : v.Bow.Bridge.Samples.length ≤ 1048576) (hk : k + (23 + n_RingS v.Pipe.Right + n_RingS v.Pipe.Left + v.Pipe.Scatter.length + v.Bow.Neck.Samples.length + v.Bow.Bridge.Samples.length) ≤ 1073741824)
    (H : ∀ h', Ext h h' → N2 (some a0, l, c, ((k + (23 + n_RingS v.Pipe.Right + n_RingS v.Pipe.Left + v.Pipe.Scatter.length + v.Bow.Neck.Samples.length + v.Bow.Bridge.Samples.length) : Nat) : Int), ((i + 1 : Nat) : Int)) h') : LOOP (laws_heldVoiceS.B50 N2 Post) (some a0, l, c, (k : Int), (i : Int), 0) h := by
  obtain ⟨e0, e1, e2, e3, e4, e5, E⟩ := E
  have f0 : n_Float32S v.String.Loop.Samples = v.String.Loop.Samples.length := rfl
  have f3 : n_Float32S v.Pipe.Scatter = v.Pipe.Scatter.length := rfl
  have f4 : n_Float32S v.Bow.Neck.Samples = v.Bow.Neck.Samples.length := rfl
  have f5 : n_Float32S v.Bow.Bridge.Samples = v.Bow.Bridge.Samples.length := rfl
  refine heldA (n := 2) (off := 17) (P1 := Post (.int .i64 (-1)) h) ((foc_Voice_String.trans (foc_String_Damp.trans foc_Filter_S)).at rfl) R e0 (by omega) (fun N j hj Hs => ?_) fun N => ?_
  · refine brd (fun hc => idxs (by omega) (by omega) (idx (by omega) (by omega) ?_)) fun hc => by omega
    rw [wrap64_succ (by omega), wrap64_succ (by omega)]
    refine oF_add (oF_add (oF_add ?_))
    simp only [Int.toNat_natCast]
    rw [show 5 + (8 + (4 + j * 1)) = 17 + j * 1 by omega]
    exact Hs
  · unfold laws_heldVoiceS.B50
    refine brd (fun hc => by omega) fun hc => ?_
    have X := Ext.refl h
    have w0 : IntKind.i64.wrap (((k + 2 : Nat) : Int) + 1) = ((k + 3 : Nat) : Int) := wrap64_succ (by omega)
    simp only [w0]
    clear w0
    refine idxs (by omega) (by omega) (oF_add (R.heldF (off := 19) e1 ?_))
    refine idxs (by omega) (by omega) (R.oL (off := 20) fun b1 l1 c1 S1 => ?_)
    rw [e2] at S1
    refine goX (held_RingS_c (xs := v.Pipe.Right) (k + 3) S1 (by (try dsimp only [w_Float32S]); omega) (by (try dsimp only [n_Float32S]); omega)) fun h' x' => as_i (br_f (decide_eq_false (by omega)) ?_)
    have R := R.ext x'
    have X := X.trans x'
    clear S1
    refine idxs (by omega) (by omega) (oL_add (R.oL (off := 21) fun b1 l1 c1 S1 => ?_))
    rw [e3] at S1
    refine goX (held_RingS_c (xs := v.Pipe.Left) (k + 3 + n_RingS v.Pipe.Right) S1 (by (try dsimp only [w_Float32S]); omega) (by (try dsimp only [n_Float32S]); omega)) fun h' x' => as_i (br_f (decide_eq_false (by omega)) ?_)
    have R := R.ext x'
    have X := X.trans x'
    clear S1
    refine idxs (by omega) (by omega) (oL_add (R.oL (off := 22) fun b1 l1 c1 S1 => ?_))
    rw [e4] at S1
    refine goX (held_Float32S_c (xs := v.Pipe.Scatter) (k + 3 + n_RingS v.Pipe.Right + n_RingS v.Pipe.Left) S1 (by (try dsimp only [w_Float32S]); omega) (by (try dsimp only [n_Float32S]); omega)) fun h' x' => as_i (br_f (decide_eq_false (by omega)) ?_)
    have R := R.ext x'
    have X := X.trans x'
    clear S1
    have w0 : IntKind.i64.wrap (((k + 3 + n_RingS v.Pipe.Right + n_RingS v.Pipe.Left + n_Float32S v.Pipe.Scatter : Nat) : Int) + 1) = ((k + 3 + n_RingS v.Pipe.Right + n_RingS v.Pipe.Left + n_Float32S v.Pipe.Scatter + 1 : Nat) : Int) := wrap64_succ (by omega)
    simp only [w0]
    clear w0
    refine idxs (by omega) (by omega) (oI_add (R.heldI (off := 23) e5 ?_))
    have Hn := held_B49 (N2 := N2) (Post := Post) (c := c) (k := k + 3 + n_RingS v.Pipe.Right + n_RingS v.Pipe.Left + n_Float32S v.Pipe.Scatter + 1) hi hl R E (by omega) (by omega) (by omega) fun h' x' => ?_
    · exact Hn
    · have := H h' (X.trans x')
      rw [show k + (23 + n_RingS v.Pipe.Right + n_RingS v.Pipe.Left + v.Pipe.Scatter.length + v.Bow.Neck.Samples.length + v.Bow.Bridge.Samples.length) = k + 3 + n_RingS v.Pipe.Right + n_RingS v.Pipe.Left + n_Float32S v.Pipe.Scatter + 1 + (19 + v.Bow.Neck.Samples.length + v.Bow.Bridge.Samples.length) by omega] at this
      exact this
theorem held_B32 {N2 : (Option Addr × Nat × Nat × Int × Int) → Heap → Prop} {Post : Value → Heap → Prop} {a0 : Addr} {l c i k : Nat} {u v : GVoice} (hi : i < l) (hl : l ≤ 1073741824) (R : RdP rVoice h (a0.add (i * 45)) u) (E : hB32 u v k) (s0 : w_RingS v.Pipe.Right ≤ 1048576) (s1 : w_RingS v.Pipe.Left ≤ 1048576) (s2 : v.Pipe.Scatter.length ≤ 1048576) (s3 : v.Bow.Neck.Samples.length ≤ 1048576) (s4 : v.Bow.Bridge.Samples.length ≤ 1048576) (hk : k + (26 + n_RingS v.Pipe.Right + n_RingS v.Pipe.Left + v.Pipe.Scatter.length + v.Bow.Neck.Samples.length + v.Bow.Bridge.Samples.length) ≤ 1073741824)
    (H : ∀ h', Ext h h' → N2 (some a0, l, c, ((k + (26 + n_RingS v.Pipe.Right + n_RingS v.Pipe.Left + v.Pipe.Scatter.length + v.Bow.Neck.Samples.length + v.Bow.Bridge.Samples.length) : Nat) : Int), ((i + 1 : Nat) : Int)) h') : LOOP (laws_heldVoiceS.B44 N2 Post) (some a0, l, c, (k : Int), (i : Int), 0) h := by
  obtain ⟨e0, E⟩ := E
  have f0 : n_Float32S v.String.Loop.Samples = v.String.Loop.Samples.length := rfl
  have f3 : n_Float32S v.Pipe.Scatter = v.Pipe.Scatter.length := rfl
  have f4 : n_Float32S v.Bow.Neck.Samples = v.Bow.Neck.Samples.length := rfl
  have f5 : n_Float32S v.Bow.Bridge.Samples = v.Bow.Bridge.Samples.length := rfl
  refine heldA (n := 3) (off := 14) (P1 := Post (.int .i64 (-1)) h) ((foc_Voice_String.trans (foc_String_Damp.trans foc_Filter_C)).at rfl) R e0 (by omega) (fun N j hj Hs => ?_) fun N => ?_
  · refine brd (fun hc => idxs (by omega) (by omega) (idx (by omega) (by omega) ?_)) fun hc => by omega
    rw [wrap64_succ (by omega), wrap64_succ (by omega)]
    refine oF_add (oF_add (oF_add ?_))
    simp only [Int.toNat_natCast]
    rw [show 5 + (8 + (1 + j * 1)) = 14 + j * 1 by omega]
    exact Hs
  · unfold laws_heldVoiceS.B44
    refine brd (fun hc => by omega) fun hc => ?_
    have X := Ext.refl h
    have Hn := held_B37 (N2 := N2) (Post := Post) (c := c) (k := k + 3) hi hl R E (by omega) (by omega) (by omega) (by omega) (by omega) (by omega) fun h' x' => ?_
    · exact Hn
    · have := H h' (X.trans x')
      rw [show k + (26 + n_RingS v.Pipe.Right + n_RingS v.Pipe.Left + v.Pipe.Scatter.length + v.Bow.Neck.Samples.length + v.Bow.Bridge.Samples.length) = k + 3 + (23 + n_RingS v.Pipe.Right + n_RingS v.Pipe.Left + v.Pipe.Scatter.length + v.Bow.Neck.Samples.length + v.Bow.Bridge.Samples.length) by omega] at this
      exact this
theorem held_B25 {N2 : (Option Addr × Nat × Nat × Int × Int) → Heap → Prop} {Post : Value → Heap → Prop} {a0 : Addr} {l c i k : Nat} {u v : GVoice} (hi : i < l) (hl : l ≤ 1073741824) (R : RdP rVoice h (a0.add (i * 45)) u) (E : hB25 u v k) (s0 : w_RingS v.Pipe.Right ≤ 1048576) (s1 : w_RingS v.Pipe.Left ≤ 1048576) (s2 : v.Pipe.Scatter.length ≤ 1048576) (s3 : v.Bow.Neck.Samples.length ≤ 1048576) (s4 : v.Bow.Bridge.Samples.length ≤ 1048576) (hk : k + (29 + n_RingS v.Pipe.Right + n_RingS v.Pipe.Left + v.Pipe.Scatter.length + v.Bow.Neck.Samples.length + v.Bow.Bridge.Samples.length) ≤ 1073741824)
    (H : ∀ h', Ext h h' → N2 (some a0, l, c, ((k + (29 + n_RingS v.Pipe.Right + n_RingS v.Pipe.Left + v.Pipe.Scatter.length + v.Bow.Neck.Samples.length + v.Bow.Bridge.Samples.length) : Nat) : Int), ((i + 1 : Nat) : Int)) h') : LOOP (laws_heldVoiceS.B35 N2 Post) (some a0, l, c, (k : Int), (i : Int), 0) h := by
  obtain ⟨e0, e1, E⟩ := E
  have f0 : n_Float32S v.String.Loop.Samples = v.String.Loop.Samples.length := rfl
  have f3 : n_Float32S v.Pipe.Scatter = v.Pipe.Scatter.length := rfl
  have f4 : n_Float32S v.Bow.Neck.Samples = v.Bow.Neck.Samples.length := rfl
  have f5 : n_Float32S v.Bow.Bridge.Samples = v.Bow.Bridge.Samples.length := rfl
  refine heldA (n := 2) (off := 11) (P1 := Post (.int .i64 (-1)) h) ((foc_Voice_String.trans (foc_String_Tune.trans foc_Filter_S)).at rfl) R e0 (by omega) (fun N j hj Hs => ?_) fun N => ?_
  · refine brd (fun hc => idxs (by omega) (by omega) (idx (by omega) (by omega) ?_)) fun hc => by omega
    rw [wrap64_succ (by omega), wrap64_succ (by omega)]
    refine oF_add (oF_add (oF_add ?_))
    simp only [Int.toNat_natCast]
    rw [show 5 + (2 + (4 + j * 1)) = 11 + j * 1 by omega]
    exact Hs
  · unfold laws_heldVoiceS.B35
    refine brd (fun hc => by omega) fun hc => ?_
    have X := Ext.refl h
    have w0 : IntKind.i64.wrap (((k + 2 : Nat) : Int) + 1) = ((k + 3 : Nat) : Int) := wrap64_succ (by omega)
    simp only [w0]
    clear w0
    refine idxs (by omega) (by omega) (oI_add (R.heldI (off := 13) e1 ?_))
    have Hn := held_B32 (N2 := N2) (Post := Post) (c := c) (k := k + 3) hi hl R E (by omega) (by omega) (by omega) (by omega) (by omega) (by omega) fun h' x' => ?_
    · exact Hn
    · have := H h' (X.trans x')
      rw [show k + (29 + n_RingS v.Pipe.Right + n_RingS v.Pipe.Left + v.Pipe.Scatter.length + v.Bow.Neck.Samples.length + v.Bow.Bridge.Samples.length) = k + 3 + (26 + n_RingS v.Pipe.Right + n_RingS v.Pipe.Left + v.Pipe.Scatter.length + v.Bow.Neck.Samples.length + v.Bow.Bridge.Samples.length) by omega] at this
      exact this
theorem held_B20 {N2 : (Option Addr × Nat × Nat × Int × Int) → Heap → Prop} {Post : Value → Heap → Prop} {a0 : Addr} {l c i k : Nat} {u v : GVoice} (hi : i < l) (hl : l ≤ 1073741824) (R : RdP rVoice h (a0.add (i * 45)) u) (E : hB20 u v k) (s0 : w_RingS v.Pipe.Right ≤ 1048576) (s1 : w_RingS v.Pipe.Left ≤ 1048576) (s2 : v.Pipe.Scatter.length ≤ 1048576) (s3 : v.Bow.Neck.Samples.length ≤ 1048576) (s4 : v.Bow.Bridge.Samples.length ≤ 1048576) (hk : k + (32 + n_RingS v.Pipe.Right + n_RingS v.Pipe.Left + v.Pipe.Scatter.length + v.Bow.Neck.Samples.length + v.Bow.Bridge.Samples.length) ≤ 1073741824)
    (H : ∀ h', Ext h h' → N2 (some a0, l, c, ((k + (32 + n_RingS v.Pipe.Right + n_RingS v.Pipe.Left + v.Pipe.Scatter.length + v.Bow.Neck.Samples.length + v.Bow.Bridge.Samples.length) : Nat) : Int), ((i + 1 : Nat) : Int)) h') : LOOP (laws_heldVoiceS.B29 N2 Post) (some a0, l, c, (k : Int), (i : Int), 0) h := by
  obtain ⟨e0, E⟩ := E
  have f0 : n_Float32S v.String.Loop.Samples = v.String.Loop.Samples.length := rfl
  have f3 : n_Float32S v.Pipe.Scatter = v.Pipe.Scatter.length := rfl
  have f4 : n_Float32S v.Bow.Neck.Samples = v.Bow.Neck.Samples.length := rfl
  have f5 : n_Float32S v.Bow.Bridge.Samples = v.Bow.Bridge.Samples.length := rfl
  refine heldA (n := 3) (off := 8) (P1 := Post (.int .i64 (-1)) h) ((foc_Voice_String.trans (foc_String_Tune.trans foc_Filter_C)).at rfl) R e0 (by omega) (fun N j hj Hs => ?_) fun N => ?_
  · refine brd (fun hc => idxs (by omega) (by omega) (idx (by omega) (by omega) ?_)) fun hc => by omega
    rw [wrap64_succ (by omega), wrap64_succ (by omega)]
    refine oF_add (oF_add (oF_add ?_))
    simp only [Int.toNat_natCast]
    rw [show 5 + (2 + (1 + j * 1)) = 8 + j * 1 by omega]
    exact Hs
  · unfold laws_heldVoiceS.B29
    refine brd (fun hc => by omega) fun hc => ?_
    have X := Ext.refl h
    have Hn := held_B25 (N2 := N2) (Post := Post) (c := c) (k := k + 3) hi hl R E (by omega) (by omega) (by omega) (by omega) (by omega) (by omega) fun h' x' => ?_
    · exact Hn
    · have := H h' (X.trans x')
      rw [show k + (32 + n_RingS v.Pipe.Right + n_RingS v.Pipe.Left + v.Pipe.Scatter.length + v.Bow.Neck.Samples.length + v.Bow.Bridge.Samples.length) = k + 3 + (29 + n_RingS v.Pipe.Right + n_RingS v.Pipe.Left + v.Pipe.Scatter.length + v.Bow.Neck.Samples.length + v.Bow.Bridge.Samples.length) by omega] at this
      exact this
theorem held_HEAD {N2 : (Option Addr × Nat × Nat × Int × Int) → Heap → Prop} {Post : Value → Heap → Prop} {a0 : Addr} {l c i k : Nat} {u v : GVoice} (hi : i < l) (hl : l ≤ 1073741824) (R : RdP rVoice h (a0.add (i * 45)) u) (E : hHEAD u v k) (s0 : v.String.Loop.Samples.length ≤ 1048576) (s1 : w_RingS v.Pipe.Right ≤ 1048576) (s2 : w_RingS v.Pipe.Left ≤ 1048576) (s3 : v.Pipe.Scatter.length ≤ 1048576) (s4 : v.Bow.Neck.Samples.length ≤ 1048576) (s5 : v.Bow.Bridge.Samples.length ≤ 1048576) (hk : k + (39 + v.String.Loop.Samples.length + n_RingS v.Pipe.Right + n_RingS v.Pipe.Left + v.Pipe.Scatter.length + v.Bow.Neck.Samples.length + v.Bow.Bridge.Samples.length) ≤ 1073741824)
    (H : ∀ h', Ext h h' → N2 (some a0, l, c, ((k + (39 + v.String.Loop.Samples.length + n_RingS v.Pipe.Right + n_RingS v.Pipe.Left + v.Pipe.Scatter.length + v.Bow.Neck.Samples.length + v.Bow.Bridge.Samples.length) : Nat) : Int), ((i + 1 : Nat) : Int)) h') : laws_heldVoiceS.B2 Post N2 (some a0, l, c, (k : Int), (i : Int)) h := by
  obtain ⟨e0, e1, e2, e3, e4, e5, e6, e7, E⟩ := E
  have f0 : n_Float32S v.String.Loop.Samples = v.String.Loop.Samples.length := rfl
  have f3 : n_Float32S v.Pipe.Scatter = v.Pipe.Scatter.length := rfl
  have f4 : n_Float32S v.Bow.Neck.Samples = v.Bow.Neck.Samples.length := rfl
  have f5 : n_Float32S v.Bow.Bridge.Samples = v.Bow.Bridge.Samples.length := rfl
  unfold laws_heldVoiceS.B2
  refine brd (fun hc => ?_) fun hc => by omega
  have X := Ext.refl h
  have w0 : IntKind.i64.wrap (((k : Nat) : Int) + 1) = ((k + 1 : Nat) : Int) := wrap64_succ (by omega)
  have w1 : IntKind.i64.wrap (((k + 1 : Nat) : Int) + 1) = ((k + 2 : Nat) : Int) := wrap64_succ (by omega)
  have w2 : IntKind.i64.wrap (((k + 2 : Nat) : Int) + 1) = ((k + 3 : Nat) : Int) := wrap64_succ (by omega)
  have w3 : IntKind.i64.wrap (((k + 3 : Nat) : Int) + 1) = ((k + 4 : Nat) : Int) := wrap64_succ (by omega)
  have w4 : IntKind.i64.wrap (((k + 4 : Nat) : Int) + 1) = ((k + 5 : Nat) : Int) := wrap64_succ (by omega)
  simp only [w0, w1, w2, w3, w4]
  clear w0 w1 w2 w3 w4
  refine idxs (by omega) (by omega) (R.heldI0 e0 ?_)
  refine idxs (by omega) (by omega) (R.heldI (off := 1) e1 ?_)
  refine idxs (by omega) (by omega) (R.heldI (off := 2) e2 ?_)
  refine idxs (by omega) (by omega) (R.heldB (off := 3) e3 ?_)
  refine idxs (by omega) (by omega) (R.heldF (off := 4) e4 ?_)
  refine idxs (by omega) (by omega) (R.oL (off := 5) fun b1 l1 c1 S1 => ?_)
  rw [e5] at S1
  refine goX (held_Float32S_c (xs := v.String.Loop.Samples) (k + 5) S1 (by (try dsimp only [w_Float32S]); omega) (by (try dsimp only [n_Float32S]); omega)) fun h' x' => as_i (br_f (decide_eq_false (by omega)) ?_)
  have R := R.ext x'
  have X := X.trans x'
  clear S1
  have w0 : IntKind.i64.wrap (((k + 5 + n_Float32S v.String.Loop.Samples : Nat) : Int) + 1) = ((k + 5 + n_Float32S v.String.Loop.Samples + 1 : Nat) : Int) := wrap64_succ (by omega)
  have w1 : IntKind.i64.wrap (((k + 5 + n_Float32S v.String.Loop.Samples + 1 : Nat) : Int) + 1) = ((k + 5 + n_Float32S v.String.Loop.Samples + 2 : Nat) : Int) := wrap64_succ (by omega)
  simp only [w0, w1]
  clear w0 w1
  refine idxs (by omega) (by omega) (oI_add (R.heldI (off := 6) e6 ?_))
  refine idxs (by omega) (by omega) (oI_add (R.heldI (off := 7) e7 ?_))
  have Hn := held_B20 (N2 := N2) (Post := Post) (c := c) (k := k + 5 + n_Float32S v.String.Loop.Samples + 2) hi hl R E (by omega) (by omega) (by omega) (by omega) (by omega) (by omega) fun h' x' => ?_
  · exact Hn
  · have := H h' (X.trans x')
    rw [show k + (39 + v.String.Loop.Samples.length + n_RingS v.Pipe.Right + n_RingS v.Pipe.Left + v.Pipe.Scatter.length + v.Bow.Neck.Samples.length + v.Bow.Bridge.Samples.length) = k + 5 + n_Float32S v.String.Loop.Samples + 2 + (32 + n_RingS v.Pipe.Right + n_RingS v.Pipe.Left + v.Pipe.Scatter.length + v.Bow.Neck.Samples.length + v.Bow.Bridge.Samples.length) by omega] at this
    exact this
theorem hE_mk (v : GVoice) (k : Nat) : hHEAD (mkE_Voice v k) v k :=
  ⟨rfl, rfl, rfl, rfl, rfl, rfl, rfl, rfl, rfl, rfl, rfl, rfl, rfl, rfl, rfl, rfl, rfl, rfl, rfl, rfl, rfl, rfl, rfl, rfl, rfl, rfl, rfl, rfl, rfl, rfl, rfl, rfl, rfl⟩
theorem w_voice_parts (v : GVoice) : w_Voice v = v.String.Loop.Samples.length + (w_RingS v.Pipe.Right + w_RingS v.Pipe.Left + v.Pipe.Scatter.length) + (v.Bow.Neck.Samples.length + v.Bow.Bridge.Samples.length) := rfl
theorem nwE_Voice (v : GVoice) : nE_Voice v ≤ 39 + 8 * w_Voice v := by
  have h1 := nw_RingS v.Pipe.Right
  have h2 := nw_RingS v.Pipe.Left
  have h3 := w_voice_parts v
  unfold nE_Voice
  omega
def n_VoiceS (xs : List GVoice) : Nat := nL nE_Voice xs
def mk_VoiceS (xs : List GVoice) (k : Nat) : List GVoice := mkL mkE_Voice nE_Voice xs k
theorem nw_VoiceS (xs : List GVoice) : n_VoiceS xs ≤ 64 * w_VoiceS xs := by
  unfold n_VoiceS w_VoiceS
  induction xs with
  | nil => simp [nL]
  | cons x xs ih =>
    have := nwE_Voice x
    simp only [nL, List.length_cons] at *; omega
theorem mark_VoiceS_c {h0 : Heap} {B L : List Blk} {b : Option Addr} {l c : Nat} {xs : List GVoice} (O0 : SlO T_impl_Voice rVoice B b l c xs) (M0 : Mem h0 h (B ++ L)) (k : Nat) (hw0 : w_VoiceS xs ≤ 1048576) (hk : k + n_VoiceS xs ≤ 1073741824) :
    CALL prg f_laws_markVoiceS #[.slice b l c, .int .i64 (k : Int)] (fun u h' => u = .int .i64 ((k + n_VoiceS xs : Nat) : Int) ∧ ∃ B', SlO T_impl_Voice rVoice B' b l c (mk_VoiceS xs k) ∧ Mem h0 h' (B' ++ L)) h := by
  have hx := O0.len
  have hw : w_VoiceS xs = xs.length + nL w_Voice xs := rfl
  refine laws_markVoiceS.call ?_
  refine loop (fun x hh => ∃ (n : Nat) (B : List Blk), x = (b, l, c, ((k + nL nE_Voice (xs.take n) : Nat) : Int), (n : Int)) ∧ n ≤ l ∧ SlO T_impl_Voice rVoice B b l c (mkL mkE_Voice nE_Voice (xs.take n) k ++ xs.drop n) ∧ Mem h0 hh (B ++ L)) (fun x => (l - x.2.2.2.2).toNat) ⟨0, B, rfl, by omega, by simpa [mkL] using O0, M0⟩ ?_
  rintro x hh ⟨n, B, rfl, hn, O, M⟩
  by_cases hc : n < l
  · have h4 := nL_snoc (n := nE_Voice) (xs := xs) (i := n) (by omega)
    have h5 : nL nE_Voice (xs.take (n + 1)) ≤ n_VoiceS xs := nL_take_le xs (n + 1)
    have h6 : w_Voice xs[n]! ≤ nL w_Voice xs := nL_mem (by omega)
    have h7 := w_voice_parts xs[n]!
    obtain ⟨a0, F', L', rfl, P, hs, close⟩ := O.elem M (i := n) (by omega)
    rw [mkL_at (by omega)] at P
    have P : Pt rVoice h0 hh (a0.add (n * 45)) F' L' xs[n]! := P
    refine mark_Voice_go (by omega) (by omega) P (by omega) (by omega) (by omega) (by omega) (by omega) (by omega) (by show k + nL nE_Voice (xs.take n) + nE_Voice xs[n]! ≤ _; omega) fun h' P => ?_
    obtain ⟨B', O', M'⟩ := close _ _ _ P
    have st := mkL_step (mk := mkE_Voice) (n := nE_Voice) (k := k) (xs := xs) (i := n) (by omega)
    have O' : SlO T_impl_Voice rVoice B' (some a0) l c ((mkL mkE_Voice nE_Voice (xs.take n) k ++ xs.drop n).set n (mkE_Voice xs[n]! (k + nL nE_Voice (xs.take n)))) := O'
    rw [st] at O'
    refine ⟨⟨n + 1, B', ?_, by omega, O', M'⟩, by show _ < _; simp; omega⟩
    rw [h4, Nat.add_assoc]
    rfl
  · unfold laws_markVoiceS.B2
    refine brd (fun hc => by omega) fun _ => ?_
    obtain rfl : n = l := by omega
    have e : xs.take n = xs := by rw [← hx]; exact List.take_length
    have e2 : xs.drop n = [] := List.drop_of_length_le (by omega)
    rw [e, e2, List.append_nil] at O
    rw [e]
    exact ⟨rfl, B, O, M⟩
theorem held_VoiceS_c {b : Option Addr} {l c : Nat} {xs : List GVoice} (k : Nat) (S : SlR rVoice h b l c (mk_VoiceS xs k)) (hw0 : w_VoiceS xs ≤ 1048576) (hk : k + n_VoiceS xs ≤ 1073741824) :
    CALL prg f_laws_heldVoiceS #[.slice b l c, .int .i64 (k : Int)] (fun u h' => u = .int .i64 ((k + n_VoiceS xs : Nat) : Int) ∧ Ext h h') h := by
  have hx : xs.length = l := by have := S.len; rwa [mk_VoiceS, mkL_len] at this
  have hw : w_VoiceS xs = xs.length + nL w_Voice xs := rfl
  refine laws_heldVoiceS.call ?_
  refine loop (fun x hh => ∃ n : Nat, x = (b, l, c, ((k + nL nE_Voice (xs.take n) : Nat) : Int), (n : Int)) ∧ n ≤ l ∧ Ext h hh) (fun x => (l - x.2.2.2.2).toNat) ⟨0, rfl, by omega, Ext.refl _⟩ ?_
  rintro x hh ⟨n, rfl, hn, X⟩
  by_cases hc : n < l
  · have h4 := nL_snoc (n := nE_Voice) (xs := xs) (i := n) (by omega)
    have h5 : nL nE_Voice (xs.take (n + 1)) ≤ n_VoiceS xs := nL_take_le xs (n + 1)
    have h6 : w_Voice xs[n]! ≤ nL w_Voice xs := nL_mem (by omega)
    have h7 := w_voice_parts xs[n]!
    have hm : (mk_VoiceS xs k)[n]! = mkE_Voice xs[n]! (k + nL nE_Voice (xs.take n)) := by unfold mk_VoiceS; rw [mkL_get (by omega)]
    obtain ⟨a0, rfl, R⟩ := (S.ext X).elem (i := n) hc szp_Voice
    rw [hm] at R
    have R : RdP rVoice hh (a0.add (n * 45)) (mkE_Voice xs[n]! (k + nL nE_Voice (xs.take n))) := R
    refine held_HEAD (v := xs[n]!) hc (by omega) R (hE_mk _ _) (by omega) (by omega) (by omega) (by omega) (by omega) (by omega) (by show k + nL nE_Voice (xs.take n) + nE_Voice xs[n]! ≤ _; omega) fun h' x' => ?_
    refine ⟨⟨n + 1, ?_, by omega, X.trans x'⟩, by show _ < _; simp; omega⟩
    rw [h4, Nat.add_assoc]
    rfl
  · unfold laws_heldVoiceS.B2
    refine brd (fun hc => by omega) fun _ => ?_
    obtain rfl : n = l := by omega
    have e : xs.take n = xs := by rw [← hx]; exact List.take_length
    rw [e]
    exact ⟨rfl, X⟩
def n_Player (x : GPlayer) : Nat := n_Score x.Score + n_VoiceS x.Voices
def mk_Player (x : GPlayer) (k : Nat) : GPlayer := { x with Score := mk_Score x.Score (k), Voices := mk_VoiceS x.Voices (k + n_Score x.Score) }
theorem nw_Player (x : GPlayer) : n_Player x ≤ 64 * w_Player x := by
  have h0 := nw_Score x.Score
  have h1 := nw_VoiceS x.Voices
  have e1 : n_Player x = n_Score x.Score + n_VoiceS x.Voices := rfl
  have e2 : w_Player x = w_Score x.Score + w_VoiceS x.Voices := rfl
  omega
theorem mark_Player_c {h0 : Heap} {B L : List Blk} {cs : Array Value} {x : GPlayer} (O : rPlayer.ow B cs.toList x) (M : Mem h0 h (B ++ L)) (k : Nat) (hw0 : w_Player x ≤ 1048576) (hk : k + n_Player x ≤ 1073741824) :
    CALL prg f_laws_markPlayer #[.agg cs, .int .i64 (k : Int)] (fun u h' => u = .int .i64 ((k + n_Player x : Nat) : Int) ∧ ∃ B', rPlayer.ow B' cs.toList (mk_Player x k) ∧ Mem h0 h' (B' ++ L)) h := by
  have hw : w_Player x = w_Score x.Score + w_VoiceS x.Voices := rfl
  have hn : n_Player x = n_Score x.Score + n_VoiceS x.Voices := rfl
  refine laws_markPlayer.call (M.alc fun g1 h1 x1 M => ?_)
  obtain ⟨Bm, Br, hB, Om, reb⟩ := ow_upd O foc_Player_Score
  refine M.lda .here (by have := osz O rfl; rw [this]; decide) ?_
  rw [← ext_part] at Om
  refine (mark_Score_c (x := x.Score) Om (M.cnt (W := Bm ++ (Br ++ ((g1, T_impl_Player, cs) :: L))) (fun p => by have := hB p; simp only [cnt_app, cnt_cons, cnt_nil] at *; omega)) (k) (by omega) (by omega)).mono ?_
  rintro _ h' ⟨rfl, B', O', M⟩
  obtain ⟨B2, O, hB2⟩ := reb B' _ (by rw [← ext_part]; exact O')
  refine as_i ?_
  have M := M.cnt (W := (g1, T_impl_Player, cs) :: (B2 ++ L)) (fun p => by have := hB2 p; simp only [cnt_app, cnt_cons, cnt_nil] at *; omega)
  clear reb
  obtain ⟨Bm, Br, hB, Om, reb⟩ := ow_upd O foc_Player_Voices
  obtain ⟨b, l, c, e, Om⟩ := Om
  refine o_l ((M.cell .here _).trans (cell_part e)) ?_
  refine (mark_VoiceS_c (xs := x.Voices) Om (M.cnt (W := Bm ++ (Br ++ ((g1, T_impl_Player, cs) :: L))) (fun p => by have := hB p; simp only [cnt_app, cnt_cons, cnt_nil] at *; omega)) (k + n_Score x.Score) (by omega) (by omega)).mono ?_
  rintro _ h' ⟨rfl, B', O', M⟩
  obtain ⟨B2, O, hB2⟩ := reb B' _ ⟨b, l, c, e, O'⟩
  refine as_i ?_
  have M := M.cnt (W := (g1, T_impl_Player, cs) :: (B2 ++ L)) (fun p => by have := hB2 p; simp only [cnt_app, cnt_cons, cnt_nil] at *; omega)
  clear reb
  exact ⟨by congr 2 <;> (unfold n_Player; omega), B2, O, M.drop⟩
theorem held_Player_c {cs : Array Value} {x : GPlayer} (k : Nat) (R0 : rPlayer.rd h cs.toList (mk_Player x k)) (hw0 : w_Player x ≤ 1048576) (hk : k + n_Player x ≤ 1073741824) :
    CALL prg f_laws_heldPlayer #[.agg cs, .int .i64 (k : Int)] (fun u h' => u = .int .i64 ((k + n_Player x : Nat) : Int) ∧ Ext h h') h := by
  have hw : w_Player x = w_Score x.Score + w_VoiceS x.Voices := rfl
  have hn : n_Player x = n_Score x.Score + n_VoiceS x.Voices := rfl
  refine laws_heldPlayer.call (alcR R0 fun g1 h1 X R => ?_)
  refine R.lda2 foc_Player_Score rfl fun c1 R1 => goX (held_Score_c (x := x.Score) (k) R1 (by omega) (by omega)) fun h' x' => as_i (br_f (decide_eq_false (by omega)) ?_)
  have R := R.ext x'
  have X := X.trans x'
  refine R.oL2 fun b1 l1 c1 S1 => goX (held_VoiceS_c (xs := x.Voices) (k + n_Score x.Score) S1 (by omega) (by omega)) fun h' x' => as_i (br_f (decide_eq_false (by omega)) ?_)
  have R := R.ext x'
  have X := X.trans x'
  exact ⟨by congr 2 <;> (unfold n_Player; omega), X⟩

end
end Go.Sx
