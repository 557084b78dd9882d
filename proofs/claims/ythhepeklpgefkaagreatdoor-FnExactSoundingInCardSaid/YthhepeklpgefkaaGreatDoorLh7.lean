/- The laws' helpers that mark voices and players. -/
import Derived.Test.YthhepeklpgefkaaGreatDoorLmt
import Derived.Test.YthhepeklpgefkaaGreatDoorLk3
set_option linter.unusedVariables false
set_option linter.unusedSimpArgs false
namespace Go.Sx
open Go.Proofs
set_option maxRecDepth 100000
set_option maxHeartbeats 2000000

/-- An array whose first j floats are marked. -/
def mkA (xs : List Nat) (k j : Nat) : List Nat := (List.range j).map (fun i => FloatKind.f32.nearest ((k + i : Nat) : Int)) ++ xs.drop j
def mkQ (k n : Nat) : List Nat := (List.range n).map fun i => FloatKind.f32.nearest ((k + i : Nat) : Int)
theorem mkA_zero (xs : List Nat) (k : Nat) : mkA xs k 0 = xs := by simp [mkA]
theorem mkA_all {xs : List Nat} {n : Nat} (k : Nat) (h : xs.length = n) : mkA xs k n = mkQ k n := by
  unfold mkA mkQ
  rw [List.drop_of_length_le (by omega), List.append_nil]
theorem mkA_set {xs : List Nat} {j : Nat} (k : Nat) (h : j < xs.length) : (mkA xs k j).set j (FloatKind.f32.nearest ((k + j : Nat) : Int)) = mkA xs k (j + 1) := by
  unfold mkA
  rw [List.set_append_right _ _ (by simp)]
  simp only [List.length_map, List.length_range, Nat.sub_self]
  rw [List.drop_eq_getElem_cons h, List.set_cons_zero, List.range_succ, List.map_append, List.append_assoc]
  rfl
abbrev SJ := Option Addr × Nat × Nat × Int × Int × Int
section
variable {h0 h : Heap}
/-- A loop that marks an array within a voice. -/
theorem markA {B : (SJ → Heap → Prop) → SJ → Heap → Prop} {n off : Nat} {get : GVoice → List Nat} {put : GVoice → List Nat → GVoice} (Fc : Foc rVoice (rArr n (rF .f32)) off get put) (hpg : ∀ v, put v (get v) = v) (hpp : ∀ a x y, put (put a x) y = put a y) (hg : ∀ a x, get (put a x) = x)
    {a0 : Addr} {l c i k : Nat} {F : Fr} {L : List Blk} {v : GVoice} (P : Pt rVoice h0 h (a0.add (i * 45)) F L v) (hk : k + n ≤ 2147483648)
    (step : ∀ (N : SJ → Heap → Prop) (j : Nat) (hh : Heap), j < n → (ST1 hh ((a0.add (i * 45)).add (off + j * 1)) (.float .f32 (FloatKind.f32.nearest ((k + j : Nat) : Int))) fun h' => N (some a0, l, c, ((k + j + 1 : Nat) : Int), (i : Int), ((j + 1 : Nat) : Int)) h') → B N (some a0, l, c, ((k + j : Nat) : Int), (i : Int), (j : Int)) hh)
    (last : ∀ (N : SJ → Heap → Prop) (hh : Heap), Pt rVoice h0 hh (a0.add (i * 45)) F L (put v (mkQ k n)) → B N (some a0, l, c, ((k + n : Nat) : Int), (i : Int), (n : Int)) hh) : LOOP B (some a0, l, c, (k : Int), (i : Int), 0) h := by
  have hl : (get v).length = n := (P.rd.foc Fc).len
  refine loop (fun x hh => ∃ j : Nat, x = (some a0, l, c, ((k + j : Nat) : Int), (i : Int), (j : Int)) ∧ j ≤ n ∧ Pt rVoice h0 hh (a0.add (i * 45)) F L (put v (mkA (get v) k j))) (fun x => ((n : Int) - x.2.2.2.2.2).toNat) ⟨0, rfl, by omega, by rw [mkA_zero, hpg]; exact P⟩ ?_
  rintro x hh ⟨j, rfl, hj, P⟩
  by_cases e : j = n
  · subst e
    rw [mkA_all k hl] at P
    exact last _ hh P
  · refine step _ j hh (by omega) ?_
    refine P.st (B' := []) ((Fc.trans (Foc.arr (rF .f32) j (by omega))).at rfl) rfl ⟨rfl, _, rfl, fw_nearest .f32 _⟩ fun h' P => ?_
    have P : Pt rVoice h0 h' (a0.add (i * 45)) F L (put (put v (mkA (get v) k j)) ((get (put v (mkA (get v) k j))).set j (FloatKind.f32.nearest ((k + j : Nat) : Int)))) := P
    rw [hg, hpp, mkA_set k (by omega)] at P
    exact ⟨⟨j + 1, rfl, by omega, P⟩, by show ((n : Int) - ((j + 1 : Nat) : Int)).toNat < ((n : Int) - (j : Int)).toNat; omega⟩
def gB80 (v : GVoice) (k : Nat) : GVoice :=
  let v := { v with Bow := { v.Bow with Damp := { v.Bow.Damp with S := mkQ k 2 } } }
  let v := { v with Bow := { v.Bow with Slope := FloatKind.f32.nearest ((k + 2 : Nat) : Int) } }
  let v := { v with Bow := { v.Bow with Loss := FloatKind.f32.nearest ((k + 3 : Nat) : Int) } }
  v
def gB75 (v : GVoice) (k : Nat) : GVoice :=
  let v := { v with Bow := { v.Bow with Damp := { v.Bow.Damp with C := mkQ k 3 } } }
  gB80 v (k + 3)
def gB54 (v : GVoice) (k : Nat) : GVoice :=
  let v := { v with Pipe := { v.Pipe with End := { v.Pipe.End with S := mkQ k 2 } } }
  let v := { v with Pipe := { v.Pipe with Open := (Int.tmod ((k + 2 : Nat) : Int) 3 == 0) } }
  let v := { v with Pipe := { v.Pipe with Loss := FloatKind.f32.nearest ((k + 3 : Nat) : Int) } }
  let v := { v with Pipe := { v.Pipe with Rest := FloatKind.f32.nearest ((k + 4 : Nat) : Int) } }
  let v := { v with Pipe := { v.Pipe with Slope := FloatKind.f32.nearest ((k + 5 : Nat) : Int) } }
  let k1 := k + 6 + n_Float32S v.Bow.Neck.Samples
  let v := { v with Bow := { v.Bow with Neck := { v.Bow.Neck with Samples := mk_Float32S v.Bow.Neck.Samples (k + 6) } } }
  let v := { v with Bow := { v.Bow with Neck := { v.Bow.Neck with At := ((k1 : Nat) : Int) } } }
  let k2 := k1 + 1 + n_Float32S v.Bow.Bridge.Samples
  let v := { v with Bow := { v.Bow with Bridge := { v.Bow.Bridge with Samples := mk_Float32S v.Bow.Bridge.Samples (k1 + 1) } } }
  let v := { v with Bow := { v.Bow with Bridge := { v.Bow.Bridge with At := ((k2 : Nat) : Int) } } }
  let v := { v with Bow := { v.Bow with Damp := { v.Bow.Damp with Kind := ((k2 + 1 : Nat) : Int) } } }
  gB75 v (k2 + 2)
def gB49 (v : GVoice) (k : Nat) : GVoice :=
  let v := { v with Pipe := { v.Pipe with End := { v.Pipe.End with C := mkQ k 3 } } }
  gB54 v (k + 3)
def gB37 (v : GVoice) (k : Nat) : GVoice :=
  let v := { v with String := { v.String with Damp := { v.String.Damp with S := mkQ k 2 } } }
  let v := { v with String := { v.String with Loss := FloatKind.f32.nearest ((k + 2 : Nat) : Int) } }
  let k1 := k + 3 + n_RingS v.Pipe.Right
  let v := { v with Pipe := { v.Pipe with Right := mk_RingS v.Pipe.Right (k + 3) } }
  let k2 := k1 + n_RingS v.Pipe.Left
  let v := { v with Pipe := { v.Pipe with Left := mk_RingS v.Pipe.Left (k1) } }
  let k3 := k2 + n_Float32S v.Pipe.Scatter
  let v := { v with Pipe := { v.Pipe with Scatter := mk_Float32S v.Pipe.Scatter (k2) } }
  let v := { v with Pipe := { v.Pipe with End := { v.Pipe.End with Kind := ((k3 : Nat) : Int) } } }
  gB49 v (k3 + 1)
def gB32 (v : GVoice) (k : Nat) : GVoice :=
  let v := { v with String := { v.String with Damp := { v.String.Damp with C := mkQ k 3 } } }
  gB37 v (k + 3)
def gB25 (v : GVoice) (k : Nat) : GVoice :=
  let v := { v with String := { v.String with Tune := { v.String.Tune with S := mkQ k 2 } } }
  let v := { v with String := { v.String with Damp := { v.String.Damp with Kind := ((k + 2 : Nat) : Int) } } }
  gB32 v (k + 3)
def gB20 (v : GVoice) (k : Nat) : GVoice :=
  let v := { v with String := { v.String with Tune := { v.String.Tune with C := mkQ k 3 } } }
  gB25 v (k + 3)
def mkE_Voice (v : GVoice) (k : Nat) : GVoice :=
  let v := { v with Note := ((k : Nat) : Int) }
  let v := { v with Instrument := ((k + 1 : Nat) : Int) }
  let v := { v with Born := ((k + 2 : Nat) : Int) }
  let v := { v with Gone := (Int.tmod ((k + 3 : Nat) : Int) 3 == 0) }
  let v := { v with Drive := FloatKind.f32.nearest ((k + 4 : Nat) : Int) }
  let k1 := k + 5 + n_Float32S v.String.Loop.Samples
  let v := { v with String := { v.String with Loop := { v.String.Loop with Samples := mk_Float32S v.String.Loop.Samples (k + 5) } } }
  let v := { v with String := { v.String with Loop := { v.String.Loop with At := ((k1 : Nat) : Int) } } }
  let v := { v with String := { v.String with Tune := { v.String.Tune with Kind := ((k1 + 1 : Nat) : Int) } } }
  gB20 v (k1 + 2)
theorem st_add {q : Addr} {a b : Nat} {v : Value} {K : Heap → Prop} (H : ST1 h (q.add (a + b)) v K) : ST1 h ((q.add a).add b) v K := by rw [add_add']; exact H
theorem cell_add {q : Addr} {a b : Nat} {v : Option Value} (e : cell h (q.add (a + b)) = v) : cell h ((q.add a).add b) = v := by rw [add_add']; exact e
theorem mark_B80 {N2 : (Option Addr × Nat × Nat × Int × Int) → Heap → Prop} {Post : Value → Heap → Prop} {a0 : Addr} {l c i k : Nat} {F : Fr} {L : List Blk} {v : GVoice} (hi : i < l) (hl : l ≤ 1073741824) (P : Pt rVoice h0 h (a0.add (i * 45)) F L v) (hk : k + (4) ≤ 1073741824)
    (H : ∀ h', Pt rVoice h0 h' (a0.add (i * 45)) F L (gB80 v k) → N2 (some a0, l, c, ((k + (4) : Nat) : Int), ((i + 1 : Nat) : Int)) h') : LOOP (laws_markVoiceS.B80 N2 Post) (some a0, l, c, (k : Int), (i : Int), 0) h := by
  refine markA (n := 2) (off := 41) ((foc_Voice_Bow.trans (foc_Bow_Damp.trans foc_Filter_S)).at rfl) (fun _ => rfl) (fun _ _ _ => rfl) (fun _ _ => rfl) P (by omega) (fun N j hh hj Hs => ?_) fun N hh P => ?_
  · refine brd (fun hc => idxs (by omega) (by omega) (idx (by omega) (by omega) ?_)) fun hc => by omega
    rw [wrap64_succ (by omega), wrap64_succ (by omega)]
    refine st_add (st_add (st_add ?_))
    simp only [Int.toNat_natCast]
    rw [show 33 + (4 + (4 + j * 1)) = 41 + j * 1 by omega]
    exact Hs
  · unfold laws_markVoiceS.B80
    refine brd (fun hc => by omega) fun hc => ?_
    have w0 : IntKind.i64.wrap (((k + 2 : Nat) : Int) + 1) = ((k + 2 + 1 : Nat) : Int) := wrap64_succ (by omega)
    have w1 : IntKind.i64.wrap (((k + 2 + 1 : Nat) : Int) + 1) = ((k + 2 + 2 : Nat) : Int) := wrap64_succ (by omega)
    simp only [w0, w1]
    clear w0 w1
    refine idxs (by omega) (by omega) (st_add (P.stF (off := 43) (fw_nearest _ _) fun h' P => ?_))
    refine idxs (by omega) (by omega) (st_add (P.stF (off := 44) (fw_nearest _ _) fun h' P => ?_))
    rw [wrap64_succ (by omega)]
    have := H _ P
    exact this
theorem mark_B75 {N2 : (Option Addr × Nat × Nat × Int × Int) → Heap → Prop} {Post : Value → Heap → Prop} {a0 : Addr} {l c i k : Nat} {F : Fr} {L : List Blk} {v : GVoice} (hi : i < l) (hl : l ≤ 1073741824) (P : Pt rVoice h0 h (a0.add (i * 45)) F L v) (hk : k + (7) ≤ 1073741824)
    (H : ∀ h', Pt rVoice h0 h' (a0.add (i * 45)) F L (gB75 v k) → N2 (some a0, l, c, ((k + (7) : Nat) : Int), ((i + 1 : Nat) : Int)) h') : LOOP (laws_markVoiceS.B75 N2 Post) (some a0, l, c, (k : Int), (i : Int), 0) h := by
  refine markA (n := 3) (off := 38) ((foc_Voice_Bow.trans (foc_Bow_Damp.trans foc_Filter_C)).at rfl) (fun _ => rfl) (fun _ _ _ => rfl) (fun _ _ => rfl) P (by omega) (fun N j hh hj Hs => ?_) fun N hh P => ?_
  · refine brd (fun hc => idxs (by omega) (by omega) (idx (by omega) (by omega) ?_)) fun hc => by omega
    rw [wrap64_succ (by omega), wrap64_succ (by omega)]
    refine st_add (st_add (st_add ?_))
    simp only [Int.toNat_natCast]
    rw [show 33 + (4 + (1 + j * 1)) = 38 + j * 1 by omega]
    exact Hs
  · unfold laws_markVoiceS.B75
    refine brd (fun hc => by omega) fun hc => ?_
    have Hn := mark_B80 (N2 := N2) (Post := Post) (c := c) (k := k + 3) hi hl P  (by (try dsimp only); omega) fun h' P => ?_
    · exact Hn
    · have := H h' P
      rw [show k + (7) = k + 3 + (4) by omega] at this
      exact this
theorem mark_B54 {N2 : (Option Addr × Nat × Nat × Int × Int) → Heap → Prop} {Post : Value → Heap → Prop} {a0 : Addr} {l c i k : Nat} {F : Fr} {L : List Blk} {v : GVoice} (hi : i < l) (hl : l ≤ 1073741824) (P : Pt rVoice h0 h (a0.add (i * 45)) F L v) (s0 : v.Bow.Neck.Samples.length ≤ 1048576) (s1 : v.Bow.Bridge.Samples.length ≤ 1048576) (hk : k + (16 + v.Bow.Neck.Samples.length + v.Bow.Bridge.Samples.length) ≤ 1073741824)
    (H : ∀ h', Pt rVoice h0 h' (a0.add (i * 45)) F L (gB54 v k) → N2 (some a0, l, c, ((k + (16 + v.Bow.Neck.Samples.length + v.Bow.Bridge.Samples.length) : Nat) : Int), ((i + 1 : Nat) : Int)) h') : LOOP (laws_markVoiceS.B54 N2 Post) (some a0, l, c, (k : Int), (i : Int), 0) h := by
  refine markA (n := 2) (off := 27) ((foc_Voice_Pipe.trans (foc_Pipe_End.trans foc_Filter_S)).at rfl) (fun _ => rfl) (fun _ _ _ => rfl) (fun _ _ => rfl) P (by omega) (fun N j hh hj Hs => ?_) fun N hh P => ?_
  · refine brd (fun hc => idxs (by omega) (by omega) (idx (by omega) (by omega) ?_)) fun hc => by omega
    rw [wrap64_succ (by omega), wrap64_succ (by omega)]
    refine st_add (st_add (st_add ?_))
    simp only [Int.toNat_natCast]
    rw [show 20 + (3 + (4 + j * 1)) = 27 + j * 1 by omega]
    exact Hs
  · unfold laws_markVoiceS.B54
    refine brd (fun hc => by omega) fun hc => ?_
    have w0 : IntKind.i64.wrap (((k + 2 : Nat) : Int) + 1) = ((k + 2 + 1 : Nat) : Int) := wrap64_succ (by omega)
    have w1 : IntKind.i64.wrap (((k + 2 + 1 : Nat) : Int) + 1) = ((k + 2 + 2 : Nat) : Int) := wrap64_succ (by omega)
    have w2 : IntKind.i64.wrap (((k + 2 + 2 : Nat) : Int) + 1) = ((k + 2 + 3 : Nat) : Int) := wrap64_succ (by omega)
    have w3 : IntKind.i64.wrap (((k + 2 + 3 : Nat) : Int) + 1) = ((k + 2 + 4 : Nat) : Int) := wrap64_succ (by omega)
    simp only [w0, w1, w2, w3]
    clear w0 w1 w2 w3
    refine nz (by decide) (idxs (by omega) (by omega) (st_add (P.stB (off := 29) fun h' P => ?_)))
    refine idxs (by omega) (by omega) (st_add (P.stF (off := 30) (fw_nearest _ _) fun h' P => ?_))
    refine idxs (by omega) (by omega) (st_add (P.stF (off := 31) (fw_nearest _ _) fun h' P => ?_))
    refine idxs (by omega) (by omega) (st_add (P.stF (off := 32) (fw_nearest _ _) fun h' P => ?_))
    refine idxs (by omega) (by omega) ?_
    obtain ⟨b2, l2, c2, Bs, Nn, eb, Ms, Os, hs2, back⟩ := P.slg lf_Voice_33.f
    refine o_l eb ((mark_Float32S_c Os Ms (k + 2 + 4) (by dsimp only [w_Float32S]; omega) (by dsimp only [n_Float32S]; omega)).mono ?_)
    rintro _ h' ⟨rfl, B', O', M'⟩
    have P := (back _ _ _ _ O' M').1
    clear back Os Ms hs2 eb O' M'
    refine as_i ?_
    dsimp only [n_Float32S] at P ⊢
    have w0 : IntKind.i64.wrap (((k + 2 + 4 + v.Bow.Neck.Samples.length : Nat) : Int) + 1) = ((k + 2 + 4 + v.Bow.Neck.Samples.length + 1 : Nat) : Int) := wrap64_succ (by omega)
    simp only [w0]
    clear w0
    refine idxs (by omega) (by omega) (st_add (P.stI (off := 34) fun h' P => ?_))
    refine idxs (by omega) (by omega) ?_
    obtain ⟨b2, l2, c2, Bs, Nn, eb, Ms, Os, hs2, back⟩ := P.slg lf_Voice_35.f
    refine o_l (cell_add eb) ((mark_Float32S_c Os Ms (k + 2 + 4 + v.Bow.Neck.Samples.length + 1) (by dsimp only [w_Float32S]; omega) (by dsimp only [n_Float32S]; omega)).mono ?_)
    rintro _ h' ⟨rfl, B', O', M'⟩
    have P := (back _ _ _ _ O' M').1
    clear back Os Ms hs2 eb O' M'
    refine as_i ?_
    dsimp only [n_Float32S] at P ⊢
    have w0 : IntKind.i64.wrap (((k + 2 + 4 + v.Bow.Neck.Samples.length + 1 + v.Bow.Bridge.Samples.length : Nat) : Int) + 1) = ((k + 2 + 4 + v.Bow.Neck.Samples.length + 1 + v.Bow.Bridge.Samples.length + 1 : Nat) : Int) := wrap64_succ (by omega)
    have w1 : IntKind.i64.wrap (((k + 2 + 4 + v.Bow.Neck.Samples.length + 1 + v.Bow.Bridge.Samples.length + 1 : Nat) : Int) + 1) = ((k + 2 + 4 + v.Bow.Neck.Samples.length + 1 + v.Bow.Bridge.Samples.length + 2 : Nat) : Int) := wrap64_succ (by omega)
    simp only [w0, w1]
    clear w0 w1
    refine idxs (by omega) (by omega) (st_add (st_add (P.stI (off := 36) fun h' P => ?_)))
    refine idxs (by omega) (by omega) (st_add (P.stI (off := 37) fun h' P => ?_))
    have Hn := mark_B75 (N2 := N2) (Post := Post) (c := c) (k := k + 2 + 4 + v.Bow.Neck.Samples.length + 1 + v.Bow.Bridge.Samples.length + 2) hi hl P  (by (try dsimp only); omega) fun h' P => ?_
    · exact Hn
    · have := H h' P
      rw [show k + (16 + v.Bow.Neck.Samples.length + v.Bow.Bridge.Samples.length) = k + 2 + 4 + v.Bow.Neck.Samples.length + 1 + v.Bow.Bridge.Samples.length + 2 + (7) by omega] at this
      exact this
theorem mark_B49 {N2 : (Option Addr × Nat × Nat × Int × Int) → Heap → Prop} {Post : Value → Heap → Prop} {a0 : Addr} {l c i k : Nat} {F : Fr} {L : List Blk} {v : GVoice} (hi : i < l) (hl : l ≤ 1073741824) (P : Pt rVoice h0 h (a0.add (i * 45)) F L v) (s0 : v.Bow.Neck.Samples.length ≤ 1048576) (s1 : v.Bow.Bridge.Samples.length ≤ 1048576) (hk : k + (19 + v.Bow.Neck.Samples.length + v.Bow.Bridge.Samples.length) ≤ 1073741824)
    (H : ∀ h', Pt rVoice h0 h' (a0.add (i * 45)) F L (gB49 v k) → N2 (some a0, l, c, ((k + (19 + v.Bow.Neck.Samples.length + v.Bow.Bridge.Samples.length) : Nat) : Int), ((i + 1 : Nat) : Int)) h') : LOOP (laws_markVoiceS.B49 N2 Post) (some a0, l, c, (k : Int), (i : Int), 0) h := by
  refine markA (n := 3) (off := 24) ((foc_Voice_Pipe.trans (foc_Pipe_End.trans foc_Filter_C)).at rfl) (fun _ => rfl) (fun _ _ _ => rfl) (fun _ _ => rfl) P (by omega) (fun N j hh hj Hs => ?_) fun N hh P => ?_
  · refine brd (fun hc => idxs (by omega) (by omega) (idx (by omega) (by omega) ?_)) fun hc => by omega
    rw [wrap64_succ (by omega), wrap64_succ (by omega)]
    refine st_add (st_add (st_add ?_))
    simp only [Int.toNat_natCast]
    rw [show 20 + (3 + (1 + j * 1)) = 24 + j * 1 by omega]
    exact Hs
  · unfold laws_markVoiceS.B49
    refine brd (fun hc => by omega) fun hc => ?_
    have Hn := mark_B54 (N2 := N2) (Post := Post) (c := c) (k := k + 3) hi hl P (by (try dsimp only); omega) (by (try dsimp only); omega) (by (try dsimp only); omega) fun h' P => ?_
    · exact Hn
    · have := H h' P
      rw [show k + (19 + v.Bow.Neck.Samples.length + v.Bow.Bridge.Samples.length) = k + 3 + (16 + v.Bow.Neck.Samples.length + v.Bow.Bridge.Samples.length) by omega] at this
      exact this
theorem mark_B37 {N2 : (Option Addr × Nat × Nat × Int × Int) → Heap → Prop} {Post : Value → Heap → Prop} {a0 : Addr} {l c i k : Nat} {F : Fr} {L : List Blk} {v : GVoice} (hi : i < l) (hl : l ≤ 1073741824) (P : Pt rVoice h0 h (a0.add (i * 45)) F L v) (s0 : w_RingS v.Pipe.Right ≤ 1048576) (s1 : w_RingS v.Pipe.Left ≤ 1048576) (s2 : v.Pipe.Scatter.length ≤ 1048576) (s3 : v.Bow.Neck.Samples.length ≤ 1048576) (s4 : v.Bow.Bridge.Samples.length ≤ 1048576) (hk : k + (23 + n_RingS v.Pipe.Right + n_RingS v.Pipe.Left + v.Pipe.Scatter.length + v.Bow.Neck.Samples.length + v.Bow.Bridge.Samples.length) ≤ 1073741824)
    (H : ∀ h', Pt rVoice h0 h' (a0.add (i * 45)) F L (gB37 v k) → N2 (some a0, l, c, ((k + (23 + n_RingS v.Pipe.Right + n_RingS v.Pipe.Left + v.Pipe.Scatter.length + v.Bow.Neck.Samples.length + v.Bow.Bridge.Samples.length) : Nat) : Int), ((i + 1 : Nat) : Int)) h') : LOOP (laws_markVoiceS.B37 N2 Post) (some a0, l, c, (k : Int), (i : Int), 0) h := by
  refine markA (n := 2) (off := 17) ((foc_Voice_String.trans (foc_String_Damp.trans foc_Filter_S)).at rfl) (fun _ => rfl) (fun _ _ _ => rfl) (fun _ _ => rfl) P (by omega) (fun N j hh hj Hs => ?_) fun N hh P => ?_
  · refine brd (fun hc => idxs (by omega) (by omega) (idx (by omega) (by omega) ?_)) fun hc => by omega
    rw [wrap64_succ (by omega), wrap64_succ (by omega)]
    refine st_add (st_add (st_add ?_))
    simp only [Int.toNat_natCast]
    rw [show 5 + (8 + (4 + j * 1)) = 17 + j * 1 by omega]
    exact Hs
  · unfold laws_markVoiceS.B37
    refine brd (fun hc => by omega) fun hc => ?_
    have w0 : IntKind.i64.wrap (((k + 2 : Nat) : Int) + 1) = ((k + 2 + 1 : Nat) : Int) := wrap64_succ (by omega)
    simp only [w0]
    clear w0
    refine idxs (by omega) (by omega) (st_add (P.stF (off := 19) (fw_nearest _ _) fun h' P => ?_))
    refine idxs (by omega) (by omega) ?_
    obtain ⟨b2, l2, c2, Bs, Nn, eb, Ms, Os, hs2, back⟩ := P.slg lf_Voice_20.f
    refine o_l eb ((mark_RingS_c Os Ms (k + 2 + 1) (by dsimp only [w_Float32S]; omega) (by dsimp only [n_Float32S]; omega)).mono ?_)
    rintro _ h' ⟨rfl, B', O', M'⟩
    have P := (back _ _ _ _ O' M').1
    clear back Os Ms hs2 eb O' M'
    refine as_i ?_
    dsimp only [n_Float32S] at P ⊢
    refine idxs (by omega) (by omega) ?_
    obtain ⟨b2, l2, c2, Bs, Nn, eb, Ms, Os, hs2, back⟩ := P.slg lf_Voice_21.f
    refine o_l (cell_add eb) ((mark_RingS_c Os Ms (k + 2 + 1 + n_RingS v.Pipe.Right) (by dsimp only [w_Float32S]; omega) (by dsimp only [n_Float32S]; omega)).mono ?_)
    rintro _ h' ⟨rfl, B', O', M'⟩
    have P := (back _ _ _ _ O' M').1
    clear back Os Ms hs2 eb O' M'
    refine as_i ?_
    dsimp only [n_Float32S] at P ⊢
    refine idxs (by omega) (by omega) ?_
    obtain ⟨b2, l2, c2, Bs, Nn, eb, Ms, Os, hs2, back⟩ := P.slg lf_Voice_22.f
    refine o_l (cell_add eb) ((mark_Float32S_c Os Ms (k + 2 + 1 + n_RingS v.Pipe.Right + n_RingS v.Pipe.Left) (by dsimp only [w_Float32S]; omega) (by dsimp only [n_Float32S]; omega)).mono ?_)
    rintro _ h' ⟨rfl, B', O', M'⟩
    have P := (back _ _ _ _ O' M').1
    clear back Os Ms hs2 eb O' M'
    refine as_i ?_
    dsimp only [n_Float32S] at P ⊢
    have w0 : IntKind.i64.wrap (((k + 2 + 1 + n_RingS v.Pipe.Right + n_RingS v.Pipe.Left + v.Pipe.Scatter.length : Nat) : Int) + 1) = ((k + 2 + 1 + n_RingS v.Pipe.Right + n_RingS v.Pipe.Left + v.Pipe.Scatter.length + 1 : Nat) : Int) := wrap64_succ (by omega)
    simp only [w0]
    clear w0
    refine idxs (by omega) (by omega) (st_add (P.stI (off := 23) fun h' P => ?_))
    have Hn := mark_B49 (N2 := N2) (Post := Post) (c := c) (k := k + 2 + 1 + n_RingS v.Pipe.Right + n_RingS v.Pipe.Left + v.Pipe.Scatter.length + 1) hi hl P (by (try dsimp only); omega) (by (try dsimp only); omega) (by (try dsimp only); omega) fun h' P => ?_
    · exact Hn
    · have := H h' P
      rw [show k + (23 + n_RingS v.Pipe.Right + n_RingS v.Pipe.Left + v.Pipe.Scatter.length + v.Bow.Neck.Samples.length + v.Bow.Bridge.Samples.length) = k + 2 + 1 + n_RingS v.Pipe.Right + n_RingS v.Pipe.Left + v.Pipe.Scatter.length + 1 + (19 + v.Bow.Neck.Samples.length + v.Bow.Bridge.Samples.length) by omega] at this
      exact this
theorem mark_B32 {N2 : (Option Addr × Nat × Nat × Int × Int) → Heap → Prop} {Post : Value → Heap → Prop} {a0 : Addr} {l c i k : Nat} {F : Fr} {L : List Blk} {v : GVoice} (hi : i < l) (hl : l ≤ 1073741824) (P : Pt rVoice h0 h (a0.add (i * 45)) F L v) (s0 : w_RingS v.Pipe.Right ≤ 1048576) (s1 : w_RingS v.Pipe.Left ≤ 1048576) (s2 : v.Pipe.Scatter.length ≤ 1048576) (s3 : v.Bow.Neck.Samples.length ≤ 1048576) (s4 : v.Bow.Bridge.Samples.length ≤ 1048576) (hk : k + (26 + n_RingS v.Pipe.Right + n_RingS v.Pipe.Left + v.Pipe.Scatter.length + v.Bow.Neck.Samples.length + v.Bow.Bridge.Samples.length) ≤ 1073741824)
    (H : ∀ h', Pt rVoice h0 h' (a0.add (i * 45)) F L (gB32 v k) → N2 (some a0, l, c, ((k + (26 + n_RingS v.Pipe.Right + n_RingS v.Pipe.Left + v.Pipe.Scatter.length + v.Bow.Neck.Samples.length + v.Bow.Bridge.Samples.length) : Nat) : Int), ((i + 1 : Nat) : Int)) h') : LOOP (laws_markVoiceS.B32 N2 Post) (some a0, l, c, (k : Int), (i : Int), 0) h := by
  refine markA (n := 3) (off := 14) ((foc_Voice_String.trans (foc_String_Damp.trans foc_Filter_C)).at rfl) (fun _ => rfl) (fun _ _ _ => rfl) (fun _ _ => rfl) P (by omega) (fun N j hh hj Hs => ?_) fun N hh P => ?_
  · refine brd (fun hc => idxs (by omega) (by omega) (idx (by omega) (by omega) ?_)) fun hc => by omega
    rw [wrap64_succ (by omega), wrap64_succ (by omega)]
    refine st_add (st_add (st_add ?_))
    simp only [Int.toNat_natCast]
    rw [show 5 + (8 + (1 + j * 1)) = 14 + j * 1 by omega]
    exact Hs
  · unfold laws_markVoiceS.B32
    refine brd (fun hc => by omega) fun hc => ?_
    have Hn := mark_B37 (N2 := N2) (Post := Post) (c := c) (k := k + 3) hi hl P (by (try dsimp only); omega) (by (try dsimp only); omega) (by (try dsimp only); omega) (by (try dsimp only); omega) (by (try dsimp only); omega) (by (try dsimp only); omega) fun h' P => ?_
    · exact Hn
    · have := H h' P
      rw [show k + (26 + n_RingS v.Pipe.Right + n_RingS v.Pipe.Left + v.Pipe.Scatter.length + v.Bow.Neck.Samples.length + v.Bow.Bridge.Samples.length) = k + 3 + (23 + n_RingS v.Pipe.Right + n_RingS v.Pipe.Left + v.Pipe.Scatter.length + v.Bow.Neck.Samples.length + v.Bow.Bridge.Samples.length) by omega] at this
      exact this
theorem mark_B25 {N2 : (Option Addr × Nat × Nat × Int × Int) → Heap → Prop} {Post : Value → Heap → Prop} {a0 : Addr} {l c i k : Nat} {F : Fr} {L : List Blk} {v : GVoice} (hi : i < l) (hl : l ≤ 1073741824) (P : Pt rVoice h0 h (a0.add (i * 45)) F L v) (s0 : w_RingS v.Pipe.Right ≤ 1048576) (s1 : w_RingS v.Pipe.Left ≤ 1048576) (s2 : v.Pipe.Scatter.length ≤ 1048576) (s3 : v.Bow.Neck.Samples.length ≤ 1048576) (s4 : v.Bow.Bridge.Samples.length ≤ 1048576) (hk : k + (29 + n_RingS v.Pipe.Right + n_RingS v.Pipe.Left + v.Pipe.Scatter.length + v.Bow.Neck.Samples.length + v.Bow.Bridge.Samples.length) ≤ 1073741824)
    (H : ∀ h', Pt rVoice h0 h' (a0.add (i * 45)) F L (gB25 v k) → N2 (some a0, l, c, ((k + (29 + n_RingS v.Pipe.Right + n_RingS v.Pipe.Left + v.Pipe.Scatter.length + v.Bow.Neck.Samples.length + v.Bow.Bridge.Samples.length) : Nat) : Int), ((i + 1 : Nat) : Int)) h') : LOOP (laws_markVoiceS.B25 N2 Post) (some a0, l, c, (k : Int), (i : Int), 0) h := by
  refine markA (n := 2) (off := 11) ((foc_Voice_String.trans (foc_String_Tune.trans foc_Filter_S)).at rfl) (fun _ => rfl) (fun _ _ _ => rfl) (fun _ _ => rfl) P (by omega) (fun N j hh hj Hs => ?_) fun N hh P => ?_
  · refine brd (fun hc => idxs (by omega) (by omega) (idx (by omega) (by omega) ?_)) fun hc => by omega
    rw [wrap64_succ (by omega), wrap64_succ (by omega)]
    refine st_add (st_add (st_add ?_))
    simp only [Int.toNat_natCast]
    rw [show 5 + (2 + (4 + j * 1)) = 11 + j * 1 by omega]
    exact Hs
  · unfold laws_markVoiceS.B25
    refine brd (fun hc => by omega) fun hc => ?_
    have w0 : IntKind.i64.wrap (((k + 2 : Nat) : Int) + 1) = ((k + 2 + 1 : Nat) : Int) := wrap64_succ (by omega)
    simp only [w0]
    clear w0
    refine idxs (by omega) (by omega) (st_add (P.stI (off := 13) fun h' P => ?_))
    have Hn := mark_B32 (N2 := N2) (Post := Post) (c := c) (k := k + 2 + 1) hi hl P (by (try dsimp only); omega) (by (try dsimp only); omega) (by (try dsimp only); omega) (by (try dsimp only); omega) (by (try dsimp only); omega) (by (try dsimp only); omega) fun h' P => ?_
    · exact Hn
    · have := H h' P
      rw [show k + (29 + n_RingS v.Pipe.Right + n_RingS v.Pipe.Left + v.Pipe.Scatter.length + v.Bow.Neck.Samples.length + v.Bow.Bridge.Samples.length) = k + 2 + 1 + (26 + n_RingS v.Pipe.Right + n_RingS v.Pipe.Left + v.Pipe.Scatter.length + v.Bow.Neck.Samples.length + v.Bow.Bridge.Samples.length) by omega] at this
      exact this
theorem mark_B20 {N2 : (Option Addr × Nat × Nat × Int × Int) → Heap → Prop} {Post : Value → Heap → Prop} {a0 : Addr} {l c i k : Nat} {F : Fr} {L : List Blk} {v : GVoice} (hi : i < l) (hl : l ≤ 1073741824) (P : Pt rVoice h0 h (a0.add (i * 45)) F L v) (s0 : w_RingS v.Pipe.Right ≤ 1048576) (s1 : w_RingS v.Pipe.Left ≤ 1048576) (s2 : v.Pipe.Scatter.length ≤ 1048576) (s3 : v.Bow.Neck.Samples.length ≤ 1048576) (s4 : v.Bow.Bridge.Samples.length ≤ 1048576) (hk : k + (32 + n_RingS v.Pipe.Right + n_RingS v.Pipe.Left + v.Pipe.Scatter.length + v.Bow.Neck.Samples.length + v.Bow.Bridge.Samples.length) ≤ 1073741824)
    (H : ∀ h', Pt rVoice h0 h' (a0.add (i * 45)) F L (gB20 v k) → N2 (some a0, l, c, ((k + (32 + n_RingS v.Pipe.Right + n_RingS v.Pipe.Left + v.Pipe.Scatter.length + v.Bow.Neck.Samples.length + v.Bow.Bridge.Samples.length) : Nat) : Int), ((i + 1 : Nat) : Int)) h') : LOOP (laws_markVoiceS.B20 N2 Post) (some a0, l, c, (k : Int), (i : Int), 0) h := by
  refine markA (n := 3) (off := 8) ((foc_Voice_String.trans (foc_String_Tune.trans foc_Filter_C)).at rfl) (fun _ => rfl) (fun _ _ _ => rfl) (fun _ _ => rfl) P (by omega) (fun N j hh hj Hs => ?_) fun N hh P => ?_
  · refine brd (fun hc => idxs (by omega) (by omega) (idx (by omega) (by omega) ?_)) fun hc => by omega
    rw [wrap64_succ (by omega), wrap64_succ (by omega)]
    refine st_add (st_add (st_add ?_))
    simp only [Int.toNat_natCast]
    rw [show 5 + (2 + (1 + j * 1)) = 8 + j * 1 by omega]
    exact Hs
  · unfold laws_markVoiceS.B20
    refine brd (fun hc => by omega) fun hc => ?_
    have Hn := mark_B25 (N2 := N2) (Post := Post) (c := c) (k := k + 3) hi hl P (by (try dsimp only); omega) (by (try dsimp only); omega) (by (try dsimp only); omega) (by (try dsimp only); omega) (by (try dsimp only); omega) (by (try dsimp only); omega) fun h' P => ?_
    · exact Hn
    · have := H h' P
      rw [show k + (32 + n_RingS v.Pipe.Right + n_RingS v.Pipe.Left + v.Pipe.Scatter.length + v.Bow.Neck.Samples.length + v.Bow.Bridge.Samples.length) = k + 3 + (29 + n_RingS v.Pipe.Right + n_RingS v.Pipe.Left + v.Pipe.Scatter.length + v.Bow.Neck.Samples.length + v.Bow.Bridge.Samples.length) by omega] at this
      exact this
def nE_Voice (v : GVoice) : Nat := 39 + v.String.Loop.Samples.length + n_RingS v.Pipe.Right + n_RingS v.Pipe.Left + v.Pipe.Scatter.length + v.Bow.Neck.Samples.length + v.Bow.Bridge.Samples.length
theorem mark_Voice_go {N2 : (Option Addr × Nat × Nat × Int × Int) → Heap → Prop} {Post : Value → Heap → Prop} {a0 : Addr} {l c i k : Nat} {F : Fr} {L : List Blk} {v : GVoice} (hi : i < l) (hl : l ≤ 1073741824) (P : Pt rVoice h0 h (a0.add (i * 45)) F L v) (s0 : v.String.Loop.Samples.length ≤ 1048576) (s1 : w_RingS v.Pipe.Right ≤ 1048576) (s2 : w_RingS v.Pipe.Left ≤ 1048576) (s3 : v.Pipe.Scatter.length ≤ 1048576) (s4 : v.Bow.Neck.Samples.length ≤ 1048576) (s5 : v.Bow.Bridge.Samples.length ≤ 1048576) (hk : k + (39 + v.String.Loop.Samples.length + n_RingS v.Pipe.Right + n_RingS v.Pipe.Left + v.Pipe.Scatter.length + v.Bow.Neck.Samples.length + v.Bow.Bridge.Samples.length) ≤ 1073741824)
    (H : ∀ h', Pt rVoice h0 h' (a0.add (i * 45)) F L (mkE_Voice v k) → N2 (some a0, l, c, ((k + (39 + v.String.Loop.Samples.length + n_RingS v.Pipe.Right + n_RingS v.Pipe.Left + v.Pipe.Scatter.length + v.Bow.Neck.Samples.length + v.Bow.Bridge.Samples.length) : Nat) : Int), ((i + 1 : Nat) : Int)) h') : laws_markVoiceS.B2 Post N2 (some a0, l, c, (k : Int), (i : Int)) h := by
  unfold laws_markVoiceS.B2
  refine brd (fun hc => ?_) fun hc => by omega
  have w0 : IntKind.i64.wrap (((k : Nat) : Int) + 1) = ((k + 1 : Nat) : Int) := wrap64_succ (by omega)
  have w1 : IntKind.i64.wrap (((k + 1 : Nat) : Int) + 1) = ((k + 2 : Nat) : Int) := wrap64_succ (by omega)
  have w2 : IntKind.i64.wrap (((k + 2 : Nat) : Int) + 1) = ((k + 3 : Nat) : Int) := wrap64_succ (by omega)
  have w3 : IntKind.i64.wrap (((k + 3 : Nat) : Int) + 1) = ((k + 4 : Nat) : Int) := wrap64_succ (by omega)
  have w4 : IntKind.i64.wrap (((k + 4 : Nat) : Int) + 1) = ((k + 5 : Nat) : Int) := wrap64_succ (by omega)
  simp only [w0, w1, w2, w3, w4]
  clear w0 w1 w2 w3 w4
  refine idxs (by omega) (by omega) (P.stI1 fun h' P => ?_)
  refine idxs (by omega) (by omega) (P.stI (off := 1) fun h' P => ?_)
  refine idxs (by omega) (by omega) (P.stI (off := 2) fun h' P => ?_)
  refine nz (by decide) (idxs (by omega) (by omega) (P.stB (off := 3) fun h' P => ?_))
  refine idxs (by omega) (by omega) (P.stF (off := 4) (fw_nearest _ _) fun h' P => ?_)
  refine idxs (by omega) (by omega) ?_
  obtain ⟨b2, l2, c2, Bs, Nn, eb, Ms, Os, hs2, back⟩ := P.slg lf_Voice_5.f
  refine o_l eb ((mark_Float32S_c Os Ms (k + 5) (by dsimp only [w_Float32S]; omega) (by dsimp only [n_Float32S]; omega)).mono ?_)
  rintro _ h' ⟨rfl, B', O', M'⟩
  have P := (back _ _ _ _ O' M').1
  clear back Os Ms hs2 eb O' M'
  refine as_i ?_
  dsimp only [n_Float32S] at P ⊢
  have w0 : IntKind.i64.wrap (((k + 5 + v.String.Loop.Samples.length : Nat) : Int) + 1) = ((k + 5 + v.String.Loop.Samples.length + 1 : Nat) : Int) := wrap64_succ (by omega)
  have w1 : IntKind.i64.wrap (((k + 5 + v.String.Loop.Samples.length + 1 : Nat) : Int) + 1) = ((k + 5 + v.String.Loop.Samples.length + 2 : Nat) : Int) := wrap64_succ (by omega)
  simp only [w0, w1]
  clear w0 w1
  refine idxs (by omega) (by omega) (st_add (P.stI (off := 6) fun h' P => ?_))
  refine idxs (by omega) (by omega) (st_add (P.stI (off := 7) fun h' P => ?_))
  have Hn := mark_B20 (N2 := N2) (Post := Post) (c := c) (k := k + 5 + v.String.Loop.Samples.length + 2) hi hl P (by (try dsimp only); omega) (by (try dsimp only); omega) (by (try dsimp only); omega) (by (try dsimp only); omega) (by (try dsimp only); omega) (by (try dsimp only); omega) fun h' P => ?_
  · exact Hn
  · have := H h' P
    rw [show k + (39 + v.String.Loop.Samples.length + n_RingS v.Pipe.Right + n_RingS v.Pipe.Left + v.Pipe.Scatter.length + v.Bow.Neck.Samples.length + v.Bow.Bridge.Samples.length) = k + 5 + v.String.Loop.Samples.length + 2 + (32 + n_RingS v.Pipe.Right + n_RingS v.Pipe.Left + v.Pipe.Scatter.length + v.Bow.Neck.Samples.length + v.Bow.Bridge.Samples.length) by omega] at this
    exact this
theorem w_voice_parts (v : GVoice) : w_Voice v = v.String.Loop.Samples.length + (w_RingS v.Pipe.Right + w_RingS v.Pipe.Left + v.Pipe.Scatter.length) + (v.Bow.Neck.Samples.length + v.Bow.Bridge.Samples.length) := rfl
theorem nwE_Voice (v : GVoice) : nE_Voice v ≤ 39 + 8 * w_Voice v := by
  have h1 := nw_RingS v.Pipe.Right
  have h2 := nw_RingS v.Pipe.Left
  have h3 := w_voice_parts v
  unfold nE_Voice
  omega
def n_VoiceS (xs : List GVoice) : Nat := nL nE_Voice xs
def mk_VoiceS (xs : List GVoice) (k : Nat) : List GVoice := mkL mkE_Voice nE_Voice xs k
theorem nw_VoiceS (xs : List GVoice) : n_VoiceS xs ≤ 64 * w_VoiceS xs := by
  unfold n_VoiceS w_VoiceS
  induction xs with
  | nil => simp [nL]
  | cons x xs ih =>
    have := nwE_Voice x
    simp only [nL, List.length_cons] at *; omega
theorem mark_VoiceS_c {h0 : Heap} {B L : List Blk} {b : Option Addr} {l c : Nat} {xs : List GVoice} (O0 : SlO T_impl_Voice rVoice B b l c xs) (M0 : Mem h0 h (B ++ L)) (k : Nat) (hw0 : w_VoiceS xs ≤ 1048576) (hk : k + n_VoiceS xs ≤ 1073741824) :
    CALL prg f_laws_markVoiceS #[.slice b l c, .int .i64 (k : Int)] (fun u h' => u = .int .i64 ((k + n_VoiceS xs : Nat) : Int) ∧ ∃ B', SlO T_impl_Voice rVoice B' b l c (mk_VoiceS xs k) ∧ Mem h0 h' (B' ++ L)) h := by
  have hx := O0.len
  have hw : w_VoiceS xs = xs.length + nL w_Voice xs := rfl
  refine laws_markVoiceS.call ?_
  refine loop (fun x hh => ∃ (n : Nat) (B : List Blk), x = (b, l, c, ((k + nL nE_Voice (xs.take n) : Nat) : Int), (n : Int)) ∧ n ≤ l ∧ SlO T_impl_Voice rVoice B b l c (mkL mkE_Voice nE_Voice (xs.take n) k ++ xs.drop n) ∧ Mem h0 hh (B ++ L)) (fun x => (l - x.2.2.2.2).toNat) ⟨0, B, rfl, by omega, by simpa [mkL] using O0, M0⟩ ?_
  rintro x hh ⟨n, B, rfl, hn, O, M⟩
  by_cases hc : n < l
  · have h4 := nL_snoc (n := nE_Voice) (xs := xs) (i := n) (by omega)
    have h5 : nL nE_Voice (xs.take (n + 1)) ≤ n_VoiceS xs := nL_take_le xs (n + 1)
    have h6 : w_Voice xs[n]! ≤ nL w_Voice xs := nL_mem (by omega)
    have h7 := w_voice_parts xs[n]!
    obtain ⟨a0, F', L', rfl, P, hs, close⟩ := O.elem M (i := n) (by omega)
    rw [mkL_at (by omega)] at P
    have P : Pt rVoice h0 hh (a0.add (n * 45)) F' L' xs[n]! := P
    refine mark_Voice_go (by omega) (by omega) P (by omega) (by omega) (by omega) (by omega) (by omega) (by omega) (by show k + nL nE_Voice (xs.take n) + nE_Voice xs[n]! ≤ _; omega) fun h' P => ?_
    obtain ⟨B', O', M'⟩ := close _ _ _ P
    have st := mkL_step (mk := mkE_Voice) (n := nE_Voice) (k := k) (xs := xs) (i := n) (by omega)
    have O' : SlO T_impl_Voice rVoice B' (some a0) l c ((mkL mkE_Voice nE_Voice (xs.take n) k ++ xs.drop n).set n (mkE_Voice xs[n]! (k + nL nE_Voice (xs.take n)))) := O'
    rw [st] at O'
    refine ⟨⟨n + 1, B', ?_, by omega, O', M'⟩, by show _ < _; simp; omega⟩
    rw [h4, Nat.add_assoc]
    rfl
  · unfold laws_markVoiceS.B2
    refine brd (fun hc => by omega) fun _ => ?_
    obtain rfl : n = l := by omega
    have e : xs.take n = xs := by rw [← hx]; exact List.take_length
    have e2 : xs.drop n = [] := List.drop_of_length_le (by omega)
    rw [e, e2, List.append_nil] at O
    rw [e]
    exact ⟨rfl, B, O, M⟩
def n_Player (x : GPlayer) : Nat := n_Score x.Score + n_VoiceS x.Voices
def mk_Player (x : GPlayer) (k : Nat) : GPlayer := { x with Score := mk_Score x.Score (k), Voices := mk_VoiceS x.Voices (k + n_Score x.Score) }
theorem nw_Player (x : GPlayer) : n_Player x ≤ 64 * w_Player x := by
  have h0 := nw_Score x.Score
  have h1 := nw_VoiceS x.Voices
  have e1 : n_Player x = n_Score x.Score + n_VoiceS x.Voices := rfl
  have e2 : w_Player x = w_Score x.Score + w_VoiceS x.Voices := rfl
  omega
theorem mark_Player_c {h0 : Heap} {B L : List Blk} {cs : Array Value} {x : GPlayer} (O : rPlayer.ow B cs.toList x) (M : Mem h0 h (B ++ L)) (k : Nat) (hw0 : w_Player x ≤ 1048576) (hk : k + n_Player x ≤ 1073741824) :
    CALL prg f_laws_markPlayer #[.agg cs, .int .i64 (k : Int)] (fun u h' => u = .int .i64 ((k + n_Player x : Nat) : Int) ∧ ∃ B', rPlayer.ow B' cs.toList (mk_Player x k) ∧ Mem h0 h' (B' ++ L)) h := by
  have hw : w_Player x = w_Score x.Score + w_VoiceS x.Voices := rfl
  have hn : n_Player x = n_Score x.Score + n_VoiceS x.Voices := rfl
  refine laws_markPlayer.call (M.alc fun g1 h1 x1 M => ?_)
  obtain ⟨Bm, Br, hB, Om, reb⟩ := ow_upd O foc_Player_Score
  refine M.lda .here (by have := osz O rfl; rw [this]; decide) ?_
  rw [← ext_part] at Om
  refine (mark_Score_c (x := x.Score) Om (M.cnt (W := Bm ++ (Br ++ ((g1, T_impl_Player, cs) :: L))) (fun p => by have := hB p; simp only [cnt_app, cnt_cons, cnt_nil] at *; omega)) (k) (by omega) (by omega)).mono ?_
  rintro _ h' ⟨rfl, B', O', M⟩
  obtain ⟨B2, O, hB2⟩ := reb B' _ (by rw [← ext_part]; exact O')
  refine as_i ?_
  have M := M.cnt (W := (g1, T_impl_Player, cs) :: (B2 ++ L)) (fun p => by have := hB2 p; simp only [cnt_app, cnt_cons, cnt_nil] at *; omega)
  clear reb
  obtain ⟨Bm, Br, hB, Om, reb⟩ := ow_upd O foc_Player_Voices
  obtain ⟨b, l, c, e, Om⟩ := Om
  refine o_l ((M.cell .here _).trans (cell_part e)) ?_
  refine (mark_VoiceS_c (xs := x.Voices) Om (M.cnt (W := Bm ++ (Br ++ ((g1, T_impl_Player, cs) :: L))) (fun p => by have := hB p; simp only [cnt_app, cnt_cons, cnt_nil] at *; omega)) (k + n_Score x.Score) (by omega) (by omega)).mono ?_
  rintro _ h' ⟨rfl, B', O', M⟩
  obtain ⟨B2, O, hB2⟩ := reb B' _ ⟨b, l, c, e, O'⟩
  refine as_i ?_
  have M := M.cnt (W := (g1, T_impl_Player, cs) :: (B2 ++ L)) (fun p => by have := hB2 p; simp only [cnt_app, cnt_cons, cnt_nil] at *; omega)
  clear reb
  exact ⟨by congr 2 <;> (unfold n_Player; omega), B2, O, M.drop⟩
end
end Go.Sx
