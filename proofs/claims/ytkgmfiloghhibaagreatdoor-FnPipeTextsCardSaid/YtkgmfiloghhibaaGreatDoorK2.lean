/- What functions of this seat's program compute, told in words (a predicate over heaps for each), and the proofs that the words are no more than the code's own weakest precondition. -/
import Derived.Test.YtkgmfiloghhibaaGreatDoorTab
import Derived.Test.YtkgmfiloghhibaaGreatDoorLk3
import Derived.Test.YtkgmfiloghhibaaGreatDoorLv0
import Derived.Test.YtkgmfiloghhibaaGreatDoorLgn
import Derived.Test.YtkgmfiloghhibaaGreatDoorTabE
import Derived.Test.YtkgmfiloghhibaaGreatDoorLg
import Derived.MapKept
namespace Go.Sx
open Go.Proofs
set_option linter.unusedVariables false
set_option maxRecDepth 100000

def p_impl_Ring_mute.S (r_0 : Addr) (Post : Value → Heap → Prop) (h : Heap) : Prop :=
    oL (cell h r_0) fun l1b l1l l1c =>
    MKS ti_float32 T_float32 (l1l : Int) (l1l : Int) (fun g4 h5 =>
    ST1 h5 r_0 (.slice (some ⟨g4, 0, none⟩) l1l l1l) fun h6 =>
    Post (.tuple ⟨[]⟩) h6) h
noncomputable def p_impl_Ring_mute.code : Code := (Tryz.f50.body).getD .skip
theorem p_impl_Ring_mute.call {r_0 : Addr} {Post : Value → Heap → Prop} {h : Heap} (H : p_impl_Ring_mute.S r_0 Post h) : CALL prg f_p_impl_Ring_mute #[.pointer (some r_0)] Post h :=
  fn_call tau_ok mixed (c := p_impl_Ring_mute.code) (Λ := lookL []) Tryz.func50 (by kernel_rfl) (by kernel_rfl)
    (Rq.free (by kernel_rfl))
    (Eq.mp (by kernel_rfl) H)

def impl_Ring_quiet.B3 (Post : Value → Heap → Prop) (N3 : (Addr × Int × Int) → Heap → Prop) : Addr × Int × Int → Heap → Prop
  | (r_1, n_3, k_4), h =>
    BIF (decide (k_4 ≤ n_3)) (
    LDA 2 h r_1 fun a7 =>
    CALL prg f_impl_Ring_back #[.agg a7, .int .i64 k_4] (fun q8 h9 =>
    asF .f32 q8 fun r10 =>
    BIF (FloatKind.f32.format.order r10 0 != some .eq) (
    Post (.int .i64 ((IntKind.i64.wrap (k_4 - (1 : Int))))) h9) (
    N3 (r_1, n_3, ((IntKind.i64.wrap (k_4 + (1 : Int))))) h9)) h) (
    Post (.int .i64 n_3) h)
def impl_Ring_quiet.g3 (fr : Frame) : Addr × Int × Int := ((gP (lget fr 1)), (gI (lget fr 3)), (gI (lget fr 4)))
def impl_Ring_quiet.l3 (Post : Value → Heap → Prop) : Frame → Heap → Prop := fun fr h => GRD (shape (kds 20 [(1, .p), (3, .i .i64), (4, .i .i64)]) fr) (LOOP (impl_Ring_quiet.B3 Post) (impl_Ring_quiet.g3 fr) h)
def impl_Ring_quiet.S (r_0 : Array Value) (Post : Value → Heap → Prop) (h : Heap) : Prop :=
    ALC r_0 T_impl_Ring (fun g1 h2 =>
    oL (cell h2 ⟨g1, 0, none⟩) fun l3b l3l l3c =>
    CALL prg f_impl_length_float32 #[.slice l3b l3l l3c] (fun q4 h5 =>
    asI .i64 q4 fun n6 =>
    LOOP (impl_Ring_quiet.B3 Post) (⟨g1, 0, none⟩, n6, (1 : Int)) h5) h2) h
noncomputable def impl_Ring_quiet.code : Code := (Tryz.f178.body).getD .skip
theorem impl_Ring_quiet.call {r_0 : Array Value} {Post : Value → Heap → Prop} {h : Heap} (H : impl_Ring_quiet.S r_0 Post h) : CALL prg f_impl_Ring_quiet #[.agg r_0] Post h :=
  fn_call tau_ok mixed (c := impl_Ring_quiet.code) (Λ := lookL [(1000003, impl_Ring_quiet.l3 Post)]) Tryz.func178 (by kernel_rfl) (by kernel_rfl)
    (Rq.seq (by kernel_rfl) (Rq.free (by kernel_rfl)) (Rq.seq (by kernel_rfl) (Rq.free (by kernel_rfl)) (Rq.seq (by kernel_rfl) (Rq.seq (by kernel_rfl) (Rq.free (by kernel_rfl)) (Rq.block (Rq.loop (impl_Ring_quiet.l3 Post) (by kernel_rfl) (segL (g := impl_Ring_quiet.g3) tau_ok mixed (Λ := fun N3 => lookL []) (fun _ _ _ => by kernel_rfl) (fun N3 => (Rq.free (by kernel_rfl))))))) (Rq.free (by kernel_rfl)))))
    (Eq.mp (by kernel_rfl) H)

def impl_Ring_isQuiet.S (r_0 : Array Value) (Post : Value → Heap → Prop) (h : Heap) : Prop :=
    ALC r_0 T_impl_Ring (fun g1 h2 =>
    LDA 2 h2 ⟨g1, 0, none⟩ fun a3 =>
    oL (cell h2 ⟨g1, 0, none⟩) fun l4b l4l l4c =>
    CALL prg f_impl_Ring_quiet #[.agg a3] (fun q5 h6 =>
    asI .i64 q5 fun n7 =>
    PIN h2 ⟨g1, 0, none⟩ 1 h6 <|
    CALL prg f_impl_length_float32 #[.slice l4b l4l l4c] (fun q8 h9 =>
    asI .i64 q8 fun n10 =>
    Post (.bool (n7 == n10)) h9) h6) h2) h
noncomputable def impl_Ring_isQuiet.code : Code := (Tryz.f118.body).getD .skip
theorem impl_Ring_isQuiet.call {r_0 : Array Value} {Post : Value → Heap → Prop} {h : Heap} (H : impl_Ring_isQuiet.S r_0 Post h) : CALL prg f_impl_Ring_isQuiet #[.agg r_0] Post h :=
  fn_call tau_ok mixed (c := impl_Ring_isQuiet.code) (Λ := lookL []) Tryz.func118 (by kernel_rfl) (by kernel_rfl)
    (Rq.free (by kernel_rfl))
    (Eq.mp (by kernel_rfl) H)

end Go.Sx
/- Rooms: valid ones, as both programs tell them. -/
set_option linter.unusedVariables false
set_option linter.unusedSimpArgs false
namespace Go.Sx
open Go.Proofs
set_option maxRecDepth 100000

section
variable {h : Heap} {q : Addr}
/-- What a room is, told as the programs ask. -/
theorem room_ok (x : GRoom) : x.ok = (x.Early.okf && decide (x.Taps.length ≤ 6) && x.Combs.all GComb.ok && x.Loops.all GRing.okf && (x.Damps.all fun f => f.ok && f.Kind == 1) && (x.Taps.all fun t => t.ok x.Early.len) && allFin x.Gains && fin x.Dry && fin x.Wet) := rfl
end
end Go.Sx
/- Rooms copied. -/
set_option linter.unusedVariables false
set_option linter.unusedSimpArgs false
namespace Go.Sx
open Go.Proofs
set_option maxRecDepth 100000

/-- All rings of a room are of a size that can be copied. -/
def GRoom.small (x : GRoom) : Prop := x.Early.Samples.length ≤ 1048576 ∧ x.Taps.length ≤ 1048576 ∧ (∀ c ∈ x.Combs, c.Ring.Samples.length ≤ 1048576) ∧ ∀ r ∈ x.Loops, r.Samples.length ≤ 1048576
end Go.Sx
/- Rooms that run: what a step asks for, and that it leaves it so; lists changed place by place. -/
set_option linter.unusedVariables false
set_option linter.unusedSimpArgs false
namespace Go.Sx
open Go.Proofs
/-- What a step of a room asks for. -/
structure GRoom.Runs (x : GRoom) : Prop where
  e : x.Early.ok = true
  t : ∀ t ∈ x.Taps, inR t.Back 1 x.Early.len = true
  c : ∀ c ∈ x.Combs, c.Ring.ok = true
  l : ∀ r ∈ x.Loops, r.ok = true
  c2 : x.Combs.length = 2
  l4 : x.Loops.length = 4
  d4 : x.Damps.length = 4
  g4 : x.Gains.length = 4
end Go.Sx
/- Rings that fall silent: the newest samples, how many of them are zero. -/
set_option linter.unusedVariables false
set_option linter.unusedSimpArgs false
namespace Go.Sx
open Go.Proofs
def isZ (a : Nat) : Bool := feq .f32 a 0
/-- The samples of a ring, the newest first. -/
def GRing.recent (r : GRing) : List Nat := (List.range r.Samples.length).map fun i : Nat => r.back ((i : Int) + 1)
/-- How many of the newest samples are zero. -/
def runL : List Nat → Nat
  | [] => 0
  | a :: l => if isZ a then runL l + 1 else 0
def GRing.quiet (r : GRing) : Nat := runL r.recent
theorem runL_le : ∀ l : List Nat, runL l ≤ l.length
  | [] => Nat.le_refl _
  | a :: l => by
    have := runL_le l
    unfold runL
    split
    · simp only [List.length_cons]; omega
    · simp
theorem runL_all : ∀ l : List Nat, (runL l = l.length) ↔ ∀ a ∈ l, isZ a = true
  | [] => by simp [runL]
  | a :: l => by
    have ih := runL_all l
    have hle := runL_le l
    unfold runL
    constructor
    · intro h
      split at h
      · next hz =>
        intro b hb
        rcases List.mem_cons.1 hb with rfl | hb
        · exact hz
        · exact ih.1 (by simp only [List.length_cons] at h; omega) b hb
      · simp at h
    · intro h
      rw [if_pos (h a (List.mem_cons_self ..)), ih.2 fun b hb => h b (List.mem_cons_of_mem _ hb)]
      rfl
theorem recent_len (r : GRing) : r.recent.length = r.Samples.length := by simp [GRing.recent]
/-- The place of the sample that came k samples ago. -/
theorem back_place {r : GRing} (h : r.ok = true) {i : Nat} (hi : i < r.Samples.length) : r.back ((i : Int) + 1) = r.Samples[(if i < r.At.toNat then r.At.toNat - 1 - i else r.At.toNat + r.Samples.length - 1 - i)]! := by
  obtain ⟨k1, k2, k3, k4, k5⟩ := at_lt h
  unfold GRing.back
  have hl : r.len = r.Samples.length := rfl
  congr 1
  rw [hl]
  split
  · next hlt =>
    rw [show r.At - ((i : Int) + 1) + (r.Samples.length : Int) = (r.At - 1 - i) + r.Samples.length by omega, Int.add_emod_right, Int.emod_eq_of_lt (by omega) (by omega)]
    omega
  · next hge =>
    rw [Int.emod_eq_of_lt (by omega) (by omega)]
    omega
theorem recent_mem {r : GRing} (h : r.ok = true) (a : Nat) : a ∈ r.recent ↔ a ∈ r.Samples := by
  obtain ⟨k1, k2, k3, k4, k5⟩ := at_lt h
  unfold GRing.recent
  simp only [List.mem_map, List.mem_range]
  constructor
  · rintro ⟨i, hi, rfl⟩
    rw [back_place h hi]
    refine mem_get ?_
    split <;> omega
  · intro ha
    obtain ⟨j, hj, rfl⟩ := List.mem_iff_getElem.1 ha
    by_cases hlt : j < r.At.toNat
    · refine ⟨r.At.toNat - 1 - j, by omega, ?_⟩
      rw [back_place h (by omega), if_pos (by omega), show r.At.toNat - 1 - (r.At.toNat - 1 - j) = j by omega, getElem!_pos _ j hj]
    · refine ⟨r.At.toNat + r.Samples.length - 1 - j, by omega, ?_⟩
      rw [back_place h (by omega), if_neg (by omega), show r.At.toNat + r.Samples.length - 1 - (r.At.toNat + r.Samples.length - 1 - j) = j by omega, getElem!_pos _ j hj]
theorem quiet_zero {r : GRing} (h : r.ok = true) : (r.quiet = r.Samples.length) ↔ r.zero = true := by
  unfold GRing.quiet GRing.zero
  rw [← recent_len r, runL_all, List.all_eq_true]
  exact ⟨fun H a ha => H a ((recent_mem h a).2 ha), fun H a ha => H a ((recent_mem h a).1 ha)⟩
end Go.Sx
/- Steps: rings read back, combs, four samples mixed; blocks written beside own data. -/
set_option linter.unusedVariables false
set_option linter.unusedSimpArgs false
namespace Go.Sx
open Go.Proofs
set_option maxRecDepth 100000
set_option maxHeartbeats 400000

section
variable {h0 h : Heap} {q : Addr} {F : Fr} {L : List Blk} {x a : Nat}
theorem tmod_back {r : GRing} (hr : r.ok = true) {k : Int} (hk : inR k 1 r.len = true) {l : Nat} (hl : r.Samples.length = l) :
    Int.tmod (IntKind.i64.wrap (IntKind.i64.wrap (r.At + (l : Int)) - k)) (l : Int) = (r.At - k + r.len) % r.len ∧ 0 ≤ (r.At - k + r.len) % r.len ∧ (r.At - k + r.len) % r.len < (l : Int) := by
  have := at_lt hr
  have e : r.len = (l : Int) := by unfold GRing.len; rw [hl]
  rw [e] at hk ⊢
  unfold inR at hk
  simp only [Bool.and_eq_true, decide_eq_true_eq] at hk
  refine ⟨?_, Int.emod_nonneg _ (by omega), Int.emod_lt_of_pos _ (by omega)⟩
  rw [wrap64 (n := r.At + l) (by omega) (by omega), wrap64 (by omega) (by omega), Int.tmod_eq_emod_of_nonneg (by omega), show r.At + (l : Int) - k = r.At - k + l by omega]
theorem tmod_back' {r : GRing} (hr : r.ok = true) {k : Int} (hk : inR k 1 r.len = true) {l : Nat} (hl : r.Samples.length = l) :
    Int.tmod (IntKind.i64.wrap (IntKind.i64.wrap (r.At - k) + (l : Int))) (l : Int) = (r.At - k + r.len) % r.len := by
  have := at_lt hr
  have e : r.len = (l : Int) := by unfold GRing.len; rw [hl]
  rw [e] at hk ⊢
  unfold inR at hk
  simp only [Bool.and_eq_true, decide_eq_true_eq] at hk
  rw [wrap64 (n := r.At - k) (by omega) (by omega), wrap64 (by omega) (by omega), Int.tmod_eq_emod_of_nonneg (by omega)]
theorem Ring_back_c {cs : Array Value} {r : GRing} (R0 : rRing.rd h cs.toList r) (hr : r.ok = true) {k : Int} (hk : inR k 1 r.len = true) :
    CALL prg f_impl_Ring_back #[.agg cs, .int .i64 k] (fun u h' => (∃ y, u = .float .f32 y ∧ FW .f32 y (r.back k)) ∧ Ext h h') h := by
  have h1 := at_lt hr
  refine impl_Ring_back.call (alcR R0 fun g h1 x1 R => R.oL2 fun b l c S => goX (length_f32_c _ _ _ _) fun h2 x2 => as_i ((R.ext x2).oL2 fun b' l' c' S' => (R.ext x2).oI2 ?_))
  have e := tmod_back' hr hk S.len
  obtain ⟨_, e1, e2⟩ := tmod_back hr hk S.len
  have hl := S.len
  have hl' := S'.len
  refine nz (by omega) ?_
  rw [e]
  exact S'.idx (by decide) e1 (by omega) fun p Rp => Rp.oF1 fun y hy => ⟨⟨y, rfl, hy⟩, x1.trans x2⟩
/-- What a step of a comb leaves. -/
def CStep (h0 h' : Heap) (q : Addr) (F : Fr) (L : List Blk) (c : GComb) (a : Nat) (u : Value) : Prop := (∃ y, u = .float .f32 y ∧ FW .f32 y (c.step a).2) ∧ Pt rComb h0 h' q F L (c.step a).1
theorem CStep.of {c c' : GComb} {b y : Nat} (e : c.step a = (c', b)) (hy : FW .f32 y b) (P : Pt rComb h0 h q F L c') : CStep h0 h q F L c a (.float .f32 y) := by
  unfold CStep
  rw [e]
  exact ⟨⟨y, rfl, hy⟩, P⟩
/-- Four samples answered. -/
def Four (h h' : Heap) (u : Value) (xs : List Nat) : Prop := ∃ cs : Array Value, u = .agg cs ∧ (rArr 4 (rF .f32)).rd h' cs.toList xs ∧ Ext h h'
theorem four_rd {y0 y1 y2 y3 a0 a1 a2 a3 : Nat} (h0 : FW .f32 y0 a0) (h1 : FW .f32 y1 a1) (h2 : FW .f32 y2 a2) (h3 : FW .f32 y3 a3) : (rArr 4 (rF .f32)).rd h [.float .f32 y0, .float .f32 y1, .float .f32 y2, .float .f32 y3] [a0, a1, a2, a3] :=
  ⟨rfl, [_], _, rfl, ⟨_, rfl, h0⟩, [_], _, rfl, ⟨_, rfl, h1⟩, [_], _, rfl, ⟨_, rfl, h2⟩, [_], _, rfl, ⟨_, rfl, h3⟩, rfl⟩
end
end Go.Sx
/- Rings and filters that are silent, as the program tells them. -/
set_option linter.unusedVariables false
set_option linter.unusedSimpArgs false
namespace Go.Sx
open Go.Proofs
set_option maxRecDepth 100000
set_option maxHeartbeats 1000000

section
variable {h : Heap} {q : Addr}
theorem ordZ {y a : Nat} (hy : FW .f32 y a) : (FloatKind.f32.format.order y 0 == some .eq) = isZ a := by rw [ord_eq hy fw0]; rfl
theorem ordN {y a : Nat} (hy : FW .f32 y a) : (FloatKind.f32.format.order y 0 != some .eq) = !isZ a := by rw [bne, ordZ hy]
theorem Filter_isStill_c {cs : Array Value} {f : GFilter} (R0 : rFilter.rd h cs.toList f) : CALL prg f_impl_Filter_isStill #[.agg cs] (fun u h' => u = .bool f.still ∧ Ext h h') h := by
  refine impl_Filter_isStill.call (alcR R0 fun g h1 x1 R => idx (by omega) (by omega) (R.oF2 fun y hy => ?_))
  rw [ordZ hy]
  refine br (fun hb => idx (by omega) (by omega) (R.oF2 fun z hz => ?_)) fun hb => ?_
  · rw [ordZ hz]
    refine ⟨?_, x1⟩
    have hb : feq .f32 f.S[0]! 0 = true := hb
    unfold GFilter.still; rw [hb]; rfl
  · refine ⟨?_, x1⟩
    have hb : feq .f32 f.S[0]! 0 = false := hb
    unfold GFilter.still; rw [hb]; rfl
theorem runL_lt {l : List Nat} {n : Nat} (hn : n < l.length) (h1 : ∀ i, i < n → isZ l[i]! = true) (h2 : isZ l[n]! = false) : runL l = n := by
  induction l generalizing n with
  | nil => simp at hn
  | cons a l ih =>
    cases n with
    | zero => unfold runL; rw [show isZ a = false from h2]; rfl
    | succ n =>
      unfold runL
      rw [if_pos (show isZ a = true from h1 0 (by omega)), ih (by simpa using hn) (fun i hi => h1 (i + 1) (by omega)) h2]
theorem recent_get {r : GRing} {i : Nat} (hi : i < r.Samples.length) : r.recent[i]! = r.back ((i : Int) + 1) := by
  rw [List.getElem!_eq_getElem?_getD]
  unfold GRing.recent
  rw [List.getElem?_map, List.getElem?_range hi]; rfl
theorem Ring_quiet_c {cs : Array Value} {r : GRing} (R0 : rRing.rd h cs.toList r) (hr : r.ok = true) : CALL prg f_impl_Ring_quiet #[.agg cs] (fun u h' => u = .int .i64 (r.quiet : Int) ∧ Ext h h') h := by
  have h1 := at_lt hr
  have hlen : r.len = r.Samples.length := rfl
  refine impl_Ring_quiet.call (alcR R0 fun g h1 x1 R => R.oL2 fun b l c S => goX (length_f32_c _ _ _ _) fun h2 x2 => as_i ?_)
  have hl : r.Samples.length = l := S.len
  have R := R.ext x2
  refine loop (fun y hh => ∃ n : Nat, y = (⟨g, 0, none⟩, (l : Int), (n : Int) + 1) ∧ n ≤ l ∧ Ext h2 hh ∧ ∀ i, i < n → isZ r.recent[i]! = true) (fun y => (l + 1 - y.2.2).toNat) ⟨0, rfl, by omega, Ext.refl _, fun i hi => by omega⟩ ?_
  rintro y hh ⟨n, rfl, hn, X, hz⟩
  refine brd (fun hc => ?_) fun hc => ?_
  · refine (R.ext X).lda1 rfl fun cs' Rc => (Ring_back_c Rc hr (k := (n : Int) + 1) (by unfold inR; simp only [Bool.and_eq_true, decide_eq_true_eq]; omega)).mono ?_
    rintro _ h3 ⟨⟨y, rfl, hy⟩, x3⟩
    refine as_f ?_
    rw [ordN hy]
    refine br (fun hb => ?_) fun hb => ?_
    · refine ⟨?_, ((x1.trans x2).trans X).trans x3⟩
      have : r.quiet = n := runL_lt (by rw [recent_len]; omega) hz (by rw [recent_get (by omega)]; exact nt hb)
      rw [this, wrap64 (by omega) (by omega)]
      congr 1; omega
    · refine ⟨⟨n + 1, by rw [wrap64 (n := (n : Int) + 1 + 1) (by omega) (by omega)]; rfl, by omega, X.trans x3, fun i hi => ?_⟩, by rw [wrap64 (n := (n : Int) + 1 + 1) (by omega) (by omega)]; show _ < _; simp; omega⟩
      by_cases e : i = n
      · subst e; rw [recent_get (by omega)]; exact nf hb
      · exact hz i (by omega)
  · obtain rfl : n = l := by omega
    refine ⟨?_, (x1.trans x2).trans X⟩
    have : r.quiet = n := by
      rw [← hl]
      unfold GRing.quiet
      rw [← recent_len r, runL_all]
      intro a ha
      obtain ⟨j, hj, rfl⟩ := List.mem_iff_getElem.1 ha
      have := hz j (by rw [recent_len] at hj; omega)
      rwa [getElem!_pos _ j hj] at this
    rw [this]
end
end Go.Sx
/- A room's step, as the program makes it. -/
set_option linter.unusedVariables false
set_option linter.unusedSimpArgs false
namespace Go.Sx
open Go.Proofs
set_option maxRecDepth 100000

/-- Four floats, wherever they lie. -/
def F4 (cs : Array Value) (xs : List Nat) : Prop := (rArr 4 (rF .f32)).rd #[] cs.toList xs
theorem F4.rd {cs : Array Value} {xs : List Nat} (R : F4 cs xs) (h : Heap) : (rArr 4 (rF .f32)).rd h cs.toList xs := ⟨R.1, rdsF_any R.2⟩
theorem F4.of {cs : Array Value} {xs : List Nat} {h : Heap} (R : (rArr 4 (rF .f32)).rd h cs.toList xs) : F4 cs xs := ⟨R.1, rdsF_any R.2⟩
theorem F4.size {cs : Array Value} {xs : List Nat} (R : F4 cs xs) : cs.size = 4 := rsz R rfl
def zeros4 : List Nat := [0, 0, 0, 0]
theorem F4.zero : F4 ⟨[.float .f32 0, .float .f32 0, .float .f32 0, .float .f32 0]⟩ zeros4 := four_rd fw0 fw0 fw0 fw0
section
variable {h0 h : Heap} {q : Addr} {F : Fr} {L : List Blk} {x a : Nat}
theorem Look.oF {g i : Nat} {cs : Array Value} {xs : List Nat} {K : Nat → Prop} (l : Look L g cs) (M : Mem h0 h L) (R : F4 cs xs) (hi : i < 4) (H : ∀ y, FW .f32 y xs[i]! → K y) : oF .f32 (cell h ((⟨g, 0, none⟩ : Addr).add (i * 1))) K :=
  ((M.rdp l (R.rd h)).elem (i := i) hi).oF1 H
/-- What a step of a room leaves. -/
def RStep (h0 h' : Heap) (q : Addr) (F : Fr) (L : List Blk) (x : GRoom) (a : Nat) (u : Value) : Prop := (∃ y, u = .float .f32 y ∧ FW .f32 y (x.step a).2) ∧ Pt rRoom h0 h' q F L (x.step a).1
section
variable (x : GRoom) (a : Nat)
def GRoom.c0 : GComb × Nat := x.Combs[0]!.step (fadd .f32 a x.early)
def GRoom.c1 : GComb × Nat := x.Combs[1]!.step (x.c0 a).2
def GRoom.fo (i : Nat) : Nat := x.Loops[i]!.old
def GRoom.fg (i : Nat) : GFilter × Nat := x.Damps[i]!.step (fmul .f32 x.Gains[i]! (x.fo i))
def GRoom.hs : List Nat := mixFour ((List.range 4).map fun i => (x.fg i).2)
def GRoom.fl (i : Nat) : GRing := x.Loops[i]!.push (kept (fadd .f32 (x.c1 a).2 x.hs[i]!))
def GRoom.s1 : GRoom := { x with Early := x.Early.push (kept a), Combs := [(x.c0 a).1, (x.c1 a).1] }
def GRoom.s2 (n : Nat) : GRoom := { x.s1 a with Damps := mapI (fun i => (x.fg i).1) x.Damps n }
def GRoom.s3 (n : Nat) : GRoom := { x.s2 a 4 with Loops := mapI (x.fl a) x.Loops n }
def GRoom.sv : Nat := fadd .f32 (fmul .f32 x.Dry a) (fmul .f32 x.Wet (fadd .f32 (fadd .f32 (x.fo 0) (x.fo 1)) (fadd .f32 (x.fo 2) (x.fo 3))))
end
theorem map_old {x : GRoom} (hL : x.Loops.length = 4) {i : Nat} (hi : i < 4) : (x.Loops.map GRing.old)[i]! = x.fo i := by
  rw [getElem!_pos _ i (by rw [List.length_map]; omega), List.getElem_map]
  unfold GRoom.fo
  rw [getElem!_pos _ i (by omega)]
theorem step_eq {x : GRoom} (R : x.Runs) (a : Nat) : x.step a = (x.s3 a 4, x.sv a) := by
  have hL := R.l4
  have hg : ((List.range 4).map fun i => x.Damps[i]!.step (fmul .f32 x.Gains[i]! (x.Loops.map GRing.old)[i]!)) = (List.range 4).map x.fg := by
    refine List.map_congr_left fun i hi => ?_
    rw [map_old hL (List.mem_range.1 hi)]; rfl
  unfold GRoom.step
  simp only []
  rw [hg, map_old hL (by decide), map_old hL (by decide), map_old hL (by decide), map_old hL (by decide)]
  unfold GRoom.s3 GRoom.s2 GRoom.s1 GRoom.sv
  rw [mapI_all (by rw [R.d4]; exact Nat.le_refl _), mapI_all (by rw [R.l4]; exact Nat.le_refl _), R.d4, R.l4, List.map_map, List.map_map]
  rfl
end
end Go.Sx
/- Two more small functions over floats. -/
set_option linter.unusedVariables false
set_option linter.unusedSimpArgs false
namespace Go.Sx
open Go.Proofs Ieee
set_option maxRecDepth 100000
section
variable {x y a b : Nat}
theorem SameSample_c (hx : FW .f32 x a) (hy : FW .f32 y b) : Ret prg f_impl_SameSample #[.float .f32 x, .float .f32 y] (.bool (a == b)) := fun h => by
  refine impl_SameSample.call ((bitsOf_c hx).go fun h1 x1 => as_i ((bitsOf_c hy).go fun h2 x2 => as_i ⟨?_, x1.trans x2⟩))
  congr 1
  rw [Bool.eq_iff_iff, beq_iff_eq, beq_iff_eq]
  omega
def inside (a l r : Nat) : Bool := fge .f32 a l && fle .f32 a r
theorem inside_c {z c : Nat} (hx : FW .f32 x a) (hy : FW .f32 y b) (hz : FW .f32 z c) : Ret prg f_impl_inside #[.float .f32 x, .float .f32 y, .float .f32 z] (.bool (inside a b c)) := fun h => by
  refine impl_inside.call ?_
  rw [impl_inside.S, ord_eq hx hy, ord_eq hx hz]
  exact br (fun hb => ⟨by rw [inside, fge, hb]; rfl, Ext.refl _⟩) fun hb => ⟨by rw [inside, fge, hb]; rfl, Ext.refl _⟩
end
end Go.Sx
/- What pipes do, plain. -/
set_option linter.unusedVariables false
set_option linter.unusedSimpArgs false
namespace Go.Sx
def one32 : Nat := 1065353216
def neg32 : Nat := 3212836864
def GPipe.n (x : GPipe) : Nat := x.Right.length
def GPipe.d (x : GPipe) (b : Nat) : Nat := fsub .f32 x.Left[0]!.old b
def GPipe.t (x : GPipe) (i : Nat) : Nat := fmul .f32 x.Scatter[i]! (fsub .f32 x.Right[i]!.old x.Left[i + 1]!.old)
def GPipe.e (x : GPipe) : GFilter × Nat := x.End.step x.Right[x.n - 1]!.old
def GPipe.back (x : GPipe) : Nat := let b := fmul .f32 x.Loss x.e.2; if x.Open then fneg .f32 b else b
def GPipe.reed (x : GPipe) (d : Nat) : Nat := clamp (fadd .f32 x.Rest (fmul .f32 x.Slope d)) one32
def GPipe.rt (x : GPipe) (b : Nat) (i : Nat) : GRing := x.Right[i]!.push (kept (if i = 0 then fadd .f32 b (fmul .f32 (x.d b) (x.reed (x.d b))) else fadd .f32 x.Right[i - 1]!.old (x.t (i - 1))))
def GPipe.lf (x : GPipe) (i : Nat) : GRing := x.Left[i]!.push (kept (if i = x.n - 1 then x.back else fadd .f32 x.Left[i + 1]!.old (x.t i)))
/-- A step: the pipe behind it, and what comes out. -/
def GPipe.step (x : GPipe) (b : Nat) : GPipe × Nat := ({ x with Right := (List.range x.n).map (x.rt b), Left := (List.range x.n).map x.lf, End := x.e.1 }, x.e.2)
def GPipe.ok (x : GPipe) : Bool :=
  inR x.n 1 3 && decide (x.Left.length = x.n) && decide (x.Scatter.length + 1 = x.n) && x.Right.all GRing.okf && x.Left.all GRing.okf && ((List.range x.n).all fun i => x.Right[i]!.Samples.length == x.Left[i]!.Samples.length) &&
    (x.Scatter.all fun k => inside k neg32 one32) && x.End.ok && (x.End.Kind == 1) && fin x.Loss && fin x.Rest && fin x.Slope
end Go.Sx
/- Maps whose keys are integers: made, looked up, updated, counted. -/
set_option linter.unusedVariables false
set_option linter.unusedSimpArgs false
namespace Go.Sx
open Go.MapKept

def encM (p : Int × Value) : Value × Value := (.int .i64 p.1, p.2)
def pairM (e : MapEntry) : Value × Value := (e.key, e.val)
/-- In block g lies a map with these entries, in this order. -/
def MapI (h : Heap) (g : Nat) (m : List (Int × Value)) : Prop := ∃ (es : Array MapEntry) (clock : Nat), h[g]? = some (.map es clock) ∧ es.toList.map pairM = m.map encM
section
variable {P : Program} {h hb : Heap} {g : Nat} {m : List (Int × Value)} {t k e : TypeId} {K : Value → Heap → Prop}
theorem MapI.ext {h' : Heap} (M : MapI h g m) (x : Ext h h') : MapI h' g m := by
  obtain ⟨es, c, e1, e2⟩ := M
  have hlt : g < h.size := (Array.getElem?_eq_some_iff.1 e1).1
  exact ⟨es, c, by rw [x.2 g hlt]; exact e1, e2⟩
end
end Go.Sx
