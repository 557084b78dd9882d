/- Steps: rings read back, combs, four samples mixed; blocks written beside own data. -/
import Derived.Test.YthgnpepchedpbaaGreatLk8
set_option linter.unusedVariables false
set_option linter.unusedSimpArgs false
namespace Go.Sx
open Go.Proofs
set_option maxRecDepth 100000
set_option maxHeartbeats 400000

section
variable {h0 h : Heap} {q : Addr} {F : Fr} {L : List Blk} {x a : Nat}
theorem tmod_back {r : GRing} (hr : r.ok = true) {k : Int} (hk : inR k 1 r.len = true) {l : Nat} (hl : r.Samples.length = l) :
    Int.tmod (IntKind.i64.wrap (IntKind.i64.wrap (r.At + (l : Int)) - k)) (l : Int) = (r.At - k + r.len) % r.len ∧ 0 ≤ (r.At - k + r.len) % r.len ∧ (r.At - k + r.len) % r.len < (l : Int) := by
  have := at_lt hr
  have e : r.len = (l : Int) := by unfold GRing.len; rw [hl]
  rw [e] at hk ⊢
  unfold inR at hk
  simp only [Bool.and_eq_true, decide_eq_true_eq] at hk
  refine ⟨?_, Int.emod_nonneg _ (by omega), Int.emod_lt_of_pos _ (by omega)⟩
  rw [wrap64 (n := r.At + l) (by omega) (by omega), wrap64 (by omega) (by omega), Int.tmod_eq_emod_of_nonneg (by omega), show r.At + (l : Int) - k = r.At - k + l by omega]
theorem tmod_back' {r : GRing} (hr : r.ok = true) {k : Int} (hk : inR k 1 r.len = true) {l : Nat} (hl : r.Samples.length = l) :
    Int.tmod (IntKind.i64.wrap (IntKind.i64.wrap (r.At - k) + (l : Int))) (l : Int) = (r.At - k + r.len) % r.len := by
  have := at_lt hr
  have e : r.len = (l : Int) := by unfold GRing.len; rw [hl]
  rw [e] at hk ⊢
  unfold inR at hk
  simp only [Bool.and_eq_true, decide_eq_true_eq] at hk
  rw [wrap64 (n := r.At - k) (by omega) (by omega), wrap64 (by omega) (by omega), Int.tmod_eq_emod_of_nonneg (by omega)]
theorem l02Back_c {r : GRing} (R : RdP rRing h q r) (hr : r.ok = true) {k : Int} (hk : inR k 1 r.len = true) :
    CALL prg f_spec_l02Back #[.pointer (some q), .int .i64 k] (fun u h' => (∃ y, u = .float .f32 y ∧ FW .f32 y (r.back k)) ∧ Ext h h') h := by
  have h1 := at_lt hr
  refine spec_l02Back.call (R.oL1 fun b l c S => R.oL1 fun b' l' c' S' => R.oI ?_)
  obtain ⟨e, e1, e2⟩ := tmod_back hr hk S.len
  have hl := S.len
  have hl' := S'.len
  refine nz (by omega) ?_
  rw [e]
  exact S'.idx (by decide) e1 (by omega) fun p Rp => Rp.oF1 fun y hy => ⟨⟨y, rfl, hy⟩, Ext.refl _⟩
theorem Ring_back_c {cs : Array Value} {r : GRing} (R0 : rRing.rd h cs.toList r) (hr : r.ok = true) {k : Int} (hk : inR k 1 r.len = true) :
    CALL prg f_impl_Ring_back #[.agg cs, .int .i64 k] (fun u h' => (∃ y, u = .float .f32 y ∧ FW .f32 y (r.back k)) ∧ Ext h h') h := by
  have h1 := at_lt hr
  refine impl_Ring_back.call (alcR R0 fun g h1 x1 R => R.oL2 fun b l c S => goX (length_f32_c _ _ _ _) fun h2 x2 => as_i ((R.ext x2).oL2 fun b' l' c' S' => (R.ext x2).oI2 ?_))
  have e := tmod_back' hr hk S.len
  obtain ⟨_, e1, e2⟩ := tmod_back hr hk S.len
  have hl := S.len
  have hl' := S'.len
  refine nz (by omega) ?_
  rw [e]
  exact S'.idx (by decide) e1 (by omega) fun p Rp => Rp.oF1 fun y hy => ⟨⟨y, rfl, hy⟩, x1.trans x2⟩
/-- What a step of a comb leaves. -/
def CStep (h0 h' : Heap) (q : Addr) (F : Fr) (L : List Blk) (c : GComb) (a : Nat) (u : Value) : Prop := (∃ y, u = .float .f32 y ∧ FW .f32 y (c.step a).2) ∧ Pt rComb h0 h' q F L (c.step a).1
theorem CStep.of {c c' : GComb} {b y : Nat} (e : c.step a = (c', b)) (hy : FW .f32 y b) (P : Pt rComb h0 h q F L c') : CStep h0 h q F L c a (.float .f32 y) := by
  unfold CStep
  rw [e]
  exact ⟨⟨y, rfl, hy⟩, P⟩
theorem comb_eq (c : GComb) (a : Nat) : c.step a = ({ c with Ring := c.Ring.push (kept (fadd .f32 a (fmul .f32 c.Gain c.Ring.old))) }, fsub .f32 c.Ring.old (fmul .f32 c.Gain (fadd .f32 a (fmul .f32 c.Gain c.Ring.old)))) := rfl
theorem l06StepComb_c {c : GComb} (P : Pt rComb h0 h q F L c) (hr : c.Ring.ok = true) (hx : FW .f32 x a) : CALL prg f_spec_l06StepComb #[.pointer (some q), .float .f32 x] (fun u h' => CStep h0 h' q F L c a u) h := by
  have R := P.rd
  obtain ⟨k1, k2, k3, k4, k5⟩ := at_lt hr
  refine spec_l06StepComb.call (R.oL1 fun b l cc S => R.oI ?_)
  have hl := S.len
  refine S.idx (by decide) k1 (by omega) fun p Rp => Rp.oF1 fun y hy => R.oF fun z hz => fM hz hy fun w1 hw1 => fA hx hw1 fun w2 hw2 => ?_
  refine (l02Kept_c hw2).go fun h1 y1 x1 hy1 => as_f ?_
  obtain ⟨F', L', P', hs, close⟩ := (P.grow x1).foc foc_Comb_Ring
  rw [add0] at P' close
  refine (l02Push_c P' hr hy1).mono ?_
  rintro _ h2 ⟨⟨y2, rfl, hy2⟩, P2⟩
  have P3 := close _ _ _ P2
  refine as_f (P3.rd.oF fun z2 hz2 => fM hz2 hw2 fun w3 hw3 => fS hy hw3 fun w4 hw4 => ?_)
  exact CStep.of (comb_eq c a) hw4 P3
theorem Comb_step_c {c : GComb} (P : Pt rComb h0 h q F L c) (hr : c.Ring.ok = true) (hx : FW .f32 x a) : CALL prg f_p_impl_Comb_step #[.pointer (some q), .float .f32 x] (fun u h' => CStep h0 h' q F L c a u) h := by
  have R := P.rd
  refine p_impl_Comb_step.call ((R.fst foc_Comb_Ring).lda1 rfl fun cs Rc => (oldest_c Rc hr).mono ?_)
  rintro _ h1 ⟨⟨y, rfl, hy⟩, x1⟩
  have P := P.grow x1
  have R := P.rd
  refine as_f (R.oF fun z hz => fM hz hy fun w1 hw1 => fA hx hw1 fun w2 hw2 => ?_)
  refine (kept_c hw2).go fun h1 y1 x1 hy1 => as_f ?_
  obtain ⟨F', L', P', hs, close⟩ := (P.grow x1).foc foc_Comb_Ring
  rw [add0] at P' close
  refine (Ring_push_c P' hr hy1).mono ?_
  rintro _ h2 ⟨⟨y2, rfl, hy2⟩, P2⟩
  have P3 := close _ _ _ P2
  refine as_f (P3.rd.oF fun z2 hz2 => fM hz2 hw2 fun w3 hw3 => fS hy hw3 fun w4 hw4 => ?_)
  exact CStep.of (comb_eq c a) hw4 P3
/-- Four samples answered. -/
def Four (h h' : Heap) (u : Value) (xs : List Nat) : Prop := ∃ cs : Array Value, u = .agg cs ∧ (rArr 4 (rF .f32)).rd h' cs.toList xs ∧ Ext h h'
theorem four_rd {y0 y1 y2 y3 a0 a1 a2 a3 : Nat} (h0 : FW .f32 y0 a0) (h1 : FW .f32 y1 a1) (h2 : FW .f32 y2 a2) (h3 : FW .f32 y3 a3) : (rArr 4 (rF .f32)).rd h [.float .f32 y0, .float .f32 y1, .float .f32 y2, .float .f32 y3] [a0, a1, a2, a3] :=
  ⟨rfl, [_], _, rfl, ⟨_, rfl, h0⟩, [_], _, rfl, ⟨_, rfl, h1⟩, [_], _, rfl, ⟨_, rfl, h2⟩, [_], _, rfl, ⟨_, rfl, h3⟩, rfl⟩
theorem fwhalf : FW .f32 1056964608 half := fw_c32 (by decide) (by decide)
theorem four_out {g3 : Nat} {r0 : List Blk} {xs : List Nat} {y0 y1 y2 y3 : Nat} (M : Mem h0 h ((g3, T_4_float32, ⟨Z_4_float32⟩) :: r0)) (e : ∀ h, (rArr 4 (rF .f32)).rd h [.float .f32 y0, .float .f32 y1, .float .f32 y2, .float .f32 y3] xs) :
    STA 4 h ⟨g3, 0, none⟩ ⟨[.float .f32 y0, .float .f32 y1, .float .f32 y2, .float .f32 y3]⟩ fun h25 => LDA 4 h25 ⟨g3, 0, none⟩ fun a26 => Four h0 h25 (.agg a26) xs :=
  M.sta0 .here rfl (all_one rfl) rfl .here fun h3 M => M.lda0 .here rfl ⟨_, rfl, e _, M.ext⟩
theorem spec_MixFour_c {cs : Array Value} {xs : List Nat} (R0 : (rArr 4 (rF .f32)).rd h cs.toList xs) : CALL prg f_spec_MixFour #[.agg cs] (fun u h' => Four h h' u (mixFour xs)) h := by
  refine spec_MixFour.call ((Mem.start h).alc fun g1 h1 x1 M => M.alc fun g3 h2 x2 M => ?_)
  have R : RdP (rArr 4 (rF .f32)) h2 ⟨g1, 0, none⟩ xs := M.rdp (.there .here) ((rArr 4 (rF .f32)).ext M.ext R0)
  refine idx (by omega) (by omega) (R.oF1 fun y1 k1 => idx (by omega) (by omega) (R.oF2 fun y2 k2 => fA k1 k2 fun z1 j1 => idx (by omega) (by omega) (R.oF1 fun y3 k3 => idx (by omega) (by omega) (R.oF2 fun y4 k4 => fS k3 k4 fun z2 j2 => ?_))))
  refine idx (by omega) (by omega) (R.oF2 fun y5 k5 => idx (by omega) (by omega) (R.oF2 fun y6 k6 => fA k5 k6 fun z3 j3 => idx (by omega) (by omega) (R.oF2 fun y7 k7 => idx (by omega) (by omega) (R.oF2 fun y8 k8 => fS k7 k8 fun z4 j4 => ?_))))
  exact fA j1 j3 fun z5 j5 => fM fwhalf j5 fun z6 j6 => fA j2 j4 fun z7 j7 => fM fwhalf j7 fun z8 j8 => fS j1 j3 fun z9 j9 => fM fwhalf j9 fun z10 j10 => fS j2 j4 fun z11 j11 => fM fwhalf j11 fun z12 j12 => four_out M fun _ => four_rd j6 j8 j10 j12
theorem impl_MixFour_c {cs : Array Value} {xs : List Nat} (R0 : (rArr 4 (rF .f32)).rd h cs.toList xs) : CALL prg f_impl_MixFour #[.agg cs] (fun u h' => Four h h' u (mixFour xs)) h := by
  refine impl_MixFour.call ((Mem.start h).alc fun g1 h1 x1 M => M.alc fun g3 h2 x2 M => ?_)
  have R : RdP (rArr 4 (rF .f32)) h2 ⟨g1, 0, none⟩ xs := M.rdp (.there .here) ((rArr 4 (rF .f32)).ext M.ext R0)
  refine idx (by omega) (by omega) (R.oF1 fun y1 k1 => idx (by omega) (by omega) (R.oF2 fun y2 k2 => idx (by omega) (by omega) (R.oF1 fun y3 k3 => idx (by omega) (by omega) (R.oF2 fun y4 k4 => ?_))))
  refine idx (by omega) (by omega) (R.oF2 fun y5 k5 => idx (by omega) (by omega) (R.oF2 fun y6 k6 => idx (by omega) (by omega) (R.oF2 fun y7 k7 => idx (by omega) (by omega) (R.oF2 fun y8 k8 => ?_))))
  have fin : ∀ {z1 z2 z3 z4 : Nat}, FW .f32 z1 (fadd .f32 xs[0]! xs[1]!) → FW .f32 z2 (fsub .f32 xs[0]! xs[1]!) → FW .f32 z3 (fadd .f32 xs[2]! xs[3]!) → FW .f32 z4 (fsub .f32 xs[2]! xs[3]!) →
      FOP .f32 (FloatKind.f32.format.add z1 z3) fun r17 => FOP .f32 (FloatKind.f32.format.mul 1056964608 r17) fun r18 => FOP .f32 (FloatKind.f32.format.add z2 z4) fun r19 => FOP .f32 (FloatKind.f32.format.mul 1056964608 r19) fun r20 =>
      FOP .f32 (FloatKind.f32.format.sub z1 z3) fun r21 => FOP .f32 (FloatKind.f32.format.mul 1056964608 r21) fun r22 => FOP .f32 (FloatKind.f32.format.sub z2 z4) fun r23 => FOP .f32 (FloatKind.f32.format.mul 1056964608 r23) fun r24 =>
      STA 4 h2 ⟨g3, 0, none⟩ ⟨[.float .f32 r18, .float .f32 r20, .float .f32 r22, .float .f32 r24]⟩ fun h25 => LDA 4 h25 ⟨g3, 0, none⟩ fun a26 => Four h h25 (.agg a26) (mixFour xs) := fun j1 j2 j3 j4 =>
    fA j1 j3 fun z5 j5 => fM fwhalf j5 fun z6 j6 => fA j2 j4 fun z7 j7 => fM fwhalf j7 fun z8 j8 => fS j1 j3 fun z9 j9 => fM fwhalf j9 fun z10 j10 => fS j2 j4 fun z11 j11 => fM fwhalf j11 fun z12 j12 => four_out M fun _ => four_rd j6 j8 j10 j12
  (repeat' (first
    | refine pin_same ?_
    | refine And.intro ?_ ?_
    | exact fin (by assumption) (by assumption) (by assumption) (by assumption)
    | refine fA (by assumption) (by assumption) fun _ _ => ?_
    | refine fS (by assumption) (by assumption) fun _ _ => ?_))
end
end Go.Sx
/- Rings and filters that are silent, as the program tells them. -/
set_option linter.unusedVariables false
set_option linter.unusedSimpArgs false
namespace Go.Sx
open Go.Proofs
set_option maxRecDepth 100000
set_option maxHeartbeats 1000000

section
variable {h : Heap} {q : Addr}
theorem ordZ {y a : Nat} (hy : FW .f32 y a) : (FloatKind.f32.format.order y 0 == some .eq) = isZ a := by rw [ord_eq hy fw0]; rfl
theorem ordN {y a : Nat} (hy : FW .f32 y a) : (FloatKind.f32.format.order y 0 != some .eq) = !isZ a := by rw [bne, ordZ hy]
theorem Filter_isStill_c {cs : Array Value} {f : GFilter} (R0 : rFilter.rd h cs.toList f) : CALL prg f_impl_Filter_isStill #[.agg cs] (fun u h' => u = .bool f.still ∧ Ext h h') h := by
  refine impl_Filter_isStill.call (alcR R0 fun g h1 x1 R => idx (by omega) (by omega) (R.oF2 fun y hy => ?_))
  rw [ordZ hy]
  refine br (fun hb => idx (by omega) (by omega) (R.oF2 fun z hz => ?_)) fun hb => ?_
  · rw [ordZ hz]
    refine ⟨?_, x1⟩
    have hb : feq .f32 f.S[0]! 0 = true := hb
    unfold GFilter.still; rw [hb]; rfl
  · refine ⟨?_, x1⟩
    have hb : feq .f32 f.S[0]! 0 = false := hb
    unfold GFilter.still; rw [hb]; rfl
theorem runL_lt {l : List Nat} {n : Nat} (hn : n < l.length) (h1 : ∀ i, i < n → isZ l[i]! = true) (h2 : isZ l[n]! = false) : runL l = n := by
  induction l generalizing n with
  | nil => simp at hn
  | cons a l ih =>
    cases n with
    | zero => unfold runL; rw [show isZ a = false from h2]; rfl
    | succ n =>
      unfold runL
      rw [if_pos (show isZ a = true from h1 0 (by omega)), ih (by simpa using hn) (fun i hi => h1 (i + 1) (by omega)) h2]
theorem recent_get {r : GRing} {i : Nat} (hi : i < r.Samples.length) : r.recent[i]! = r.back ((i : Int) + 1) := by
  rw [List.getElem!_eq_getElem?_getD]
  unfold GRing.recent
  rw [List.getElem?_map, List.getElem?_range hi]; rfl
theorem Ring_quiet_c {cs : Array Value} {r : GRing} (R0 : rRing.rd h cs.toList r) (hr : r.ok = true) : CALL prg f_impl_Ring_quiet #[.agg cs] (fun u h' => u = .int .i64 (r.quiet : Int) ∧ Ext h h') h := by
  have h1 := at_lt hr
  have hlen : r.len = r.Samples.length := rfl
  refine impl_Ring_quiet.call (alcR R0 fun g h1 x1 R => R.oL2 fun b l c S => goX (length_f32_c _ _ _ _) fun h2 x2 => as_i ?_)
  have hl : r.Samples.length = l := S.len
  have R := R.ext x2
  refine loop (fun y hh => ∃ n : Nat, y = (⟨g, 0, none⟩, (l : Int), (n : Int) + 1) ∧ n ≤ l ∧ Ext h2 hh ∧ ∀ i, i < n → isZ r.recent[i]! = true) (fun y => (l + 1 - y.2.2).toNat) ⟨0, rfl, by omega, Ext.refl _, fun i hi => by omega⟩ ?_
  rintro y hh ⟨n, rfl, hn, X, hz⟩
  refine brd (fun hc => ?_) fun hc => ?_
  · refine (R.ext X).lda1 rfl fun cs' Rc => (Ring_back_c Rc hr (k := (n : Int) + 1) (by unfold inR; simp only [Bool.and_eq_true, decide_eq_true_eq]; omega)).mono ?_
    rintro _ h3 ⟨⟨y, rfl, hy⟩, x3⟩
    refine as_f ?_
    rw [ordN hy]
    refine br (fun hb => ?_) fun hb => ?_
    · refine ⟨?_, ((x1.trans x2).trans X).trans x3⟩
      have : r.quiet = n := runL_lt (by rw [recent_len]; omega) hz (by rw [recent_get (by omega)]; exact nt hb)
      rw [this, wrap64 (by omega) (by omega)]
      congr 1; omega
    · refine ⟨⟨n + 1, by rw [wrap64 (n := (n : Int) + 1 + 1) (by omega) (by omega)]; rfl, by omega, X.trans x3, fun i hi => ?_⟩, by rw [wrap64 (n := (n : Int) + 1 + 1) (by omega) (by omega)]; show _ < _; simp; omega⟩
      by_cases e : i = n
      · subst e; rw [recent_get (by omega)]; exact nf hb
      · exact hz i (by omega)
  · obtain rfl : n = l := by omega
    refine ⟨?_, (x1.trans x2).trans X⟩
    have : r.quiet = n := by
      rw [← hl]
      unfold GRing.quiet
      rw [← recent_len r, runL_all]
      intro a ha
      obtain ⟨j, hj, rfl⟩ := List.mem_iff_getElem.1 ha
      have := hz j (by rw [recent_len] at hj; omega)
      rwa [getElem!_pos _ j hj] at this
    rw [this]
end
end Go.Sx
/- Rooms that are silent, as the program tells them. -/
set_option linter.unusedVariables false
set_option linter.unusedSimpArgs false
namespace Go.Sx
open Go.Proofs
set_option maxRecDepth 100000
set_option maxHeartbeats 1000000

section
variable {h : Heap} {q : Addr} {x : GRoom}
def GRoom.stillD (x : GRoom) : Bool := x.Damps.all GFilter.still
def GRoom.zeroR (x : GRoom) : Bool := x.Early.zero && x.Combs.all (fun c => c.Ring.zero) && x.Loops.all GRing.zero
theorem zero_eq (x : GRoom) : x.zero = (x.zeroR && x.stillD) := rfl
theorem Room_isStill_c (R : RdP rRoom h q x) : CALL prg f_p_impl_Room_isStill #[.pointer (some q)] (fun u h' => u = .bool x.stillD ∧ Ext h h') h := by
  have hD : x.Damps.length = 4 := (R.foc foc_Room_Damps).len
  refine p_impl_Room_isStill.call (R.lda foc_Room_Damps rfl fun cD RD => ?_)
  refine loop (fun y hh => ∃ n : Nat, y = (cD, (n : Int)) ∧ n ≤ 4 ∧ Ext h hh ∧ ∀ i, i < n → x.Damps[i]!.still = true) (fun y => (4 - y.2).toNat) ⟨0, rfl, by omega, Ext.refl _, fun i hi => by omega⟩ ?_
  rintro y hh ⟨n, rfl, hn, X, hz⟩
  refine brd (fun hc => ?_) fun hc => ?_
  · have Rn : rFilter.rd h (cD.extract (n * 6) (n * 6 + 6)).toList x.Damps[n]! := rd_part RD (Foc.arr rFilter n (by omega)) rfl
    refine idx (by omega) (by omega) ((Mem.start hh).alc fun g2 h8 x8 M => M.sta0 .here (rsz Rn rfl) (rFilter.rone Rn) rfl .here fun h9 M => M.lda0 .here (rsz Rn rfl) ?_)
    have X9 := X.trans M.ext
    refine goX (Filter_isStill_c (rFilter.ext X9 Rn)) fun h10 x10 => as_b (br (fun hb => ⟨?_, X9.trans x10⟩) fun hb => ?_)
    · have : x.stillD = false := by unfold GRoom.stillD; rw [all_range, all_false (f := fun i => x.Damps[i]!.still) (i := n) (by omega) (nt hb)]
      rw [this]
    · refine ⟨⟨n + 1, by rw [wrap64_succ (by omega)], by omega, X9.trans x10, fun i hi => ?_⟩, by rw [wrap64_succ (by omega)]; show _ < _; simp; omega⟩
      by_cases e : i = n
      · subst e; exact nf hb
      · exact hz i (by omega)
  · refine ⟨?_, X⟩
    unfold GRoom.stillD; rw [all_range, all_true fun i hi => hz i (by omega)]
end
end Go.Sx
