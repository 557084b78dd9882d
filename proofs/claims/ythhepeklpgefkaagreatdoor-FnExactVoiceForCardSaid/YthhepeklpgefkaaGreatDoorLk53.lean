/- The voice of a start: both. -/
import Derived.Test.YthhepeklpgefkaaGreatDoorLk35
import Derived.Test.YthhepeklpgefkaaGreatDoorK4
import Derived.Test.YthhepeklpgefkaaGreatDoorVoiceFor
import Derived.Test.YthhepeklpgefkaaGreatDoorLh0
import Derived.Test.YthhepeklpgefkaaGreatDoorTab
import Derived.Test.YthhepeklpgefkaaGreatDoorLk4
set_option linter.unusedVariables false
set_option linter.unusedSimpArgs false
namespace Go.Sx
open Go.Proofs Ieee
set_option maxRecDepth 100000
set_option maxHeartbeats 4000000

/-- Whether an event is a start of a score. -/
noncomputable def GScore.isStart (s : GScore) (e : GEvent) : Bool := s.ok && isSt e && s.Events.any fun x => same x e
noncomputable def GScore.voiceFor (s : GScore) (e : GEvent) : GVoice × Int := if s.isStart e = true then (forV (voiceOf s e), forN (voiceOf s e)) else (z_Voice, 1)
/-- A start in good events is the one that is found under its note. -/
theorem start_is {es : List GEvent} {ni : Int} (G : EvGood es ni) {e : GEvent} (hs : isSt e = true) (hm : e ∈ es) : startEv es e.Note = some e := by
  unfold startEv
  cases hf : es.find? fun x => isSt x && x.Note == e.Note with
  | none =>
    have := List.find?_eq_none.1 hf e hm
    exact absurd (by rw [hs]; simp) this
  | some x =>
    have hx := List.mem_of_find?_eq_some hf
    have hp := List.find?_some hf
    simp only [Bool.and_eq_true, beq_iff_eq] at hp
    obtain ⟨i, hi, rfl⟩ := List.mem_iff_getElem.1 hx
    obtain ⟨j, hj, rfl⟩ := List.mem_iff_getElem.1 hm
    have := G.st1 i j hi hj (by rw [getElem!_pos es i hi]; exact hp.1) (by rw [getElem!_pos es j hj]; exact hs) (by rw [getElem!_pos es i hi, getElem!_pos es j hj]; exact hp.2)
    subst this
    rfl
theorem start_mem {es : List GEvent} {n : Int} {e : GEvent} (h : startEv es n = some e) : e ∈ es ∧ isSt e = true ∧ e.Note = n := by
  have hx := List.mem_of_find?_eq_some h
  have hp := List.find?_some h
  simp only [Bool.and_eq_true, beq_iff_eq] at hp
  exact ⟨hx, hp.1, hp.2⟩
theorem isStart_iff {s : GScore} (hs : s.ok = true) (e : GEvent) : s.isStart e = (isSt e && same (startEv s.Events e.Note) (some e)) := by
  rw [Bool.eq_iff_iff]
  simp only [GScore.isStart, Bool.and_eq_true, List.any_eq_true, same_iff]
  constructor
  · rintro ⟨⟨_, h1⟩, x, hx, rfl⟩
    exact ⟨h1, start_is (score_ev hs) h1 hx⟩
  · rintro ⟨h1, h2⟩
    exact ⟨⟨hs, h1⟩, e, (start_mem h2).1, rfl⟩
section
variable {h : Heap} {x a : Nat}
theorem vf_no {h0 hh : Heap} {g5 : Nat} {L : List Blk} {q : GVoice × Int} (M : Mem h0 hh ((g5, T_impl_Voice, ⟨Z_impl_Voice⟩) :: L)) (hq : q = (z_Voice, 1)) :
    STA 45 hh ⟨g5, 0, none⟩ ⟨Z_impl_Voice⟩ fun h1 => LDA 45 h1 ⟨g5, 0, none⟩ fun a => PairR rVoice h0 h1 (.tuple ⟨[.agg a, .int .i64 (1 : Int)]⟩) q.1 q.2 := by
  subst hq
  exact M.sta0 .here rfl (all_one rfl) rfl .here fun h3 M => M.lda0 .here rfl ⟨_, [], rfl, zow_Voice, (Mem.start h0).grow M.ext⟩
theorem spec_VoiceFor_c {cs ce : Array Value} {s : GScore} {e : GEvent} (R0 : rScore.rd h cs.toList s) (E0 : rEvent.rd h ce.toList e) :
    CALL prg f_spec_VoiceFor #[.agg cs, .agg ce] (fun u h' => PairR rVoice h h' u (s.voiceFor e).1 (s.voiceFor e).2) h := by
  refine spec_VoiceFor.call ((Mem.start h).alc fun g1 h1 x1 M => M.alc fun g3 h2 x2 M => M.alc fun g5 h3 x3 M => ?_)
  have A : ∀ {hh : Heap}, Ext h3 hh → RdP rScore hh ⟨g1, 0, none⟩ s := fun x => (M.rdp (.there (.there .here)) (rScore.ext M.ext R0)).ext x
  have E : ∀ {hh : Heap}, Ext h3 hh → RdP rEvent hh ⟨g3, 0, none⟩ e := fun x => (M.rdp (.there .here) (rEvent.ext M.ext E0)).ext x
  have M5 : Mem h h3 [(g5, T_impl_Voice, ⟨Z_impl_Voice⟩)] := M.cnt (fun p => by simp only [cnt_app, cnt_cons, cnt_nil] at *; omega)
  have M0 : Mem h3 h3 [] := Mem.start h3
  have no : ∀ {hh : Heap}, Ext h3 hh → s.isStart e = false → STA 45 hh ⟨g5, 0, none⟩ ⟨Z_impl_Voice⟩ fun h1 => LDA 45 h1 ⟨g5, 0, none⟩ fun a => PairR rVoice h h1 (.tuple ⟨[.agg a, .int .i64 (1 : Int)]⟩) (s.voiceFor e).1 (s.voiceFor e).2 := fun {hh} x k =>
    vf_no (L := []) (M5.grow x) (by unfold GScore.voiceFor; rw [k, if_neg (by decide)])
  refine goX (l08Ok_c (A (Ext.refl _))) fun h4 x4 => as_b (br (fun k => no x4 ?_) fun k => ?_)
  · have k : s.ok = false := by simpa using k
    unfold GScore.isStart; rw [k]; rfl
  have hs : s.ok = true := by simpa using k
  have hi := isStart_iff hs e
  refine (E x4).oI2 ((l09Start_c (A x4) e.Note).mono ?_)
  rintro _ h5 ⟨⟨cz, rfl, Rz⟩, x5⟩
  have X := x4.trans x5
  refine tup2 (as_a (as_b ((Mem.start h5).alc fun g19 h6 x6 N => N.sta0 .here (rsz Rz rfl) (rEvent.rone Rz) rfl .here fun h7 N => ?_)))
  have X7 := X.trans N.ext
  have Z : RdP rEvent h7 ⟨g19, 0, none⟩ ((startEv s.Events e.Note).getD z_Event) := N.rdp .here (rEvent.ext N.ext Rz)
  refine br (fun k => no X7 ?_) fun k => ?_
  · rw [hi]
    cases hz : startEv s.Events e.Note with
    | none => rw [same_ne (by simp), Bool.and_false]
    | some z => rw [hz] at k; cases k
  obtain ⟨z, hz⟩ : ∃ z, startEv s.Events e.Note = some z := by
    cases hz : startEv s.Events e.Note with
    | none => rw [hz] at k; cases k
    | some z => exact ⟨z, rfl⟩
  rw [hz] at Z hi
  have Z : RdP rEvent h7 ⟨g19, 0, none⟩ z := Z
  have hi : s.isStart e = (isSt e && same z e) := by
    rw [hi]
    congr 1
    rw [Bool.eq_iff_iff, same_iff, same_iff]
    exact ⟨fun h => Option.some.inj h, fun h => by rw [h]⟩
  obtain ⟨_, hst, hno⟩ := start_mem hz
  have hk : z.Kind = 2 := by unfold isSt at hst; simpa using hst
  have ne : z ≠ e → s.isStart e = false := fun h => by rw [hi, same_ne h, Bool.and_false]
  refine (E X7).oI2 (br (fun k => no X7 ?_) fun k1 => ?_)
  · have k : ¬ e.Kind = 2 := by simpa using k
    exact ne fun h => k (h ▸ hk)
  refine Z.oI1 ((E X7).oI1 (br (fun k => no X7 (ne fun h => ?_)) fun k2 => ?_))
  · have k : ¬ z.At = e.At := by simpa using k
    exact k (by rw [h])
  refine Z.oI2 ((E X7).oI2 (br (fun k => no X7 (ne fun h => ?_)) fun k3 => ?_))
  · have k : ¬ z.Instrument = e.Instrument := by simpa using k
    exact k (by rw [h])
  refine Z.oI2 ((E X7).oI2 (br (fun k => no X7 (ne fun h => ?_)) fun k4 => ?_))
  · have k : ¬ z.Key = e.Key := by simpa using k
    exact k (by rw [h])
  refine Z.oF2 fun r1 hr1 => (E X7).oF2 fun r2 hr2 => goX (l01Same_c hr1 hr2 _) fun h8 x8 => as_b (br (fun k => no (X7.trans x8) (ne fun h => ?_)) fun k5 => ?_)
  · have k : ¬ z.Force = e.Force := by simpa using k
    exact k (by rw [h])
  have k1 : e.Kind = 2 := by simpa using k1
  have k2 : z.At = e.At := by simpa using k2
  have k3 : z.Instrument = e.Instrument := by simpa using k3
  have k4 : z.Key = e.Key := by simpa using k4
  have k5 : z.Force = e.Force := by simpa using k5
  have hze : z = e := by
    rw [← same_iff, same_Event]
    simp [k1, k2, k3, k4, k5, hk, hno]
  subst hze
  have hst' : s.isStart z = true := by rw [hi, hst, same_refl]; rfl
  have X8 := X7.trans x8
  unfold spec_VoiceFor.J6
  unfold GScore.voiceFor
  rw [if_pos hst']
  refine (spec_l09For_c (A X8) (E X8) hs (start_ins hs hz)).mono ?_
  rintro _ h9 ⟨cv, B, v, rfl, O, Nv, hv⟩
  have M := (M5.grow X8).join Nv
  refine tup2 (as_a (as_b (M.alc fun g52 h10 x10 M => M.sta0 .here (osz O rfl) (rVoice.oone O) rfl .here fun h11 M => ?_)))
  cases ho : voiceOf s z with
  | none =>
    refine br_t rfl ?_
    have M := M.cnt (W := [(g5, T_impl_Voice, ⟨Z_impl_Voice⟩)]) (fun p => by simp only [cnt_app, cnt_cons, cnt_nil] at *; omega)
    exact M.sta0 .here rfl (all_one rfl) rfl .here fun h3 M => M.lda0 .here rfl ⟨_, [], rfl, zow_Voice, (Mem.start h).grow M.ext⟩
  | some w =>
    obtain rfl := hv w ho
    refine br_f rfl (M.lda0 .here (osz O rfl) ?_)
    have M := M.cnt (W := (g5, T_impl_Voice, ⟨Z_impl_Voice⟩) :: B) (fun p => by simp only [cnt_app, cnt_cons, cnt_nil] at *; omega)
    exact M.sta0 .here (osz O rfl) (rVoice.oone O) rfl .here fun h12 M => M.lda0 .here (osz O rfl) ⟨_, B, rfl, O, M.drop⟩
theorem ContainsFunc_Event_c {b : Option Addr} {l c : Nat} {xs : List GEvent} {f : Value} {p : GEvent → Bool} (S : SlR rEvent h b l c xs) (T : TellsR prg rEvent h f p) :
    CALL prg f_slices_ContainsFunc_sl_impl_Event_impl_Event #[.slice b l c, f] (fun u h' => u = .bool (xs.any p) ∧ Ext h h') h :=
  slices_ContainsFunc_sl_impl_Event_impl_Event.call (goX (IndexFunc_Event_c S T) fun h1 x1 => as_i ⟨by rw [firstAt_any], x1⟩)
theorem impl_VoiceFor_c {cs ce : Array Value} {s : GScore} {e : GEvent} (R0 : rScore.rd h cs.toList s) (E0 : rEvent.rd h ce.toList e) :
    CALL prg f_impl_VoiceFor #[.agg cs, .agg ce] (fun u h' => PairR rVoice h h' u (s.voiceFor e).1 (s.voiceFor e).2) h := by
  refine impl_VoiceFor.call ((Mem.start h).alc fun g1 h1 x1 M => M.alc fun g3 h2 x2 M => M.alc fun g5 h3 x3 M => ?_)
  have A : ∀ {hh : Heap}, Ext h3 hh → RdP rScore hh ⟨g1, 0, none⟩ s := fun x => (M.rdp (.there (.there .here)) (rScore.ext M.ext R0)).ext x
  have E : ∀ {hh : Heap}, Ext h3 hh → RdP rEvent hh ⟨g3, 0, none⟩ e := fun x => (M.rdp (.there .here) (rEvent.ext M.ext E0)).ext x
  have M5 : Mem h h3 [(g5, T_impl_Voice, ⟨Z_impl_Voice⟩)] := M.cnt (fun p => by simp only [cnt_app, cnt_cons, cnt_nil] at *; omega)
  have no : ∀ {hh : Heap}, Ext h3 hh → s.isStart e = false → STA 45 hh ⟨g5, 0, none⟩ ⟨Z_impl_Voice⟩ fun h1 => LDA 45 h1 ⟨g5, 0, none⟩ fun a => PairR rVoice h h1 (.tuple ⟨[.agg a, .int .i64 (1 : Int)]⟩) (s.voiceFor e).1 (s.voiceFor e).2 := fun {hh} x k =>
    vf_no (L := []) (M5.grow x) (by unfold GScore.voiceFor; rw [k, if_neg (by decide)])
  refine (A (Ext.refl _)).lda1 rfl fun c7 R7 => goX (ValidScore_c R7) fun h4 x4 => as_b (br (fun k => no x4 ?_) fun k => ?_)
  · have k : s.ok = false := by simpa using k
    unfold GScore.isStart; rw [k]; rfl
  have hs : s.ok = true := by simpa using k
  refine (E x4).oI2 (br (fun k => no x4 ?_) fun k1 => ?_)
  · have k : ¬ e.Kind = 2 := by simpa using k
    have k : isSt e = false := by unfold isSt; simpa using k
    unfold GScore.isStart; rw [k, Bool.and_false]; rfl
  have hst : isSt e = true := by unfold isSt; simpa using k1
  have T : TellsR prg rEvent h4 (.func (.func f_impl_VoiceFor_c1) #[] #[.pointer (some ⟨g3, 0, none⟩)]) (fun x => same x e) := fun cx y hx xx Re => by
    show CALL prg f_impl_VoiceFor_c1 #[.agg cx, .pointer (some ⟨g3, 0, none⟩)] _ hx
    exact impl_VoiceFor_c1.call (alcR Re fun g h' x' R' => R'.lda1 rfl fun c3 R3 => (E (x4.trans (xx.trans x'))).lda1 rfl fun c4 R4 => goE x' (sameEvent_c R3 R4) fun h6 x6 => as_b ⟨rfl, x6⟩)
  refine (A x4).oL2 fun b l c S => goX (ContainsFunc_Event_c S T) fun h5 x5 => as_b (br (fun k => no (x4.trans x5) ?_) fun k => ?_)
  · have k : (s.Events.any fun x => same x e) = false := by simpa using k
    unfold GScore.isStart; rw [k, Bool.and_false]
  have k : (s.Events.any fun x => same x e) = true := by simpa using k
  have hyes : s.isStart e = true := by unfold GScore.isStart; rw [hs, hst, k]; rfl
  have hz : startEv s.Events e.Note = some e := by
    have := isStart_iff hs e
    rw [hyes, hst, Bool.true_and] at this
    exact same_iff.1 this.symm
  unfold impl_VoiceFor.J3
  unfold GScore.voiceFor
  rw [if_pos hyes]
  have X := x4.trans x5
  refine (A X).lda1 rfl fun c8 R8 => (E X).lda1 rfl fun c9 R9 => PairR.go (M5.grow X) (voiceFor_c R8 R9 hs (start_ins hs hz)) fun h6 cv B M O sv => tup2 (as_a (as_i ?_))
  have M := M.cnt (W := (g5, T_impl_Voice, ⟨Z_impl_Voice⟩) :: B) (fun p => by simp only [cnt_app, cnt_cons, cnt_nil] at *; omega)
  exact M.sta0 .here sv (rVoice.oone O) rfl .here fun h12 M => M.lda0 .here sv ⟨_, B, rfl, O, M.drop⟩
end
end Go.Sx
/- The laws' helpers over rings and filters: what they compute. -/
set_option linter.unusedVariables false
set_option linter.unusedSimpArgs false
namespace Go.Sx
open Go.Proofs
set_option maxRecDepth 100000

theorem nw_Float32S (xs : List Nat) : n_Float32S xs ≤ 8 * w_Float32S xs := by unfold n_Float32S w_Float32S; omega
section
variable {h : Heap}
theorem eq_Ring_c {ca cb : Array Value} {x : GRing} (Ra : rRing.rd h ca.toList x) (Rb : rRing.rd h cb.toList x) : CALL prg f_laws_eqRing #[.agg ca, .agg cb] (fun u h' => u = .bool true ∧ Ext h h') h := by
  refine laws_eqRing.call (alcR Ra fun g1 h1 x1 A => alcR (rRing.ext x1 Rb) fun g2 h2 x2 B => ?_)
  have A := A.ext x2
  have X := x1.trans x2
  refine A.oL2 fun b1 l1 c1 S1 => B.oL2 fun b2 l2 c2 S2 => goX (eq_Float32S_c S1 S2) fun h' x' => as_b (br_f rfl ?_)
  have A := A.ext x'
  have B := B.ext x'
  have X := X.trans x'
  refine A.oI2 (B.oI2 (br_f (by simp) ?_))
  exact ⟨rfl, X⟩
def w_Ring (x : GRing) : Nat := w_Float32S x.Samples
theorem eq_Filter_c {ca cb : Array Value} {x : GFilter} (Ra : rFilter.rd h ca.toList x) (Rb : rFilter.rd h cb.toList x) : CALL prg f_laws_eqFilter #[.agg ca, .agg cb] (fun u h' => u = .bool true ∧ Ext h h') h := by
  refine laws_eqFilter.call (alcR Ra fun g1 h1 x1 A => alcR (rFilter.ext x1 Rb) fun g2 h2 x2 B => ?_)
  have A := A.ext x2
  have X := x1.trans x2
  refine A.oI2 (B.oI2 (br_f (by simp) ?_))
  refine A.lda2 foc_Filter_C rfl fun c1 R1 => B.lda2 foc_Filter_C rfl fun c2 R2 => goX (eq_Float32A3_c R1 R2) fun h' x' => as_b (br_f rfl ?_)
  have A := A.ext x'
  have B := B.ext x'
  have X := X.trans x'
  refine A.lda2 foc_Filter_S rfl fun c1 R1 => B.lda2 foc_Filter_S rfl fun c2 R2 => goX (eq_Float32A2_c R1 R2) fun h' x' => as_b (br_f rfl ?_)
  have A := A.ext x'
  have B := B.ext x'
  have X := X.trans x'
  exact ⟨rfl, X⟩
end
end Go.Sx
/- What functions of this seat's program compute, told in words (a predicate over heaps for each), and the proofs that the words are no more than the code's own weakest precondition. -/
namespace Go.Sx
open Go.Proofs
set_option linter.unusedVariables false
set_option maxRecDepth 100000

def laws_eqRingS.B4 (Post : Value → Heap → Prop) (N4 : (Option Addr × Nat × Nat × Option Addr × Nat × Nat × Int) → Heap → Prop) : Option Addr × Nat × Nat × Option Addr × Nat × Nat × Int → Heap → Prop
  | (a_0b, a_0l, a_0c, b_1b, b_1l, b_1c, i_5), h =>
    BIF ((decide (i_5 < (a_0l : Int)))) (
    IDXS a_0b i_5 a_0l fun p7 =>
    LDA 2 h ((Addr.add p7 ((Int.toNat i_5) * 2))) fun a8 =>
    IDXS b_1b i_5 b_1l fun p9 =>
    LDA 2 h ((Addr.add p9 ((Int.toNat i_5) * 2))) fun a10 =>
    CALL prg f_laws_eqRing #[.agg a8, .agg a10] (fun q11 h12 =>
    asB q11 fun b13 =>
    BIF (!b13) (
    Post (.bool false) h12) (
    N4 (a_0b, a_0l, a_0c, b_1b, b_1l, b_1c, ((IntKind.i64.wrap (i_5 + (1 : Int))))) h12)) h) (
    Post (.bool true) h)
def laws_eqRingS.g4 (fr : Frame) : Option Addr × Nat × Nat × Option Addr × Nat × Nat × Int := ((gLb (lget fr 0)), (gLl (lget fr 0)), (gLc (lget fr 0)), (gLb (lget fr 1)), (gLl (lget fr 1)), (gLc (lget fr 1)), (gI (lget fr 5)))
def laws_eqRingS.l4 (Post : Value → Heap → Prop) : Frame → Heap → Prop := fun fr h => GRD (shape (kds 27 [(0, .l), (1, .l), (5, .i .i64)]) fr) (LOOP (laws_eqRingS.B4 Post) (laws_eqRingS.g4 fr) h)
def laws_eqRingS.S (a_0b : Option Addr) (a_0l a_0c : Nat) (b_1b : Option Addr) (b_1l b_1c : Nat) (Post : Value → Heap → Prop) (h : Heap) : Prop :=
    BIF ((a_0l : Int) != (b_1l : Int)) (
    Post (.bool false) h) (
    LOOP (laws_eqRingS.B4 Post) (a_0b, a_0l, a_0c, b_1b, b_1l, b_1c, (0 : Int)) h)
noncomputable def laws_eqRingS.code : Code := (Tryz.f172.body).getD .skip
theorem laws_eqRingS.call {a_0b : Option Addr} {a_0l a_0c : Nat} {b_1b : Option Addr} {b_1l b_1c : Nat} {Post : Value → Heap → Prop} {h : Heap} (H : laws_eqRingS.S a_0b a_0l a_0c b_1b b_1l b_1c Post h) : CALL prg f_laws_eqRingS #[.slice a_0b a_0l a_0c, .slice b_1b b_1l b_1c] Post h :=
  fn_call tau_ok mixed (c := laws_eqRingS.code) (Λ := lookL [(1000004, laws_eqRingS.l4 Post)]) Tryz.func172 (by kernel_rfl) (by kernel_rfl)
    (Rq.seq (by kernel_rfl) (Rq.free (by kernel_rfl)) (Rq.seq (by kernel_rfl) (Rq.free (by kernel_rfl)) (Rq.seq (by kernel_rfl) (Rq.seq (by kernel_rfl) (Rq.free (by kernel_rfl)) (Rq.block (Rq.loop (laws_eqRingS.l4 Post) (by kernel_rfl) (segL (g := laws_eqRingS.g4) tau_ok mixed (Λ := fun N4 => lookL []) (fun _ _ _ => by kernel_rfl) (fun N4 => (Rq.free (by kernel_rfl))))))) (Rq.free (by kernel_rfl)))))
    (Eq.mp (by kernel_rfl) H)

def laws_markRingS.B2 (Post : Value → Heap → Prop) (N2 : (Option Addr × Nat × Nat × Int × Int) → Heap → Prop) : Option Addr × Nat × Nat × Int × Int → Heap → Prop
  | (a_0b, a_0l, a_0c, k_1, i_5), h =>
    BIF ((decide (i_5 < (a_0l : Int)))) (
    IDXS a_0b i_5 a_0l fun p3 =>
    oL (cell h ((Addr.add p3 ((Int.toNat i_5) * 2)))) fun l4b l4l l4c =>
    CALL prg f_laws_markFloat32S #[.slice l4b l4l l4c, .int .i64 k_1] (fun q5 h6 =>
    asI .i64 q5 fun n7 =>
    IDXS a_0b i_5 a_0l fun p8 =>
    ST1 h6 ((Addr.add ((Addr.add p8 ((Int.toNat i_5) * 2))) 1)) (.int .i64 n7) fun h9 =>
    N2 (a_0b, a_0l, a_0c, ((IntKind.i64.wrap (n7 + (1 : Int)))), ((IntKind.i64.wrap (i_5 + (1 : Int))))) h9) h) (
    Post (.int .i64 k_1) h)
def laws_markRingS.g2 (fr : Frame) : Option Addr × Nat × Nat × Int × Int := ((gLb (lget fr 0)), (gLl (lget fr 0)), (gLc (lget fr 0)), (gI (lget fr 1)), (gI (lget fr 5)))
def laws_markRingS.l2 (Post : Value → Heap → Prop) : Frame → Heap → Prop := fun fr h => GRD (shape (kds 27 [(0, .l), (1, .i .i64), (5, .i .i64)]) fr) (LOOP (laws_markRingS.B2 Post) (laws_markRingS.g2 fr) h)
def laws_markRingS.S (a_0b : Option Addr) (a_0l a_0c : Nat) (k_1 : Int) (Post : Value → Heap → Prop) (h : Heap) : Prop :=
    LOOP (laws_markRingS.B2 Post) (a_0b, a_0l, a_0c, k_1, (0 : Int)) h
noncomputable def laws_markRingS.code : Code := (Tryz.f142.body).getD .skip
theorem laws_markRingS.call {a_0b : Option Addr} {a_0l a_0c : Nat} {k_1 : Int} {Post : Value → Heap → Prop} {h : Heap} (H : laws_markRingS.S a_0b a_0l a_0c k_1 Post h) : CALL prg f_laws_markRingS #[.slice a_0b a_0l a_0c, .int .i64 k_1] Post h :=
  fn_call tau_ok mixed (c := laws_markRingS.code) (Λ := lookL [(1000002, laws_markRingS.l2 Post)]) Tryz.func142 (by kernel_rfl) (by kernel_rfl)
    (Rq.seq (by kernel_rfl) (Rq.free (by kernel_rfl)) (Rq.seq (by kernel_rfl) (Rq.seq (by kernel_rfl) (Rq.free (by kernel_rfl)) (Rq.block (Rq.loop (laws_markRingS.l2 Post) (by kernel_rfl) (segL (g := laws_markRingS.g2) tau_ok mixed (Λ := fun N2 => lookL []) (fun _ _ _ => by kernel_rfl) (fun N2 => (Rq.free (by kernel_rfl))))))) (Rq.free (by kernel_rfl))))
    (Eq.mp (by kernel_rfl) H)

def laws_heldRingS.B2 (Post : Value → Heap → Prop) (N2 : (Option Addr × Nat × Nat × Int × Int) → Heap → Prop) : Option Addr × Nat × Nat × Int × Int → Heap → Prop
  | (a_0b, a_0l, a_0c, k_1, i_5), h =>
    BIF ((decide (i_5 < (a_0l : Int)))) (
    IDXS a_0b i_5 a_0l fun p3 =>
    oL (cell h ((Addr.add p3 ((Int.toNat i_5) * 2)))) fun l4b l4l l4c =>
    CALL prg f_laws_heldFloat32S #[.slice l4b l4l l4c, .int .i64 k_1] (fun q5 h6 =>
    asI .i64 q5 fun n7 =>
    BIF ((decide (n7 < (0 : Int)))) (
    Post (.int .i64 (-1 : Int)) h6) (
    IDXS a_0b i_5 a_0l fun p8 =>
    oI .i64 (cell h6 ((Addr.add ((Addr.add p8 ((Int.toNat i_5) * 2))) 1))) fun n9 =>
    BIF (n9 != n7) (
    Post (.int .i64 (-1 : Int)) h6) (
    N2 (a_0b, a_0l, a_0c, ((IntKind.i64.wrap (n7 + (1 : Int)))), ((IntKind.i64.wrap (i_5 + (1 : Int))))) h6))) h) (
    Post (.int .i64 k_1) h)
def laws_heldRingS.g2 (fr : Frame) : Option Addr × Nat × Nat × Int × Int := ((gLb (lget fr 0)), (gLl (lget fr 0)), (gLc (lget fr 0)), (gI (lget fr 1)), (gI (lget fr 5)))
def laws_heldRingS.l2 (Post : Value → Heap → Prop) : Frame → Heap → Prop := fun fr h => GRD (shape (kds 31 [(0, .l), (1, .i .i64), (5, .i .i64)]) fr) (LOOP (laws_heldRingS.B2 Post) (laws_heldRingS.g2 fr) h)
def laws_heldRingS.S (a_0b : Option Addr) (a_0l a_0c : Nat) (k_1 : Int) (Post : Value → Heap → Prop) (h : Heap) : Prop :=
    LOOP (laws_heldRingS.B2 Post) (a_0b, a_0l, a_0c, k_1, (0 : Int)) h
noncomputable def laws_heldRingS.code : Code := (Tryz.f143.body).getD .skip
theorem laws_heldRingS.call {a_0b : Option Addr} {a_0l a_0c : Nat} {k_1 : Int} {Post : Value → Heap → Prop} {h : Heap} (H : laws_heldRingS.S a_0b a_0l a_0c k_1 Post h) : CALL prg f_laws_heldRingS #[.slice a_0b a_0l a_0c, .int .i64 k_1] Post h :=
  fn_call tau_ok mixed (c := laws_heldRingS.code) (Λ := lookL [(1000002, laws_heldRingS.l2 Post)]) Tryz.func143 (by kernel_rfl) (by kernel_rfl)
    (Rq.seq (by kernel_rfl) (Rq.free (by kernel_rfl)) (Rq.seq (by kernel_rfl) (Rq.seq (by kernel_rfl) (Rq.free (by kernel_rfl)) (Rq.block (Rq.loop (laws_heldRingS.l2 Post) (by kernel_rfl) (segL (g := laws_heldRingS.g2) tau_ok mixed (Λ := fun N2 => lookL []) (fun _ _ _ => by kernel_rfl) (fun N2 => (Rq.free (by kernel_rfl))))))) (Rq.free (by kernel_rfl))))
    (Eq.mp (by kernel_rfl) H)

def laws_eqPipe.S (a_0 : Array Value) (b_1 : Array Value) (Post : Value → Heap → Prop) (h : Heap) : Prop :=
    ALC a_0 T_impl_Pipe (fun g1 h2 =>
    ALC b_1 T_impl_Pipe (fun g3 h4 =>
    oL (cell h4 ⟨g1, 0, none⟩) fun l5b l5l l5c =>
    oL (cell h4 ⟨g3, 0, none⟩) fun l6b l6l l6c =>
    CALL prg f_laws_eqRingS #[.slice l5b l5l l5c, .slice l6b l6l l6c] (fun q7 h8 =>
    asB q7 fun b9 =>
    BIF (!b9) (
    Post (.bool false) h8) (
    oL (cell h8 ⟨g1, 1, none⟩) fun l10b l10l l10c =>
    oL (cell h8 ⟨g3, 1, none⟩) fun l11b l11l l11c =>
    CALL prg f_laws_eqRingS #[.slice l10b l10l l10c, .slice l11b l11l l11c] (fun q12 h13 =>
    asB q12 fun b14 =>
    BIF (!b14) (
    Post (.bool false) h13) (
    oL (cell h13 ⟨g1, 2, none⟩) fun l15b l15l l15c =>
    oL (cell h13 ⟨g3, 2, none⟩) fun l16b l16l l16c =>
    CALL prg f_laws_eqFloat32S #[.slice l15b l15l l15c, .slice l16b l16l l16c] (fun q17 h18 =>
    asB q17 fun b19 =>
    BIF (!b19) (
    Post (.bool false) h18) (
    LDA 6 h18 ⟨g1, 3, none⟩ fun a20 =>
    LDA 6 h18 ⟨g3, 3, none⟩ fun a21 =>
    CALL prg f_laws_eqFilter #[.agg a20, .agg a21] (fun q22 h23 =>
    asB q22 fun b24 =>
    BIF (!b24) (
    Post (.bool false) h23) (
    oB (cell h23 ⟨g1, 9, none⟩) fun b25 =>
    oB (cell h23 ⟨g3, 9, none⟩) fun b26 =>
    BIF (!(b25 == b26)) (
    Post (.bool false) h23) (
    oF .f32 (cell h23 ⟨g1, 10, none⟩) fun r27 =>
    FFC .f32 r27 .f64 fun r28 =>
    oF .f32 (cell h23 ⟨g3, 10, none⟩) fun r29 =>
    FFC .f32 r29 .f64 fun r30 =>
    CALL prg f_laws_sameFloat #[.float .f64 r28, .float .f64 r30] (fun q31 h32 =>
    asB q31 fun b33 =>
    BIF (!b33) (
    Post (.bool false) h32) (
    oF .f32 (cell h32 ⟨g1, 11, none⟩) fun r34 =>
    FFC .f32 r34 .f64 fun r35 =>
    oF .f32 (cell h32 ⟨g3, 11, none⟩) fun r36 =>
    FFC .f32 r36 .f64 fun r37 =>
    CALL prg f_laws_sameFloat #[.float .f64 r35, .float .f64 r37] (fun q38 h39 =>
    asB q38 fun b40 =>
    BIF (!b40) (
    Post (.bool false) h39) (
    oF .f32 (cell h39 ⟨g1, 12, none⟩) fun r41 =>
    FFC .f32 r41 .f64 fun r42 =>
    oF .f32 (cell h39 ⟨g3, 12, none⟩) fun r43 =>
    FFC .f32 r43 .f64 fun r44 =>
    CALL prg f_laws_sameFloat #[.float .f64 r42, .float .f64 r44] (fun q45 h46 =>
    asB q45 fun b47 =>
    BIF (!b47) (
    Post (.bool false) h46) (
    Post (.bool true) h46)) h39)) h32)) h23))) h18)) h13)) h8)) h4) h2) h
noncomputable def laws_eqPipe.code : Code := (Tryz.f101.body).getD .skip
theorem laws_eqPipe.call {a_0 : Array Value} {b_1 : Array Value} {Post : Value → Heap → Prop} {h : Heap} (H : laws_eqPipe.S a_0 b_1 Post h) : CALL prg f_laws_eqPipe #[.agg a_0, .agg b_1] Post h :=
  fn_call tau_ok mixed (c := laws_eqPipe.code) (Λ := lookL []) Tryz.func101 (by kernel_rfl) (by kernel_rfl)
    (Rq.free (by kernel_rfl))
    (Eq.mp (by kernel_rfl) H)

def laws_markPipe.S (a_0 : Array Value) (k_1 : Int) (Post : Value → Heap → Prop) (h : Heap) : Prop :=
    ALC a_0 T_impl_Pipe (fun g1 h2 =>
    oL (cell h2 ⟨g1, 0, none⟩) fun l3b l3l l3c =>
    CALL prg f_laws_markRingS #[.slice l3b l3l l3c, .int .i64 k_1] (fun q4 h5 =>
    asI .i64 q4 fun n6 =>
    oL (cell h5 ⟨g1, 1, none⟩) fun l7b l7l l7c =>
    CALL prg f_laws_markRingS #[.slice l7b l7l l7c, .int .i64 n6] (fun q8 h9 =>
    asI .i64 q8 fun n10 =>
    oL (cell h9 ⟨g1, 2, none⟩) fun l11b l11l l11c =>
    CALL prg f_laws_markFloat32S #[.slice l11b l11l l11c, .int .i64 n10] (fun q12 h13 =>
    asI .i64 q12 fun n14 =>
    Post (.int .i64 n14) h13) h9) h5) h2) h
noncomputable def laws_markPipe.code : Code := (Tryz.f104.body).getD .skip
theorem laws_markPipe.call {a_0 : Array Value} {k_1 : Int} {Post : Value → Heap → Prop} {h : Heap} (H : laws_markPipe.S a_0 k_1 Post h) : CALL prg f_laws_markPipe #[.agg a_0, .int .i64 k_1] Post h :=
  fn_call tau_ok mixed (c := laws_markPipe.code) (Λ := lookL []) Tryz.func104 (by kernel_rfl) (by kernel_rfl)
    (Rq.free (by kernel_rfl))
    (Eq.mp (by kernel_rfl) H)

def laws_heldPipe.S (a_0 : Array Value) (k_1 : Int) (Post : Value → Heap → Prop) (h : Heap) : Prop :=
    ALC a_0 T_impl_Pipe (fun g1 h2 =>
    oL (cell h2 ⟨g1, 0, none⟩) fun l3b l3l l3c =>
    CALL prg f_laws_heldRingS #[.slice l3b l3l l3c, .int .i64 k_1] (fun q4 h5 =>
    asI .i64 q4 fun n6 =>
    BIF ((decide (n6 < (0 : Int)))) (
    Post (.int .i64 (-1 : Int)) h5) (
    oL (cell h5 ⟨g1, 1, none⟩) fun l7b l7l l7c =>
    CALL prg f_laws_heldRingS #[.slice l7b l7l l7c, .int .i64 n6] (fun q8 h9 =>
    asI .i64 q8 fun n10 =>
    BIF ((decide (n10 < (0 : Int)))) (
    Post (.int .i64 (-1 : Int)) h9) (
    oL (cell h9 ⟨g1, 2, none⟩) fun l11b l11l l11c =>
    CALL prg f_laws_heldFloat32S #[.slice l11b l11l l11c, .int .i64 n10] (fun q12 h13 =>
    asI .i64 q12 fun n14 =>
    BIF ((decide (n14 < (0 : Int)))) (
    Post (.int .i64 (-1 : Int)) h13) (
    Post (.int .i64 n14) h13)) h9)) h5)) h2) h
noncomputable def laws_heldPipe.code : Code := (Tryz.f107.body).getD .skip
theorem laws_heldPipe.call {a_0 : Array Value} {k_1 : Int} {Post : Value → Heap → Prop} {h : Heap} (H : laws_heldPipe.S a_0 k_1 Post h) : CALL prg f_laws_heldPipe #[.agg a_0, .int .i64 k_1] Post h :=
  fn_call tau_ok mixed (c := laws_heldPipe.code) (Λ := lookL []) Tryz.func107 (by kernel_rfl) (by kernel_rfl)
    (Rq.free (by kernel_rfl))
    (Eq.mp (by kernel_rfl) H)

end Go.Sx
/- Floats in blocks beside own data; blocks made sample by sample. -/
set_option linter.unusedVariables false
set_option linter.unusedSimpArgs false
namespace Go.Sx
open Go.Proofs
set_option maxRecDepth 100000
set_option maxHeartbeats 1000000

theorem rdsF_any {k : FloatKind} {h h' : Heap} : ∀ {xs : List Nat} {vs : List Value}, rds (rF k) h vs xs → rds (rF k) h' vs xs
  | [], vs, R => R
  | a :: xs, vs, R => by
    obtain ⟨v1, v2, rfl, R1, R2⟩ := R
    exact ⟨v1, v2, rfl, R1, rdsF_any R2⟩
/-- n floats, wherever they lie. -/
def FA (n : Nat) (cs : Array Value) (xs : List Nat) : Prop := (rArr n (rF .f32)).rd #[] cs.toList xs
section
variable {n : Nat} {cs : Array Value} {xs : List Nat}
theorem FA.rd (R : FA n cs xs) (h : Heap) : (rArr n (rF .f32)).rd h cs.toList xs := ⟨R.1, rdsF_any R.2⟩
theorem FA.of {h : Heap} (R : (rArr n (rF .f32)).rd h cs.toList xs) : FA n cs xs := ⟨R.1, rdsF_any R.2⟩
theorem FA.size (R : FA n cs xs) : cs.size = n := by have := rsz R rfl; rw [this]; exact Nat.mul_one n
theorem FA.one (R : FA n cs xs) : ∀ v ∈ cs.toList, v.oneCell' = true := (rArr n (rF .f32)).rone R
end
def zeros16 : List Nat := List.replicate 16 0
theorem FA.zero : FA 16 ⟨Z_impl_Block⟩ zeros16 := ⟨rfl, rdsF_any (h := #[]) ((zeros_fl 16).look (Mem.start #[]) (List.Sublist.refl _))⟩
section
variable {h0 h : Heap} {q : Addr} {F : Fr} {L : List Blk} {n : Nat}
theorem Mem.pin2 {h0' h' : Heap} {L' : List Blk} {g m : Nat} {cs : Array Value} {p : Prop} (M : Mem h0 h L) (l : Look L g cs) (M' : Mem h0' h' L') (l' : Look L' g cs) (H : p) : PIN h ⟨g, 0, none⟩ m h' p :=
  ⟨fun j _ => by rw [add_g, M.cell l, M'.cell l'], H⟩
end
end Go.Sx
