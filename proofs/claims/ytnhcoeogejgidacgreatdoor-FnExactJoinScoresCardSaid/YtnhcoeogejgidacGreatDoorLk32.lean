/- The program: which events are good, which scores. -/
import Derived.Test.YtnhcoeogejgidacGreatDoorLk27
import Derived.Test.YtnhcoeogejgidacGreatDoorLk29
import Derived.Test.YtnhcoeogejgidacGreatDoorLg
import Derived.Test.YtnhcoeogejgidacGreatDoorTabE
import Derived.Test.YtnhcoeogejgidacGreatDoorLp7
import Derived.Test.YtnhcoeogejgidacGreatDoorLk24
import Derived.Test.YtnhcoeogejgidacGreatDoorLr6
set_option linter.unusedVariables false
set_option linter.unusedSimpArgs false
namespace Go.Sx
open Go.Proofs
set_option maxRecDepth 100000
set_option maxHeartbeats 2000000

noncomputable def GScore.ok (s : GScore) : Bool := inside s.Rate 1065353216 1232348160 && s.Tuning.ok && (decide (s.Instruments.length ≤ 6) && instOk s.Instruments) && evOk s.Events s.Instruments.length
section
variable {h : Heap}
theorem length_Event_c (b : Option Addr) (l c : Nat) : Ret prg f_impl_length_impl_Event #[.slice b l c] (.int .i64 l) := fun h => impl_length_impl_Event.call ⟨rfl, Ext.refl _⟩
theorem length_Instrument_c (b : Option Addr) (l c : Nat) : Ret prg f_impl_length_impl_Instrument #[.slice b l c] (.int .i64 l) := fun h => impl_length_impl_Instrument.call ⟨rfl, Ext.refl _⟩
theorem isKey_c (k : Int) : Ret prg f_impl_isKey #[.int .i64 k] (.bool (inR k (-100) 100)) := fun h => impl_isKey.call ((within_c _ _ _).go fun h1 x1 => as_b ⟨rfl, x1⟩)
theorem isEvent_c {cs : Array Value} {e : GEvent} {ni : Int} (R0 : rEvent.rd h cs.toList e) (hni : 0 ≤ ni ∧ ni ≤ 9) : CALL prg f_impl_isEvent #[.agg cs, .int .i64 ni] (fun u h' => u = .bool (evPart ni e) ∧ Ext h h') h := by
  refine impl_isEvent.call (alcR R0 fun g h0 x0 R => R.oI2 (goE (Ext.refl h0) (within_c _ _ _ _) fun h1 x1 => as_b (brN (fun ha => ⟨by rw [evPart, ha]; rfl, x0.trans x1⟩) fun ha => ?_)))
  have R1 := R.ext x1
  refine R1.oI2 (br (fun k1 => ?_) fun k1 => ?_)
  · have hk : e.Kind = 1 := by simpa using k1
    have ev : evPart ni e = ((e.Instrument == 0) && (e.Key == 0) && (e.Force == 0)) := by rw [evPart, ha, if_pos hk]; simp
    refine R1.oI2 (br (fun k2 => ?_) fun k2 => ⟨by rw [ev, k2]; rfl, x0.trans x1⟩)
    refine R1.oI2 (br (fun k3 => ?_) fun k3 => ⟨by rw [ev, k3]; simp, x0.trans x1⟩)
    refine R1.oF2 fun y hy => goE x1 (bitsOf_c hy _) fun h2 x2 => as_i ⟨?_, x0.trans x2⟩
    rw [ev, k2, k3, Bool.true_and, Bool.true_and]
    congr 1
    rw [Bool.eq_iff_iff, beq_iff_eq, beq_iff_eq]
    omega
  · have hk : ¬ e.Kind = 1 := by simpa using k1
    have ev : evPart ni e = (e.Kind == 2 && inR e.Instrument 0 (ni - 1) && inR e.Key (-100) 100 && fin e.Force) := by rw [evPart, ha, if_neg hk]; simp
    refine R1.oI2 (br (fun k2 => ?_) fun k2 => ⟨by rw [ev, k2]; rfl, x0.trans x1⟩)
    refine R1.oI2 (goE x1 (within_c _ _ _ _) fun h2 x2 => ?_)
    rw [wrap64 (n := ni - 1) (by omega) (by omega)]
    refine as_b (br (fun k3 => ?_) fun k3 => ⟨by rw [ev, k3]; simp, x0.trans x2⟩)
    refine (R.ext x2).oI2 (goE x2 (isKey_c _ _) fun h3 x3 => as_b (br (fun k4 => ?_) fun k4 => ⟨by rw [ev, k4]; simp, x0.trans x3⟩))
    exact (R.ext x3).oF2 fun y hy => goE x3 (isFinite_c hy _) fun h4 x4 => as_b ⟨by rw [ev, k2, k3, k4]; rfl, x0.trans x4⟩
theorem ValidScore_J3 {h0 : Heap} {g1 : Nat} {s : GScore} (R : RdP rScore h ⟨g1, 0, none⟩ s) (X0 : Ext h0 h) (k : s.ok = evOk s.Events s.Instruments.length) (hi : s.Instruments.length ≤ 6) (he : s.Events.length = 2 * (s.Events.length / 2)) (hm : s.Events.length / 2 ≤ 64) :
    impl_ValidScore.J3 (fun u h' => u = .bool s.ok ∧ Ext h0 h') ⟨g1, 0, none⟩ h := by
  unfold impl_ValidScore.J3
  obtain ⟨es, hes⟩ : ∃ es, es = s.Events := ⟨_, rfl⟩
  obtain ⟨ni, hni⟩ : ∃ ni, ni = s.Instruments.length := ⟨_, rfl⟩
  obtain ⟨m, hmm⟩ : ∃ m, m = es.length / 2 := ⟨_, rfl⟩
  refine R.oL fun b1 l1 c1 S1 => goX (length_Event_c _ _ _ _) fun h1 x1 => as_i (nz (by decide) ((R.ext x1).oL fun b2 l2 c2 S2 => ?_))
  have e1 := S1.len
  rw [show IntKind.i64.wrap (Int.tdiv (l1 : Int) 2) = (m : Int) from by
    rw [show Int.tdiv (l1 : Int) 2 = ((l1 / 2 : Nat) : Int) from by rw [Int.ofNat_tdiv]; rfl, wrap64 (by omega) (by omega), hmm, hes, e1]]
  refine (starts_c S2).mono ?_
  rintro _ hb ⟨go, rfl, hgo, MO, xb⟩
  refine make_map fun gs h3 x3 hgs MS => ?_
  refine (compareEvents_c go).mono ?_
  rintro _ h4 ⟨gc, rfl, hgc, hcell, x4⟩
  have hsc : gs ≠ gc := by
    obtain ⟨_, _, e, _⟩ := MS
    have := (Array.getElem?_eq_some_iff.1 e).1
    omega
  have Rb := (R.ext x1).ext xb
  have hq : oL (cell hb ((⟨g1, 0, none⟩ : Addr).add 5)) (fun b l c => SlR rEvent hb b l c s.Events) := Rb.oL fun b l c S => S
  obtain ⟨b, l, c, hc0, S⟩ := oL_out hq
  rw [cell_ext hc0 (x3.trans x4)]
  show LOOP _ _ _
  rw [← hes] at S MO k he hm
  rw [← hni] at k hi
  have hl := S.len
  have hm2 := S.2.2.1
  have hm3 := S.2.1
  have := maxLen_lt
  have X1 : Ext h0 hb := (X0.trans x1).trans xb
  refine loop (fun x hh => ∃ i : Nat, x = (⟨g1, 0, none⟩, (m : Int), .map (some go), .map (some gs), .func (.func f_impl_compareEvents_c1) #[] #[.pointer (some ⟨gc, 0, none⟩)], b, l, c, (l : Int), (i : Int)) ∧ i ≤ l ∧ Ext hb hh ∧ MapI hh gs (stopM (es.take i)) ∧ cell hh ⟨gc, 0, none⟩ = some (.map (some go)) ∧ ∀ j, j < i → StepI es ni j) (fun x => (l - x.2.2.2.2.2.2.2.2.2).toNat)
    ⟨0, rfl, by omega, x3.trans x4, by rw [List.take_zero]; exact MS.ext x4, hcell, fun j hj => by omega⟩ ?_
  rintro x hh ⟨i, rfl, hi, X, MS, hcell, hS⟩
  clear hc0 x3 x4
  refine brd (fun hc => ?_) fun hc => ?_
  · have hil : i < es.length := by omega
    have no : ∀ {h' : Heap}, Ext h0 h' → ¬ StepI es ni i → (Value.bool false = .bool s.ok ∧ Ext h0 h') := fun e hn => ⟨by rw [k, evOk_no fun G => hn (G.stepI hil)], e⟩
    have X2 : Ext h0 hh := X1.trans X
    refine (S.ext X).idn ev_sz (by omega) fun a Ra => Ra.lda1 rfl fun cs Rc => localR Rc rfl rfl fun g37 h5 x5 RE => RE.lda1 rfl fun ce Re => ?_
    refine (Rb.ext (X.trans x5)).oL fun b6 l6 c6 S6 => ?_
    have e6 : l6 = ni := by rw [← S6.len, hni]
    refine goE (Ext.refl h5) (length_Instrument_c _ _ _ _) fun h6 x6 => as_i (RE.pin0 (by decide) x6 (goE x6 (isEvent_c (rEvent.ext x6 Re) (by omega)) fun h7 x7 => as_b (brN (fun e => no (X2.trans (x5.trans x7)) fun t => ?_) fun e => ?_)))
    · rw [e6] at e
      rw [t.part] at e; cases e
    have hpart : evPart ni es[i]! = true := by rw [e6] at e; exact e
    refine (RE.ext x7).oI2 (goE x7 (within_c _ _ _ _) fun h8 x8 => as_b (brN (fun e => no (X2.trans (x5.trans x8)) fun t => ?_) fun e => ?_))
    · have := t.note
      rw [wrap64 (by omega) (by omega), inR] at e
      rw [← hmm] at this
      simp only [Bool.and_eq_false_iff, decide_eq_false_iff_not] at e
      omega
    have hn : 0 ≤ es[i]!.Note ∧ es[i]!.Note < (m : Int) := by
      rw [wrap64 (by omega) (by omega), inR] at e
      simp only [Bool.and_eq_true, decide_eq_true_eq] at e
      omega
    have fin : ∀ {h9 : Heap}, Ext h5 h9 → (0 < i → lt4 (keyM es es[i - 1]!) (keyM es es[i]!) = true) → impl_ValidScore.J11 (fun x' h' => (∃ i : Nat, x' = (⟨g1, 0, none⟩, (m : Int), .map (some go), .map (some gs), .func (.func f_impl_compareEvents_c1) #[] #[.pointer (some ⟨gc, 0, none⟩)], b, l, c, (l : Int), (i : Int)) ∧ i ≤ l ∧ Ext hb h' ∧ MapI h' gs (stopM (es.take i)) ∧ cell h' ⟨gc, 0, none⟩ = some (.map (some go)) ∧ ∀ j, j < i → StepI es ni j) ∧ ((l : Int) - x'.2.2.2.2.2.2.2.2.2).toNat < ((l : Int) - i).toNat) (fun u h' => u = .bool s.ok ∧ Ext h0 h') ⟨g1, 0, none⟩ (m : Int) (.map (some go)) (.map (some gs)) (.func (.func f_impl_compareEvents_c1) #[] #[.pointer (some ⟨gc, 0, none⟩)]) ⟨g37, 0, none⟩ b l c (l : Int) (i : Int) h9 := fun {h9} x9 ho => by
      have R9 := RE.ext x9
      have X9 := X2.trans (x5.trans x9)
      have MS9 := MS.ext (x5.trans x9)
      have MO9 := MO.ext (X.trans (x5.trans x9))
      have hc9 := cell_ext hcell (x5.trans x9)
      have hstop := stopM_succ hil
      have step : ∀ {h' : Heap}, Ext hb h' → MapI h' gs (stopM (es.take (i + 1))) → cell h' ⟨gc, 0, none⟩ = some (.map (some go)) → StepI es ni i → ((∃ i' : Nat, ((⟨g1, 0, none⟩ : Addr), (m : Int), Value.map (some go), Value.map (some gs), Value.func (.func f_impl_compareEvents_c1) #[] #[.pointer (some ⟨gc, 0, none⟩)], b, l, c, (l : Int), IntKind.i64.wrap ((i : Int) + 1)) = (⟨g1, 0, none⟩, (m : Int), .map (some go), .map (some gs), .func (.func f_impl_compareEvents_c1) #[] #[.pointer (some ⟨gc, 0, none⟩)], b, l, c, (l : Int), (i' : Int)) ∧ i' ≤ l ∧ Ext hb h' ∧ MapI h' gs (stopM (es.take i')) ∧ cell h' ⟨gc, 0, none⟩ = some (.map (some go)) ∧ ∀ j, j < i' → StepI es ni j) ∧ ((l : Int) - IntKind.i64.wrap ((i : Int) + 1)).toNat < ((l : Int) - i).toNat) := fun y my cy sy =>
        ⟨⟨i + 1, by rw [wrap64_succ (by omega)], by omega, y, my, cy, fun j hj => by
          by_cases e : j = i
          · subst e; exact sy
          · exact hS j (by omega)⟩, by rw [wrap64_succ (by omega)]; omega⟩
      unfold impl_ValidScore.J11
      refine R9.oI (br (fun kp => ?_) fun kp => ?_)
      · have hip : isSp es[i]! = true := kp
        rw [if_pos hip] at hstop
        have hf := ownM_find es es[i]!.Note
        refine R9.oI (look_map MO9 UM_ii U_int64 zero_int64 _ ?_)
        cases hoA : ownA es es[i]!.Note with
        | none =>
          rw [hoA] at hf
          rw [show mfind (ownM es) es[i]!.Note = none from hf]
          refine tup2 (as_i (as_b (br_t rfl (no X9 fun t => ?_))))
          obtain ⟨a, ha, _⟩ := t.sp hip
          rw [hoA] at ha; cases ha
        | some a =>
          rw [hoA] at hf
          rw [show mfind (ownM es) es[i]!.Note = some (.int .i64 a) from hf]
          refine tup2 (as_i (as_b (br_f rfl (R9.oI1 (brd (fun kl => no X9 fun t => ?_) fun kl => R9.oI (look_map1 MS9 UM_ib U_int64 zero_bool _ ?_))))))
          · obtain ⟨a', ha, hle, _⟩ := t.sp hip
            rw [hoA] at ha
            cases ha
            omega
          have hhas := stopM_has (es := es) (i := i) (n := es[i]!.Note) (by omega)
          have hval := stopM_val (es.take i) es[i]!.Note
          have hB : (mfind (stopM (es.take i)) es[i]!.Note).getD (.bool false) = .bool (mfind (stopM (es.take i)) es[i]!.Note).isSome := by
            rcases hval with e | e <;> rw [e] <;> rfl
          rw [hB]
          refine as_b (br (fun kh => no X9 fun t => ?_) fun kh => R9.oI (put_map MS9 (X.trans (x5.trans x9)) (by omega) UM_ib U_int64 _ _ fun q h10 x10 M10 hoth => step x10 (by rw [hstop]; exact M10) ?_ ⟨hpart, by rw [← hmm]; exact hn, ho, fun _ => ⟨a, hoA, by omega, fun j hj hsp hnn => ?_⟩⟩))
          · obtain ⟨j, hj, h1, h2⟩ := hhas.1 kh
            obtain ⟨_, _, _, hno⟩ := t.sp hip
            exact hno j hj h1 h2
          · rw [← hc9]
            unfold cell
            rw [hoth gc (fun e => hsc e.symm)]
          · have := hhas.2 ⟨j, hj, hsp, hnn⟩
            rw [kh] at this; cases this
      · have hip : isSp es[i]! = false := kp
        rw [if_neg (by rw [hip]; decide)] at hstop
        exact step (X.trans (x5.trans x9)) (by rw [hstop]; exact MS9) hc9 ⟨hpart, by rw [← hmm]; exact hn, ho, fun h => by rw [hip] at h; cases h⟩
    refine brd (fun h0i => ?_) fun h0i => fin x8 fun h => by omega
    rw [wrap_pred (by omega) (by omega)]
    refine (Rb.ext (X.trans (x5.trans x8))).oL fun b9 l9 c9 S9 => ?_
    have e9 := S9.len
    rw [← hes] at S9 e9
    refine S9.idn ev_sz (by omega) fun a9 Ra9 => Ra9.lda1 rfl fun c9 Rc9 => (RE.ext x8).lda1 rfl fun c10 Rc10 => ?_
    show CALL prg f_impl_compareEvents_c1 #[.agg c9, .agg c10, .pointer (some ⟨gc, 0, none⟩)] _ _
    refine goE x8 (compare_c1_c (es := es) (cell_ext hcell (x5.trans x8)) (MO.ext (X.trans (x5.trans x8))) Rc9 Rc10) fun h9 x9 => as_i ?_
    rw [cmpL_ge]
    exact brN (fun e => no (X2.trans (x5.trans x9)) fun t => by have := t.ord (by omega); rw [e] at this; cases this) fun e => fin x9 fun _ => e
  · rw [show es.take i = es from List.take_of_length_le (by omega)] at MS
    refine len_map (MO.ext X) UM_ii (as_i (br (fun k1 => len_map MS UM_ib (as_i ⟨?_, X1.trans X⟩)) fun k1 => ⟨?_, X1.trans X⟩))
    · rw [k]
      congr 1
      rw [Bool.eq_iff_iff, beq_iff_eq, evOk_iff]
      have k1 : ((ownM es).length : Int) = m := by simpa using k1
      constructor
      · intro k2
        exact good_of_I he hm (fun j hj => hS j (by omega)) (by omega) (by omega)
      · intro G
        have := G.lens.2
        omega
    · rw [k, evOk_no fun G => ?_]
      have := G.lens.1
      have k1 : ¬ ((ownM es).length : Int) = m := by simpa using k1
      omega
theorem ValidScore_c {cs : Array Value} {s : GScore} (R0 : rScore.rd h cs.toList s) : CALL prg f_impl_ValidScore #[.agg cs] (fun u h' => u = .bool s.ok ∧ Ext h h') h := by
  refine impl_ValidScore.call (alcR R0 fun g h0 x0 R => R.oF2 fun y hy => goE (Ext.refl h0) (isRate_c hy _) fun h1 x1 => as_b (brN (fun e => ⟨by rw [GScore.ok, e]; rfl, x0.trans x1⟩) fun ea => ?_))
  refine (R.ext x1).lda2 foc_Score_Tuning rfl fun ct Rt => goE x1 (ValidTuning_c Rt) fun h2 x2 => as_b (brN (fun e => ⟨by rw [GScore.ok, e]; simp, x0.trans x2⟩) fun eb => ?_)
  refine (R.ext x2).oL2 fun b l c S => goE x2 (areInstruments_c S) fun h3 x3 => as_b (brN (fun e => ⟨by rw [GScore.ok, e]; simp, x0.trans x3⟩) fun ec => ?_)
  have k : s.ok = evOk s.Events s.Instruments.length := by rw [GScore.ok, ea, eb, ec]; rfl
  have hi : s.Instruments.length ≤ 6 := by
    rw [Bool.and_eq_true, decide_eq_true_eq] at ec
    exact ec.1
  refine (R.ext x3).oL2 fun b1 l1 c1 S1 => nz (by decide) ?_
  have e1 := S1.len
  have ht : Int.tmod (l1 : Int) 2 = ((l1 % 2 : Nat) : Int) := by rw [Int.ofNat_tmod]; rfl
  rw [ht]
  refine br (fun e => ⟨?_, x0.trans x3⟩) fun e => (R.ext x3).oL2 fun b2 l2 c2 S2 => ?_
  · rw [k, evOk_no fun G => ?_]
    have := G.even
    rw [bne_iff_ne] at e
    omega
  have e2 := S2.len
  have e : l1 % 2 = 0 := by rw [bne_eq_false_iff_eq] at e; omega
  refine brd (fun e3 => ⟨?_, x0.trans x3⟩) fun e3 => ValidScore_J3 (R.ext x3) (x0.trans x3) k hi (by omega) (by omega)
  rw [k, evOk_no fun G => ?_]
  have := G.most
  omega
theorem l08Ok_c {q : Addr} {s : GScore} (R : RdP rScore h q s) : CALL prg f_spec_l08Ok #[.pointer (some q)] (fun u h' => u = .bool s.ok ∧ Ext h h') h := by
  have hm := maxLen_lt
  refine spec_l08Ok.call (R.oF1 fun y hy => ?_)
  rw [ord_eq hy c1]
  refine br (fun k1 => R.oF1 fun z hz => ?_) fun k1 => ⟨by rw [GScore.ok, inside, fge, k1]; rfl, Ext.refl _⟩
  rw [ord_eq hz cR]
  refine brN (fun k2 => ⟨by rw [GScore.ok, inside, fle, k2]; simp, Ext.refl _⟩) fun k2 => R.lda foc_Score_Tuning rfl fun ct Rt => goX (spec_ValidTuning_c Rt) fun h1 x1 => as_b (brN (fun e => ⟨by rw [GScore.ok, e]; simp, x1⟩) fun eb => ?_)
  have ea : inside s.Rate 1065353216 1232348160 = true := by rw [inside, fge, fle, k1, k2]; rfl
  refine (R.ext x1).oL fun b l c S => ?_
  have hl := S.len
  have s1 := S.2.1
  have s2 := S.2.2.1
  refine brd (fun e => ⟨by rw [GScore.ok, decide_eq_false (p := s.Instruments.length ≤ 6) (by omega)]; simp, x1⟩) fun e6 => ?_
  obtain ⟨xs, hxs⟩ : ∃ xs, xs = s.Instruments := ⟨_, rfl⟩
  have k : s.ok = (instOk xs && evOk s.Events xs.length) := by rw [GScore.ok, ea, eb, decide_eq_true (p := s.Instruments.length ≤ 6) (by omega), hxs]; rfl
  unfold spec_l08Ok.J3
  refine loop (fun x hh => ∃ i : Nat, x = (q, (i : Int)) ∧ i ≤ l ∧ Ext h hh ∧ ∀ j, j < i → instAt xs j = true) (fun x => ((l : Int) - x.2).toNat) ⟨0, rfl, by omega, x1, fun j hj => by omega⟩ ?_
  rintro x hh ⟨i, rfl, hi, X, hd⟩
  refine (R.ext X).oL fun b2 l2 c2 S2 => ?_
  have e2 := S2.len
  rw [← hxs] at S2 e2 hl
  have no : ∀ {h' : Heap}, i < l → instAt xs i = false → Ext h h' → (Value.bool false = .bool s.ok ∧ Ext h h') := fun e hf x => ⟨by rw [k, instOk, all_false (f := instAt xs) (by omega) hf, Bool.false_and], x⟩
  refine brd (fun hc => ?_) fun hc => ?_
  · refine (R.ext X).oL fun b3 l3 c3 S3 => ?_
    have e3 := S3.len
    rw [← hxs] at S3 e3
    refine S3.idn (by decide) (by omega) fun a Ra => goE X (l08Instrument_c Ra) fun h4 x4 => as_b (brN (fun e => no (by omega) (by rw [instAt, e, Bool.false_and]) x4) fun ei => ?_)
    refine loop (fun x hh => ∃ n : Nat, x = (q, (i : Int), (n : Int)) ∧ n ≤ i ∧ Ext h hh ∧ ∀ j, j < n → ¬ xs[j]!.Name = xs[i]!.Name) (fun x => ((i : Int) - x.2.2).toNat) ⟨0, rfl, by omega, x4, fun j hj => by omega⟩ ?_
    rintro x h5 ⟨n, rfl, hn, Y, hne⟩
    refine brd (fun hc2 => ?_) fun hc2 => ?_
    · refine (R.ext Y).oL fun b4 l4 c4 S4 => ?_
      have e4 := S4.len
      rw [← hxs] at S4 e4
      refine S4.idn (by decide) (by omega) fun a4 Ra4 => Ra4.oS1 fun _ => (R.ext Y).oL fun b5 l5 c5 S5 => ?_
      have e5 := S5.len
      rw [← hxs] at S5 e5
      refine S5.idn (by decide) (by omega) fun a5 Ra5 => Ra5.oS1 fun _ => ?_
      rw [str_eq]
      refine brd (fun e => no (by omega) ?_ Y) fun e => ⟨⟨n + 1, by rw [wrap64_succ (by omega)], by omega, Y, fun j hj => ?_⟩, by rw [wrap64_succ (by omega)]; show _ < _; simp; omega⟩
      · rw [instAt, all_false (f := fun k => !decide (xs[k]!.Name = xs[i]!.Name)) (i := n) (by omega) (by rw [decide_eq_true e]; rfl), Bool.and_false]
      · by_cases ej : j = n
        · subst ej; exact e
        · exact hne j (by omega)
    · refine ⟨⟨i + 1, by rw [wrap64_succ (by omega)], by omega, Y, fun j hj => ?_⟩, by rw [wrap64_succ (by omega)]; show _ < _; simp; omega⟩
      by_cases ej : j = i
      · subst ej
        rw [instAt, ei, all_true fun k hk => by rw [decide_eq_false (hne k (by omega))]; rfl]; rfl
      · exact hd j (by omega)
  · refine (R.ext X).oL fun b3 l3 c3 S3 => (R.ext X).oL fun b4 l4 c4 S4 => ?_
    have e4 := S4.len
    rw [← hxs] at S4 e4
    refine goE X (l08Events_c S3 (by omega)) fun h4 x4 => as_b ⟨?_, x4⟩
    rw [k, instOk, all_true fun j hj => hd j (by omega), e4]; rfl
end
end Go.Sx
