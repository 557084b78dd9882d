/- Voices, the program's; how many events have happened. -/
import Derived.Test.YtnjbecdfoiiaoaaGreatDoorLk34
set_option linter.unusedVariables false
set_option linter.unusedSimpArgs false
namespace Go.Sx
open Go.Proofs
set_option maxRecDepth 100000
set_option maxHeartbeats 2000000

/-- How many events lie before a time. -/
def hap (es : List GEvent) (now : Int) : Nat := es.countP fun e => decide (e.At < now)
theorem EvGood.sorted {es : List GEvent} {ni : Int} (G : EvGood es ni) {i j : Nat} (h1 : i ≤ j) (h2 : j < es.length) : es[i]!.At ≤ es[j]!.At := by
  rcases Nat.lt_or_ge i j with h | h
  · have := chain (fun k => keyOf es es[k]!) G.ord h h2
    unfold keyOf keyL at this
    rw [lt4_cons] at this
    omega
  · rw [show i = j by omega]; exact Int.le_refl _
theorem hap_first {es : List GEvent} {ni now : Int} (G : EvGood es ni) : ((firstAt (fun e : GEvent => decide (now ≤ e.At)) es = -1 → (hap es now : Int) = es.length) ∧ ∀ m : Nat, m < es.length → firstAt (fun e : GEvent => decide (now ≤ e.At)) es = m → (hap es now : Int) = m) := by
  rcases first_cases (fun e : GEvent => decide (now ≤ e.At)) es with ⟨e, hall⟩ | ⟨m, hm, e, h0, hp⟩
  · refine ⟨fun _ => ?_, fun m _ h => by rw [e] at h; omega⟩
    unfold hap
    rw [List.countP_eq_length.2]
    intro x hx
    obtain ⟨i, hi, rfl⟩ := List.mem_iff_getElem.1 hx
    have := hall i hi
    rw [getElem!_pos es i hi, decide_eq_false_iff_not] at this
    exact decide_eq_true (by omega)
  · refine ⟨fun h => by rw [e] at h; omega, fun k _ h => ?_⟩
    rw [e] at h
    obtain rfl : m = k := by omega
    unfold hap
    rw [← List.take_append_drop m es, List.countP_append]
    have e1 : (es.take m).countP (fun e => decide (e.At < now)) = m := by
      have hl : (es.take m).length = m := by rw [List.length_take]; omega
      conv => rhs; rw [← hl]
      rw [List.countP_eq_length]
      intro x hx
      obtain ⟨i, hi, rfl⟩ := List.mem_iff_getElem.1 hx
      have := h0 i (by omega)
      rw [getElem!_pos es i (by omega), decide_eq_false_iff_not] at this
      rw [List.getElem_take]
      exact decide_eq_true (by omega)
    have e2 : (es.drop m).countP (fun e => decide (e.At < now)) = 0 := by
      rw [List.countP_eq_zero]
      intro x hx
      obtain ⟨i, hi, rfl⟩ := List.mem_iff_getElem.1 hx
      rw [List.length_drop] at hi
      rw [List.getElem_drop]
      have := G.sorted (i := m) (j := m + i) (by omega) (by omega)
      rw [getElem!_pos es (m + i) (by omega)] at this
      rw [decide_eq_true_iff] at hp
      rw [decide_eq_true_iff]
      omega
    rw [e1, e2]; rfl
section
variable {h : Heap}
theorem happened_c {cs : Array Value} {s : GScore} (R0 : rScore.rd h cs.toList s) (hs : s.ok = true) (now : Int) : CALL prg f_impl_Score_happened #[.agg cs, .int .i64 now] (fun u h' => u = .int .i64 (hap s.Events now : Int) ∧ Ext h h') h := by
  have hf := hap_first (now := now) (score_ev hs)
  refine impl_Score_happened.call (alcR R0 fun g1 h1 x1 R => alcR (r := rI .i64) rI_rd fun g3 h3 x3 RN => (R.ext x3).oL2 fun b l c S => ?_)
  have T : TellsR prg rEvent h3 (.func (.func f_impl_Score_happened_c1) #[] #[.pointer (some ⟨g3, 0, none⟩)]) (fun e => decide (now ≤ e.At)) := fun ce e hx xx Re => by
    show CALL prg f_impl_Score_happened_c1 #[.agg ce, .pointer (some ⟨g3, 0, none⟩)] _ hx
    exact impl_Score_happened_c1.call (alcR Re fun g h' x' R' => R'.oI2 ((RN.ext (xx.trans x')).oI1 ⟨rfl, x'⟩))
  refine goX (IndexFunc_Event_c S T) fun h4 x4 => as_i ?_
  have X := x1.trans (x3.trans x4)
  rcases first_cases (fun e : GEvent => decide (now ≤ e.At)) s.Events with ⟨e, hall⟩ | ⟨m, hm, e, h0, hp⟩
  · have := hf.1 e
    rw [e]
    refine brd (fun _ => (R.ext (x3.trans x4)).oL2 fun b1 l1 c1 S1 => goE X (length_Event_c _ _ _ _) fun h5 x5 => as_i ⟨?_, x5⟩) fun k => by omega
    rw [this, S1.len]
  · have := hf.2 m hm e
    rw [e]
    exact brd (fun k => by omega) fun _ => ⟨by rw [this], X⟩
theorem l09Happened_c {q : Addr} {s : GScore} (R : RdP rScore h q s) (now : Int) : CALL prg f_spec_l09Happened #[.pointer (some q), .int .i64 now] (fun u h' => u = .int .i64 (hap s.Events now : Int) ∧ Ext h h') h := by
  have hm := maxLen_lt
  refine spec_l09Happened.call ?_
  refine loop (fun x hh => ∃ i : Nat, x = (q, now, (hap (s.Events.take i) now : Int), (i : Int)) ∧ i ≤ s.Events.length ∧ hh = h) (fun x => ((s.Events.length : Int) - x.2.2.2).toNat) ⟨0, rfl, by omega, rfl⟩ ?_
  rintro x hh ⟨i, rfl, hi, rfl⟩
  refine R.oL fun b l c S => ?_
  have hl := S.len
  have s1 := S.2.1
  have s2 := S.2.2.1
  refine brd (fun hc => R.oL fun b1 l1 c1 S1 => ?_) fun hc => ⟨by rw [List.take_of_length_le (by omega)], Ext.refl _⟩
  have e1 := S1.len
  have hle : hap (s.Events.take i) now ≤ i := by
    unfold hap
    have := List.countP_le_length (p := fun e : GEvent => decide (e.At < now)) (l := s.Events.take i)
    rw [List.length_take] at this
    omega
  have hstep : hap (s.Events.take (i + 1)) now = hap (s.Events.take i) now + if s.Events[i]!.At < now then 1 else 0 := by
    unfold hap
    rw [List.take_succ_eq_append_getElem (by omega), List.countP_append, List.countP_singleton, getElem!_pos _ i (by omega)]
    simp
  refine S1.idn ev_sz (by omega) fun a Ra => Ra.oI1 (brd (fun k => ?_) fun k => ?_)
  · rw [if_pos k] at hstep
    exact ⟨⟨i + 1, by rw [wrap64_succ (by omega), wrap64_succ (by omega), hstep], by omega, rfl⟩, by show ((s.Events.length : Int) - IntKind.i64.wrap ((i : Int) + 1)).toNat < ((s.Events.length : Int) - i).toNat; rw [wrap64_succ (by omega)]; omega⟩
  · rw [if_neg k] at hstep
    exact ⟨⟨i + 1, by rw [wrap64_succ (by omega), hstep]; rfl, by omega, rfl⟩, by rw [wrap64_succ (by omega)]; show _ < _; simp; omega⟩
theorem hasNone_c {cs : Array Value} {v : GVoice} (R0 : rVoice.rd h cs.toList v) : CALL prg f_impl_Voice_hasNone #[.agg cs] (fun u h' => u = .tuple ⟨[.bool (same v.String z_String), .bool (same v.Pipe z_Pipe), .bool (same v.Bow z_Bow)]⟩ ∧ Ext h h') h := by
  refine impl_Voice_hasNone.call (alcR R0 fun g h1 x1 R => R.lda2 foc_Voice_String rfl fun c1 R1 => R.lda2 foc_Voice_Pipe rfl fun c2 R2 => R.lda2 foc_Voice_Bow rfl fun c3 R3 => ?_)
  refine goX (SameString_c R1 (rString.look zow_String (Mem.start h1) (List.nil_sublist _))) fun h2 x2 => as_b (R.pin2 (by decide) x2 (R.pin2 (by decide) x2 ?_))
  refine goE x2 (SamePipe_c (rPipe.ext x2 R2) (rPipe.look zow_Pipe (Mem.start h2) (List.nil_sublist _))) fun h3 x3 => as_b (R.pin2 (by decide) x3 ?_)
  exact goE x3 (SameBow_c (rBow.ext x3 R3) (rBow.look zow_Bow (Mem.start h3) (List.nil_sublist _))) fun h4 x4 => as_b ⟨rfl, x1.trans x4⟩
theorem isFree_c {cs : Array Value} {v : GVoice} (R0 : rVoice.rd h cs.toList v) : CALL prg f_impl_Voice_isFree #[.agg cs] (fun u h' => u = .bool (v.Note == -1) ∧ Ext h h') h :=
  impl_Voice_isFree.call (alcR R0 fun g h1 x1 R => R.oI2 ⟨rfl, x1⟩)
theorem isVoice_J7 {h0 : Heap} {p q : Addr} {s : GScore} {v : GVoice} (R : RdP rScore h p s) (V : RdP rVoice h q v) (X : Ext h0 h) (hi : 0 ≤ v.Instrument ∧ v.Instrument < s.Instruments.length) {r : Bool} (k : bodyOk s v = r) :
    impl_isVoice.J7 (fun u h' => u = .bool r ∧ Ext h0 h') p q (same v.String z_String) (same v.Pipe z_Pipe) (same v.Bow z_Bow) h := by
  unfold impl_isVoice.J7
  refine R.oL fun b l c S => V.oI (S.idx (by decide) hi.1 (by rw [← S.len]; exact hi.2) fun a Ra => Ra.oI (br (fun k1 => ?_) fun k1 => br (fun k2 => ?_) fun k2 => ?_))
  · have k : (v.String.ok && same v.Pipe z_Pipe && same v.Bow z_Bow) = r := by rw [← k, bodyOk, if_pos (by simpa using k1)]
    refine V.lda foc_Voice_String rfl fun cv Rv => goE X (ValidString_c Rv) fun h1 x1 => as_b (br (fun e => br (fun e2 => ⟨?_, x1⟩) fun e2 => ⟨?_, x1⟩) fun e => ⟨?_, x1⟩)
    all_goals (rw [← k]; simp [*])
  · have k : (same v.String z_String && v.Pipe.ok && same v.Bow z_Bow) = r := by rw [← k, bodyOk, if_neg (by simpa using k1), if_pos (by simpa using k2)]
    refine br (fun e => V.lda foc_Voice_Pipe rfl fun cv Rv => goE X (ValidPipe_c Rv) fun h1 x1 => as_b (br (fun e2 => ⟨?_, x1⟩) fun e2 => ⟨?_, x1⟩)) fun e => ⟨?_, X⟩
    all_goals (rw [← k]; simp [*])
  · have k : (same v.String z_String && same v.Pipe z_Pipe && v.Bow.ok) = r := by rw [← k, bodyOk, if_neg (by simpa using k1), if_neg (by simpa using k2)]
    refine br (fun e => br (fun e2 => V.lda foc_Voice_Bow rfl fun cv Rv => goE X (ValidBow_c Rv) fun h1 x1 => as_b ⟨?_, x1⟩) fun e2 => ⟨?_, X⟩) fun e => ⟨?_, X⟩
    all_goals (rw [← k]; simp [*])
theorem isVoice_c {cs cv : Array Value} {s : GScore} {v : GVoice} (R0 : rScore.rd h cs.toList s) (V0 : rVoice.rd h cv.toList v) (hs : s.ok = true) : CALL prg f_impl_isVoice #[.agg cs, .agg cv] (fun u h' => u = .bool (voiceOk s v) ∧ Ext h h') h := by
  refine impl_isVoice.call (alcR R0 fun g1 h1 x1 R => alcR (rVoice.ext x1 V0) fun g3 h4 x4 V => ?_)
  have X0 := x1.trans x4
  have A : ∀ {hh : Heap}, Ext h4 hh → RdP rScore hh ⟨g1, 0, none⟩ s := fun e => R.ext (x4.trans e)
  have B : ∀ {hh : Heap}, Ext h4 hh → RdP rVoice hh ⟨g3, 0, none⟩ v := fun e => V.ext e
  refine V.lda1 rfl fun c1 V1 => goX (hasNone_c V1) fun h5 x5 => ?_
  refine tup3 (as_b (as_b (as_b ?_)))
  refine (B x5).lda1 rfl fun c2 V2 => goE x5 (isFree_c V2) fun h6 x6 => as_b (br (fun kn => ?_) fun kn => ?_)
  · have k : voiceOk s v = freeOk v := by rw [voiceOk, if_pos (by simpa using kn)]
    rw [k]
    refine br (fun e1 => br (fun e2 => br (fun e3 => (B x6).oI2 (br (fun e4 => (B x6).oI2 (br (fun e5 => (B x6).oB2 (brN (fun e6 => (B x6).oF2 fun y hy => goE x6 (bitsOf_c hy _) fun h7 x7 => as_i ⟨?_, X0.trans x7⟩) fun e6 => ⟨?_, X0.trans x6⟩)) fun e5 => ⟨?_, X0.trans x6⟩)) fun e4 => ⟨?_, X0.trans x6⟩)) fun e3 => ⟨?_, X0.trans x6⟩) fun e2 => ⟨?_, X0.trans x6⟩) fun e1 => ⟨?_, X0.trans x6⟩
    · rw [freeOk, e1, e2, e3, e4, e5, e6]
      congr 1
      simp only [Bool.not_false, Bool.and_true, Bool.true_and]
      rw [Bool.eq_iff_iff, beq_iff_eq, beq_iff_eq]
      omega
    all_goals (rw [freeOk]; simp [*])
  · refine (A x6).lda1 rfl fun c3 R3 => (B x6).oI2 ?_
    refine (startOf_c R3 v.Note).mono ?_
    rintro _ h7 ⟨⟨ce, rfl, Re⟩, y7⟩
    have x7 := x6.trans y7
    refine tup2 (as_a (as_b (localR Re rfl rfl fun g h8 y8 E => ?_)))
    have x8 := x7.trans y8
    cases he : startEv s.Events v.Note with
    | none =>
      exact br_t rfl ⟨by rw [voiceOk, if_neg (by simpa using kn), he], X0.trans x8⟩
    | some e =>
      rw [he] at E
      have E : RdP rEvent h8 ⟨g, 0, none⟩ e := E
      have k0 : voiceOk s v = ((e.Instrument == v.Instrument) && (e.At == v.Born) && fin v.Drive && bodyOk s v) := by rw [voiceOk, if_neg (by simpa using kn), he]
      refine br_f rfl ((B x8).oI2 (E.oI2 (br (fun e1 => ⟨?_, X0.trans x8⟩) fun e1 => (B x8).oI2 (E.oI2 (br (fun e2 => ⟨?_, X0.trans x8⟩) fun e2 => (B x8).oF2 fun y hy => goE x8 (isFinite_c hy _) fun h9 x9 => as_b (brN (fun e3 => ⟨?_, X0.trans x9⟩) fun e3 => ?_))))))
      · rw [k0, show (e.Instrument == v.Instrument) = false from by rw [bne_iff_ne] at e1; rw [beq_eq_false_iff_ne]; exact fun h => e1 h.symm]; rfl
      · rw [k0, show (e.At == v.Born) = false from by rw [bne_iff_ne] at e2; rw [beq_eq_false_iff_ne]; exact fun h => e2 h.symm]; simp
      · rw [k0, e3]; simp
      · have hi := start_ins hs he
        have ei : e.Instrument = v.Instrument := by rw [bne_eq_false_iff_eq] at e1; exact e1.symm
        have ea : e.At = v.Born := by rw [bne_eq_false_iff_eq] at e2; exact e2.symm
        rw [ei] at hi
        refine isVoice_J7 (A x9) (B x9) (X0.trans x9) hi ?_
        rw [k0, e3, ei, ea]; simp
end
end Go.Sx
