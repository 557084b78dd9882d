/- Strings plucked. -/
import Derived.Test.YtnhcoeogejgidadGreatDoorLk29
import Derived.Test.YtnhcoeogejgidadGreatDoorLk33
import Derived.Test.YtnhcoeogejgidadGreatDoorLp5
set_option linter.unusedVariables false
set_option linter.unusedSimpArgs false
namespace Go.Sx
open Go.Proofs Ieee
set_option maxRecDepth 100000
set_option maxHeartbeats 1000000

/-- Where the sample lies that is the i-th, the oldest being the first. -/
def turnAt (r : GRing) (i : Nat) : Nat := ((r.At + (i : Int)) % r.len).toNat
/-- A ring whose first i samples are changed. -/
def chg (f : Nat → Nat → Nat) (r : GRing) : Nat → GRing
  | 0 => r
  | i + 1 => ⟨(chg f r i).Samples.set (turnAt r i) (f i (chg f r i).Samples[turnAt r i]!), r.At⟩
theorem chg_at (f : Nat → Nat → Nat) (r : GRing) (i : Nat) : (chg f r i).At = r.At := by cases i <;> rfl
theorem chg_len (f : Nat → Nat → Nat) (r : GRing) : ∀ i, (chg f r i).Samples.length = r.Samples.length
  | 0 => rfl
  | i + 1 => by rw [chg, List.length_set]; exact chg_len f r i
def pluckD (n p f i : Nat) : Nat := fmul .f32 f (if flt .f32 (FloatKind.f32.nearest ((i : Nat) : Int)) p then fdiv .f32 (FloatKind.f32.nearest ((i : Nat) : Int)) p else fdiv .f32 (fsub .f32 n (FloatKind.f32.nearest ((i : Nat) : Int))) (fsub .f32 n p))
def pluckF (n p f i a : Nat) : Nat := fadd .f32 a (pluckD n p f i)
def GString.plucked (x : GString) (pl f : Nat) : GString := { x with Loop := chg (pluckF (FloatKind.f32.nearest ((x.Loop.Samples.length : Nat) : Int)) (fmul .f32 pl (FloatKind.f32.nearest ((x.Loop.Samples.length : Nat) : Int))) f) x.Loop x.Loop.Samples.length }
def GString.pluck (x : GString) (pl f : Nat) : GString × Int := if x.ok then if place pl then if fin f then (x.plucked pl f, 0) else (z_String, 2) else (z_String, 2) else (z_String, 1)
/-- A filter's cells by its parts. -/
def flT (v : Int × Nat × Nat × Nat × Nat × Nat) : List Value := flC v.1 v.2.1 v.2.2.1 v.2.2.2.1 v.2.2.2.2.1 v.2.2.2.2.2
section
variable {h : Heap} {x a : Nat}
theorem gstr_ring {x : GString} (h : x.ok = true) : x.Loop.ok = true := by
  unfold GString.ok at h
  simp only [Bool.and_eq_true] at h
  exact h.1.1.1
end
end Go.Sx
/- Whole parts of periods; new bows. -/
set_option linter.unusedVariables false
set_option linter.unusedSimpArgs false
namespace Go.Sx
open Go.Proofs Ieee
set_option maxRecDepth 100000
set_option maxHeartbeats 1000000

def floorZ (a : Nat) : Int := if flt .f32 a 1232348160 then ((floorN a : Nat) : Int) else 0
def bowN (p : Int) : Int := if p / 8 < 1 then 1 else p / 8
def bowOf (p : Int) (k l s : Nat) : GBow := { Neck := ⟨List.replicate (p - bowN p).toNat 0, 0⟩, Bridge := ⟨List.replicate (bowN p).toNat 0, 0⟩, Damp := onePole k, Slope := s, Loss := l }
def newBow (p : Int) (k l s : Nat) : GBow × Int := if inR p 2 1024 then if place k then if inside l 0 1065353216 then if fin s then (bowOf p k l s, 0) else (z_Bow, 2) else (z_Bow, 2) else (z_Bow, 2) else (z_Bow, 2)
theorem c8 : FW .f32 1040187392 1040187392 := fw_c32 (by decide) (by decide)
end Go.Sx
/- Cells that stay; blocks changed behind others. -/
set_option linter.unusedVariables false
set_option linter.unusedSimpArgs false
namespace Go.Sx
section
variable {h : Heap}
theorem Upd.skip {B L L' : List Blk} {g : Nat} {cs : Array Value} (k : Upd L g cs L') : Upd (B ++ L) g cs (B ++ L') := by
  induction B with
  | nil => exact k
  | cons p B ih => exact .there ih
end
end Go.Sx
/- New pipes of one section: the rule's. -/
set_option linter.unusedVariables false
set_option linter.unusedSimpArgs false
namespace Go.Sx
open Go.Proofs Ieee
set_option maxRecDepth 100000
set_option maxHeartbeats 2000000

def quietR (n : Int) : GRing := ⟨List.replicate n.toNat 0, 0⟩
def pipeOf (n : Int) (op : Bool) (k l : Nat) : GPipe := { Right := [quietR n], Left := [quietR n], Scatter := [], End := onePole k, Open := op, Loss := l, Rest := 1061158912, Slope := 3200253952 }
def pipeIf (ok : Bool) (n : Int) (op : Bool) (k l : Nat) : GPipe × Int := if ok && inR n 1 1024 then (pipeOf n op k l, 0) else (z_Pipe, 2)
def newPipe (n : Int) (op : Bool) (k l : Nat) : GPipe × Int := pipeIf (place k && inside l 0 1065353216) n op k l
end Go.Sx
/- New pipes of one section: the program's. -/
set_option linter.unusedVariables false
set_option linter.unusedSimpArgs false
namespace Go.Sx
open Go.Proofs Ieee
set_option maxRecDepth 100000
set_option maxHeartbeats 4000000

theorem pinM {h0 h h1 h' : Heap} {L L' : List Blk} {g j n : Nat} {cs : Array Value} {p : Prop} (M : Mem h0 h L) (l : Look L g cs) (M' : Mem h1 h' L') (l' : Look L' g cs) (H : p) : PIN h ⟨g, j, none⟩ n h' p :=
  ⟨fun i _ => by rw [add_none, M.cell l, M'.cell l'], H⟩
end Go.Sx
/- Voices, the program's; how many events have happened. -/
set_option linter.unusedVariables false
set_option linter.unusedSimpArgs false
namespace Go.Sx
open Go.Proofs
set_option maxRecDepth 100000
set_option maxHeartbeats 2000000

/-- How many events lie before a time. -/
def hap (es : List GEvent) (now : Int) : Nat := es.countP fun e => decide (e.At < now)
theorem EvGood.sorted {es : List GEvent} {ni : Int} (G : EvGood es ni) {i j : Nat} (h1 : i ≤ j) (h2 : j < es.length) : es[i]!.At ≤ es[j]!.At := by
  rcases Nat.lt_or_ge i j with h | h
  · have := chain (fun k => keyOf es es[k]!) G.ord h h2
    unfold keyOf keyL at this
    rw [lt4_cons] at this
    omega
  · rw [show i = j by omega]; exact Int.le_refl _
theorem hap_first {es : List GEvent} {ni now : Int} (G : EvGood es ni) : ((firstAt (fun e : GEvent => decide (now ≤ e.At)) es = -1 → (hap es now : Int) = es.length) ∧ ∀ m : Nat, m < es.length → firstAt (fun e : GEvent => decide (now ≤ e.At)) es = m → (hap es now : Int) = m) := by
  rcases first_cases (fun e : GEvent => decide (now ≤ e.At)) es with ⟨e, hall⟩ | ⟨m, hm, e, h0, hp⟩
  · refine ⟨fun _ => ?_, fun m _ h => by rw [e] at h; omega⟩
    unfold hap
    rw [List.countP_eq_length.2]
    intro x hx
    obtain ⟨i, hi, rfl⟩ := List.mem_iff_getElem.1 hx
    have := hall i hi
    rw [getElem!_pos es i hi, decide_eq_false_iff_not] at this
    exact decide_eq_true (by omega)
  · refine ⟨fun h => by rw [e] at h; omega, fun k _ h => ?_⟩
    rw [e] at h
    obtain rfl : m = k := by omega
    unfold hap
    rw [← List.take_append_drop m es, List.countP_append]
    have e1 : (es.take m).countP (fun e => decide (e.At < now)) = m := by
      have hl : (es.take m).length = m := by rw [List.length_take]; omega
      conv => rhs; rw [← hl]
      rw [List.countP_eq_length]
      intro x hx
      obtain ⟨i, hi, rfl⟩ := List.mem_iff_getElem.1 hx
      have := h0 i (by omega)
      rw [getElem!_pos es i (by omega), decide_eq_false_iff_not] at this
      rw [List.getElem_take]
      exact decide_eq_true (by omega)
    have e2 : (es.drop m).countP (fun e => decide (e.At < now)) = 0 := by
      rw [List.countP_eq_zero]
      intro x hx
      obtain ⟨i, hi, rfl⟩ := List.mem_iff_getElem.1 hx
      rw [List.length_drop] at hi
      rw [List.getElem_drop]
      have := G.sorted (i := m) (j := m + i) (by omega) (by omega)
      rw [getElem!_pos es (m + i) (by omega)] at this
      rw [decide_eq_true_iff] at hp
      rw [decide_eq_true_iff]
      omega
    rw [e1, e2]; rfl
section
variable {h : Heap}
theorem happened_c {cs : Array Value} {s : GScore} (R0 : rScore.rd h cs.toList s) (hs : s.ok = true) (now : Int) : CALL prg f_impl_Score_happened #[.agg cs, .int .i64 now] (fun u h' => u = .int .i64 (hap s.Events now : Int) ∧ Ext h h') h := by
  have hf := hap_first (now := now) (score_ev hs)
  refine impl_Score_happened.call (alcR R0 fun g1 h1 x1 R => alcR (r := rI .i64) rI_rd fun g3 h3 x3 RN => (R.ext x3).oL2 fun b l c S => ?_)
  have T : TellsR prg rEvent h3 (.func (.func f_impl_Score_happened_c1) #[] #[.pointer (some ⟨g3, 0, none⟩)]) (fun e => decide (now ≤ e.At)) := fun ce e hx xx Re => by
    show CALL prg f_impl_Score_happened_c1 #[.agg ce, .pointer (some ⟨g3, 0, none⟩)] _ hx
    exact impl_Score_happened_c1.call (alcR Re fun g h' x' R' => R'.oI2 ((RN.ext (xx.trans x')).oI1 ⟨rfl, x'⟩))
  refine goX (IndexFunc_Event_c S T) fun h4 x4 => as_i ?_
  have X := x1.trans (x3.trans x4)
  rcases first_cases (fun e : GEvent => decide (now ≤ e.At)) s.Events with ⟨e, hall⟩ | ⟨m, hm, e, h0, hp⟩
  · have := hf.1 e
    rw [e]
    refine brd (fun _ => (R.ext (x3.trans x4)).oL2 fun b1 l1 c1 S1 => goE X (length_Event_c _ _ _ _) fun h5 x5 => as_i ⟨?_, x5⟩) fun k => by omega
    rw [this, S1.len]
  · have := hf.2 m hm e
    rw [e]
    exact brd (fun k => by omega) fun _ => ⟨by rw [this], X⟩
theorem l09Happened_c {q : Addr} {s : GScore} (R : RdP rScore h q s) (now : Int) : CALL prg f_spec_l09Happened #[.pointer (some q), .int .i64 now] (fun u h' => u = .int .i64 (hap s.Events now : Int) ∧ Ext h h') h := by
  have hm := maxLen_lt
  refine spec_l09Happened.call ?_
  refine loop (fun x hh => ∃ i : Nat, x = (q, now, (hap (s.Events.take i) now : Int), (i : Int)) ∧ i ≤ s.Events.length ∧ hh = h) (fun x => ((s.Events.length : Int) - x.2.2.2).toNat) ⟨0, rfl, by omega, rfl⟩ ?_
  rintro x hh ⟨i, rfl, hi, rfl⟩
  refine R.oL fun b l c S => ?_
  have hl := S.len
  have s1 := S.2.1
  have s2 := S.2.2.1
  refine brd (fun hc => R.oL fun b1 l1 c1 S1 => ?_) fun hc => ⟨by rw [List.take_of_length_le (by omega)], Ext.refl _⟩
  have e1 := S1.len
  have hle : hap (s.Events.take i) now ≤ i := by
    unfold hap
    have := List.countP_le_length (p := fun e : GEvent => decide (e.At < now)) (l := s.Events.take i)
    rw [List.length_take] at this
    omega
  have hstep : hap (s.Events.take (i + 1)) now = hap (s.Events.take i) now + if s.Events[i]!.At < now then 1 else 0 := by
    unfold hap
    rw [List.take_succ_eq_append_getElem (by omega), List.countP_append, List.countP_singleton, getElem!_pos _ i (by omega)]
    simp
  refine S1.idn ev_sz (by omega) fun a Ra => Ra.oI1 (brd (fun k => ?_) fun k => ?_)
  · rw [if_pos k] at hstep
    exact ⟨⟨i + 1, by rw [wrap64_succ (by omega), wrap64_succ (by omega), hstep], by omega, rfl⟩, by show ((s.Events.length : Int) - IntKind.i64.wrap ((i : Int) + 1)).toNat < ((s.Events.length : Int) - i).toNat; rw [wrap64_succ (by omega)]; omega⟩
  · rw [if_neg k] at hstep
    exact ⟨⟨i + 1, by rw [wrap64_succ (by omega), hstep]; rfl, by omega, rfl⟩, by rw [wrap64_succ (by omega)]; show _ < _; simp; omega⟩
theorem hasNone_c {cs : Array Value} {v : GVoice} (R0 : rVoice.rd h cs.toList v) : CALL prg f_impl_Voice_hasNone #[.agg cs] (fun u h' => u = .tuple ⟨[.bool (same v.String z_String), .bool (same v.Pipe z_Pipe), .bool (same v.Bow z_Bow)]⟩ ∧ Ext h h') h := by
  refine impl_Voice_hasNone.call (alcR R0 fun g h1 x1 R => R.lda2 foc_Voice_String rfl fun c1 R1 => R.lda2 foc_Voice_Pipe rfl fun c2 R2 => R.lda2 foc_Voice_Bow rfl fun c3 R3 => ?_)
  refine goX (SameString_c R1 (rString.look zow_String (Mem.start h1) (List.nil_sublist _))) fun h2 x2 => as_b (R.pin2 (by decide) x2 (R.pin2 (by decide) x2 ?_))
  refine goE x2 (SamePipe_c (rPipe.ext x2 R2) (rPipe.look zow_Pipe (Mem.start h2) (List.nil_sublist _))) fun h3 x3 => as_b (R.pin2 (by decide) x3 ?_)
  exact goE x3 (SameBow_c (rBow.ext x3 R3) (rBow.look zow_Bow (Mem.start h3) (List.nil_sublist _))) fun h4 x4 => as_b ⟨rfl, x1.trans x4⟩
theorem isFree_c {cs : Array Value} {v : GVoice} (R0 : rVoice.rd h cs.toList v) : CALL prg f_impl_Voice_isFree #[.agg cs] (fun u h' => u = .bool (v.Note == -1) ∧ Ext h h') h :=
  impl_Voice_isFree.call (alcR R0 fun g h1 x1 R => R.oI2 ⟨rfl, x1⟩)
theorem isVoice_J7 {h0 : Heap} {p q : Addr} {s : GScore} {v : GVoice} (R : RdP rScore h p s) (V : RdP rVoice h q v) (X : Ext h0 h) (hi : 0 ≤ v.Instrument ∧ v.Instrument < s.Instruments.length) {r : Bool} (k : bodyOk s v = r) :
    impl_isVoice.J7 (fun u h' => u = .bool r ∧ Ext h0 h') p q (same v.String z_String) (same v.Pipe z_Pipe) (same v.Bow z_Bow) h := by
  unfold impl_isVoice.J7
  refine R.oL fun b l c S => V.oI (S.idx (by decide) hi.1 (by rw [← S.len]; exact hi.2) fun a Ra => Ra.oI (br (fun k1 => ?_) fun k1 => br (fun k2 => ?_) fun k2 => ?_))
  · have k : (v.String.ok && same v.Pipe z_Pipe && same v.Bow z_Bow) = r := by rw [← k, bodyOk, if_pos (by simpa using k1)]
    refine V.lda foc_Voice_String rfl fun cv Rv => goE X (ValidString_c Rv) fun h1 x1 => as_b (br (fun e => br (fun e2 => ⟨?_, x1⟩) fun e2 => ⟨?_, x1⟩) fun e => ⟨?_, x1⟩)
    all_goals (rw [← k]; simp [*])
  · have k : (same v.String z_String && v.Pipe.ok && same v.Bow z_Bow) = r := by rw [← k, bodyOk, if_neg (by simpa using k1), if_pos (by simpa using k2)]
    refine br (fun e => V.lda foc_Voice_Pipe rfl fun cv Rv => goE X (ValidPipe_c Rv) fun h1 x1 => as_b (br (fun e2 => ⟨?_, x1⟩) fun e2 => ⟨?_, x1⟩)) fun e => ⟨?_, X⟩
    all_goals (rw [← k]; simp [*])
  · have k : (same v.String z_String && same v.Pipe z_Pipe && v.Bow.ok) = r := by rw [← k, bodyOk, if_neg (by simpa using k1), if_neg (by simpa using k2)]
    refine br (fun e => br (fun e2 => V.lda foc_Voice_Bow rfl fun cv Rv => goE X (ValidBow_c Rv) fun h1 x1 => as_b ⟨?_, x1⟩) fun e2 => ⟨?_, X⟩) fun e => ⟨?_, X⟩
    all_goals (rw [← k]; simp [*])
theorem isVoice_c {cs cv : Array Value} {s : GScore} {v : GVoice} (R0 : rScore.rd h cs.toList s) (V0 : rVoice.rd h cv.toList v) (hs : s.ok = true) : CALL prg f_impl_isVoice #[.agg cs, .agg cv] (fun u h' => u = .bool (voiceOk s v) ∧ Ext h h') h := by
  refine impl_isVoice.call (alcR R0 fun g1 h1 x1 R => alcR (rVoice.ext x1 V0) fun g3 h4 x4 V => ?_)
  have X0 := x1.trans x4
  have A : ∀ {hh : Heap}, Ext h4 hh → RdP rScore hh ⟨g1, 0, none⟩ s := fun e => R.ext (x4.trans e)
  have B : ∀ {hh : Heap}, Ext h4 hh → RdP rVoice hh ⟨g3, 0, none⟩ v := fun e => V.ext e
  refine V.lda1 rfl fun c1 V1 => goX (hasNone_c V1) fun h5 x5 => ?_
  refine tup3 (as_b (as_b (as_b ?_)))
  refine (B x5).lda1 rfl fun c2 V2 => goE x5 (isFree_c V2) fun h6 x6 => as_b (br (fun kn => ?_) fun kn => ?_)
  · have k : voiceOk s v = freeOk v := by rw [voiceOk, if_pos (by simpa using kn)]
    rw [k]
    refine br (fun e1 => br (fun e2 => br (fun e3 => (B x6).oI2 (br (fun e4 => (B x6).oI2 (br (fun e5 => (B x6).oB2 (brN (fun e6 => (B x6).oF2 fun y hy => goE x6 (bitsOf_c hy _) fun h7 x7 => as_i ⟨?_, X0.trans x7⟩) fun e6 => ⟨?_, X0.trans x6⟩)) fun e5 => ⟨?_, X0.trans x6⟩)) fun e4 => ⟨?_, X0.trans x6⟩)) fun e3 => ⟨?_, X0.trans x6⟩) fun e2 => ⟨?_, X0.trans x6⟩) fun e1 => ⟨?_, X0.trans x6⟩
    · rw [freeOk, e1, e2, e3, e4, e5, e6]
      congr 1
      simp only [Bool.not_false, Bool.and_true, Bool.true_and]
      rw [Bool.eq_iff_iff, beq_iff_eq, beq_iff_eq]
      omega
    all_goals (rw [freeOk]; simp [*])
  · refine (A x6).lda1 rfl fun c3 R3 => (B x6).oI2 ?_
    refine (startOf_c R3 v.Note).mono ?_
    rintro _ h7 ⟨⟨ce, rfl, Re⟩, y7⟩
    have x7 := x6.trans y7
    refine tup2 (as_a (as_b (localR Re rfl rfl fun g h8 y8 E => ?_)))
    have x8 := x7.trans y8
    cases he : startEv s.Events v.Note with
    | none =>
      exact br_t rfl ⟨by rw [voiceOk, if_neg (by simpa using kn), he], X0.trans x8⟩
    | some e =>
      rw [he] at E
      have E : RdP rEvent h8 ⟨g, 0, none⟩ e := E
      have k0 : voiceOk s v = ((e.Instrument == v.Instrument) && (e.At == v.Born) && fin v.Drive && bodyOk s v) := by rw [voiceOk, if_neg (by simpa using kn), he]
      refine br_f rfl ((B x8).oI2 (E.oI2 (br (fun e1 => ⟨?_, X0.trans x8⟩) fun e1 => (B x8).oI2 (E.oI2 (br (fun e2 => ⟨?_, X0.trans x8⟩) fun e2 => (B x8).oF2 fun y hy => goE x8 (isFinite_c hy _) fun h9 x9 => as_b (brN (fun e3 => ⟨?_, X0.trans x9⟩) fun e3 => ?_))))))
      · rw [k0, show (e.Instrument == v.Instrument) = false from by rw [bne_iff_ne] at e1; rw [beq_eq_false_iff_ne]; exact fun h => e1 h.symm]; rfl
      · rw [k0, show (e.At == v.Born) = false from by rw [bne_iff_ne] at e2; rw [beq_eq_false_iff_ne]; exact fun h => e2 h.symm]; simp
      · rw [k0, e3]; simp
      · have hi := start_ins hs he
        have ei : e.Instrument = v.Instrument := by rw [bne_eq_false_iff_eq] at e1; exact e1.symm
        have ea : e.At = v.Born := by rw [bne_eq_false_iff_eq] at e2; exact e2.symm
        rw [ei] at hi
        refine isVoice_J7 (A x9) (B x9) (X0.trans x9) hi ?_
        rw [k0, e3, ei, ea]; simp
end
end Go.Sx
/- Players: the rule's and the program's. -/
set_option linter.unusedVariables false
set_option linter.unusedSimpArgs false
namespace Go.Sx
open Go.Proofs
set_option maxRecDepth 100000
set_option maxHeartbeats 2000000

noncomputable def voicesAt (p : GPlayer) (i : Nat) : Bool := voiceOk p.Score p.Voices[i]! && (decide (p.Voices[i]!.Note < 0) || (decide (p.Voices[i]!.Born < p.Now) && (List.range i).all fun k => !(p.Voices[k]!.Note == p.Voices[i]!.Note)))
noncomputable def GPlayer.ok (p : GPlayer) : Bool := p.Score.ok && inR p.Voices.length 1 6 && inR p.Now 0 200000 && inR p.Skipped 0 64 && (p.Next == (hap p.Score.Events p.Now : Int)) && (List.range p.Voices.length).all (voicesAt p)
theorem voice_note {s : GScore} {v : GVoice} (h : s.ok = true) (hv : voiceOk s v = true) : v.Note = -1 ∨ 0 ≤ v.Note := by
  by_cases hn : v.Note = -1
  · exact .inl hn
  · right
    rw [voiceOk, if_neg hn] at hv
    cases he : startEv s.Events v.Note with
    | none => rw [he] at hv; cases hv
    | some e =>
      have G := score_ev h
      have hm := List.mem_of_find?_eq_some he
      have hp := List.find?_some he
      obtain ⟨i, hi, rfl⟩ := List.mem_iff_getElem.1 hm
      have := (G.note i hi).1
      rw [getElem!_pos _ i hi] at this
      rw [Bool.and_eq_true, beq_iff_eq] at hp
      omega
section
variable {h : Heap}
theorem l09Ok_c {q : Addr} {p : GPlayer} (R : RdP rPlayer h q p) : CALL prg f_spec_l09Ok #[.pointer (some q)] (fun u h' => u = .bool p.ok ∧ Ext h h') h := by
  have hm := maxLen_lt
  have A : ∀ {hh : Heap}, Ext h hh → RdP rPlayer hh q p := fun e => R.ext e
  refine spec_l09Ok.call (goX (l08Ok_c (R.fst foc_Player_Score)) fun h1 x1 => as_b (brN (fun e => ⟨by rw [GPlayer.ok, e]; rfl, x1⟩) fun e1 => (A x1).oL fun b l c S => ?_))
  have hl := S.len
  have s1 := S.2.1
  have s2 := S.2.2.1
  refine goE x1 (l00In_c _ _ _ _) fun h2 x2 => as_b (brN (fun e => ⟨by rw [GPlayer.ok, hl, e]; simp, x2⟩) fun e2 => (A x2).oI (goE x2 (l00In_c _ _ _ _) fun h3 x3 => as_b (brN (fun e => ⟨by rw [GPlayer.ok, e]; simp, x3⟩) fun e3 => (A x3).oI (goE x3 (l00In_c _ _ _ _) fun h4 x4 => as_b (brN (fun e => ⟨by rw [GPlayer.ok, e]; simp, x4⟩) fun e4 => ?_)))))
  unfold spec_l09Ok.J3
  refine (A x4).oI ((A x4).oI (goX (l09Happened_c ((A x4).fst foc_Player_Score) _) fun h5 y5 => as_i ((A x4).pinO (by decide) y5 ?_)))
  have x5 := x4.trans y5
  refine br (fun e => ⟨?_, x5⟩) fun e5 => ?_
  · rw [GPlayer.ok, show (p.Next == (hap p.Score.Events p.Now : Int)) = false from by rw [bne_iff_ne] at e; rw [beq_eq_false_iff_ne]; exact e]; simp
  have e5 : (p.Next == (hap p.Score.Events p.Now : Int)) = true := by rw [bne_eq_false_iff_eq] at e5; rw [beq_iff_eq]; exact e5
  have k : p.ok = (List.range p.Voices.length).all (voicesAt p) := by rw [GPlayer.ok, e1, hl, e2, e3, e4, e5]; rfl
  refine loop (fun x hh => ∃ i : Nat, x = (q, (i : Int)) ∧ i ≤ l ∧ Ext h hh ∧ ∀ j, j < i → voicesAt p j = true) (fun x => ((l : Int) - x.2).toNat) ⟨0, rfl, by omega, x5, fun j hj => by omega⟩ ?_
  rintro x hh ⟨i, rfl, hi, X, hd⟩
  have no : ∀ {h' : Heap}, i < l → voicesAt p i = false → Ext h h' → (Value.bool false = .bool p.ok ∧ Ext h h') := fun e hf x => ⟨by rw [k, all_false (f := voicesAt p) (by omega) hf], x⟩
  refine (A X).oL fun b1 l1 c1 S1 => ?_
  have hl1 := S1.len
  refine brd (fun hc => (A X).oL fun b2 l2 c2 S2 => ?_) fun hc => ⟨by rw [k, all_true fun j hj => hd j (by omega)], X⟩
  have hl2 := S2.len
  have next : ∀ {h' : Heap}, Ext h h' → voicesAt p i = true → ((∃ i' : Nat, (q, IntKind.i64.wrap ((i : Int) + 1)) = (q, (i' : Int)) ∧ i' ≤ l ∧ Ext h h' ∧ ∀ j, j < i' → voicesAt p j = true) ∧ ((l : Int) - IntKind.i64.wrap ((i : Int) + 1)).toNat < ((l : Int) - i).toNat) := fun x hn =>
    ⟨⟨i + 1, by rw [wrap64_succ (by omega)], by omega, x, fun j hj => by
      by_cases e : j = i
      · subst e; exact hn
      · exact hd j (by omega)⟩, by rw [wrap64_succ (by omega)]; omega⟩
  refine S2.idn (by decide) (by omega) fun a Ra => ?_
  have B : ∀ {hx : Heap}, Ext hh hx → RdP rVoice hx _ p.Voices[i]! := fun e => Ra.ext e
  refine goX (l09Voice_c ((A X).fst foc_Player_Score) Ra e1) fun h6 y6 => as_b (brN (fun e => no (by omega) (by rw [voicesAt, e, Bool.false_and]) (X.trans y6)) fun ev => (B y6).oI1 (brd (fun hn => ?_) fun hn => ?_))
  · refine (B y6).oI ((A (X.trans y6)).oI (brd (fun hb => no (by omega) ?_ (X.trans y6)) fun hb => ?_))
    · rw [voicesAt, decide_eq_false (p := p.Voices[i]!.Note < 0) (by omega), decide_eq_false (p := p.Voices[i]!.Born < p.Now) (by omega)]; simp
    have hv : voicesAt p i = (List.range i).all fun k => !(p.Voices[k]!.Note == p.Voices[i]!.Note) := by
      rw [voicesAt, ev, decide_eq_false (p := p.Voices[i]!.Note < 0) (by omega), decide_eq_true (p := p.Voices[i]!.Born < p.Now) (by omega)]; simp
    unfold spec_l09Ok.J11
    refine loop (fun x hx => ∃ n : Nat, x = (q, (i : Int), _, (n : Int)) ∧ n ≤ i ∧ Ext hh hx ∧ ∀ j, j < n → (p.Voices[j]!.Note == p.Voices[i]!.Note) = false) (fun x => ((i : Int) - x.2.2.2).toNat) ⟨0, rfl, by omega, y6, fun j hj => by omega⟩ ?_
    rintro x h7 ⟨n, rfl, hn2, Y, hne⟩
    refine brd (fun hc2 => (B Y).oI1 (brd (fun hn3 => ?_) fun hn3 => by omega)) fun hc2 => next (X.trans Y) (by rw [hv, all_true fun j hj => by rw [hne j (by omega)]; rfl])
    unfold spec_l09Ok.J14
    refine (A (X.trans Y)).oL fun b3 l3 c3 S3 => ?_
    have hl3 := S3.len
    refine S3.idn (by decide) (by omega) fun a3 Ra3 => Ra3.oI1 ((B Y).oI1 (br (fun e => no (by omega) ?_ (X.trans Y)) fun e => ⟨⟨n + 1, by rw [wrap64_succ (by omega)], by omega, Y, fun j hj => ?_⟩, by rw [wrap64_succ (by omega)]; show _ < _; simp; omega⟩))
    · rw [hv, all_false (f := fun k => !(p.Voices[k]!.Note == p.Voices[i]!.Note)) (i := n) (by omega) (by rw [show (p.Voices[n]!.Note == p.Voices[i]!.Note) = true from e]; rfl)]
    · by_cases ej : j = n
      · subst ej; exact e
      · exact hne j (by omega)
  · have hneg : voicesAt p i = true := by rw [voicesAt, ev, decide_eq_true (p := p.Voices[i]!.Note < 0) (by omega)]; rfl
    unfold spec_l09Ok.J11
    refine loop (fun x hx => x = (q, (i : Int), _, 0) ∧ Ext hh hx) (fun x => 0) ⟨rfl, y6⟩ ?_
    rintro x h7 ⟨rfl, Y⟩
    exact brd (fun hc2 => (B Y).oI1 (brd (fun hn3 => by omega) fun hn3 => next (X.trans Y) hneg)) fun hc2 => next (X.trans Y) hneg
theorem ValidPlayer_J3 {h0 : Heap} {g1 : Nat} {p : GPlayer} (R : RdP rPlayer h ⟨g1, 0, none⟩ p) (X0 : Ext h0 h) (k : p.ok = (List.range p.Voices.length).all (voicesAt p)) (hs : p.Score.ok = true) :
    impl_ValidPlayer.J3 (fun u h' => u = .bool p.ok ∧ Ext h0 h') ⟨g1, 0, none⟩ h := by
  have hm := maxLen_lt
  have hq : oL (cell h ((⟨g1, 0, none⟩ : Addr).add 6)) (fun b l c => SlR rVoice h b l c p.Voices) := R.oL fun b l c S => S
  obtain ⟨b, l, c, hc0, S⟩ := oL_out hq
  have hl := S.len
  have s1 := S.2.1
  have s2 := S.2.2.1
  unfold impl_ValidPlayer.J3
  refine make_map fun gs h1 x1 hg M => ?_
  rw [cell_ext hc0 x1]
  show LOOP _ _ _
  refine loop (fun x hh => ∃ (i : Nat) (mm : List (Int × Value)), x = (⟨g1, 0, none⟩, .map (some gs), b, l, c, (l : Int), (i : Int)) ∧ i ≤ l ∧ Ext h hh ∧ MapI hh gs mm ∧ (∀ n, (mfind mm n).isSome = true ↔ ∃ k, k < i ∧ p.Voices[k]!.Note = n ∧ n ≠ -1) ∧ (∀ n, mfind mm n = none ∨ mfind mm n = some (.bool true)) ∧ ∀ j, j < i → voicesAt p j = true) (fun x => ((l : Int) - x.2.2.2.2.2.2).toNat)
    ⟨0, [], rfl, by omega, x1, M, fun n => ⟨fun e => (by cases e), fun ⟨k, hk, _⟩ => absurd hk (Nat.not_lt_zero k)⟩, fun n => .inl rfl, fun j hj => by omega⟩ ?_
  rintro x hh ⟨i, mm, rfl, hi, X, M, hmem, hval, hd⟩
  refine brd (fun hc => ?_) fun hc => ⟨by rw [k, all_true fun j hj => hd j (by omega)], X0.trans X⟩
  have no : ∀ {h' : Heap}, voicesAt p i = false → Ext h0 h' → (Value.bool false = .bool p.ok ∧ Ext h0 h') := fun hf x => ⟨by rw [k, all_false (f := voicesAt p) (by omega) hf], x⟩
  have step : ∀ {h' : Heap} {m' : List (Int × Value)}, Ext h h' → MapI h' gs m' → (∀ n, (mfind m' n).isSome = true ↔ ∃ k, k < i + 1 ∧ p.Voices[k]!.Note = n ∧ n ≠ -1) → (∀ n, mfind m' n = none ∨ mfind m' n = some (.bool true)) → voicesAt p i = true → ((∃ (i' : Nat) (mm : List (Int × Value)), ((⟨g1, 0, none⟩ : Addr), Value.map (some gs), b, l, c, (l : Int), IntKind.i64.wrap ((i : Int) + 1)) = (⟨g1, 0, none⟩, .map (some gs), b, l, c, (l : Int), (i' : Int)) ∧ i' ≤ l ∧ Ext h h' ∧ MapI h' gs mm ∧ (∀ n, (mfind mm n).isSome = true ↔ ∃ k, k < i' ∧ p.Voices[k]!.Note = n ∧ n ≠ -1) ∧ (∀ n, mfind mm n = none ∨ mfind mm n = some (.bool true)) ∧ ∀ j, j < i' → voicesAt p j = true) ∧ ((l : Int) - IntKind.i64.wrap ((i : Int) + 1)).toNat < ((l : Int) - i).toNat) := fun {h' m'} y my he hv hn =>
    ⟨⟨i + 1, m', by rw [wrap64_succ (by omega)], by omega, y, my, he, hv, fun j hj => by
      by_cases e : j = i
      · subst e; exact hn
      · exact hd j (by omega)⟩, by rw [wrap64_succ (by omega)]; omega⟩
  refine (S.ext X).idn (by decide) (by omega) fun a Ra => Ra.lda1 rfl fun cs Rc => localR Rc rfl rfl fun g2 h2 x2 V => ?_
  have A : ∀ {hx : Heap}, Ext h2 hx → RdP rPlayer hx ⟨g1, 0, none⟩ p := fun e => R.ext (X.trans (x2.trans e))
  have B : ∀ {hx : Heap}, Ext h2 hx → RdP rVoice hx ⟨g2, 0, none⟩ p.Voices[i]! := fun e => V.ext e
  have X2 : ∀ {hx : Heap}, Ext h2 hx → Ext h0 hx := fun e => X0.trans (X.trans (x2.trans e))
  refine ((A (Ext.refl h2)).fst foc_Player_Score).lda1 rfl fun c3 R3 => V.lda1 rfl fun c4 V4 => goX (isVoice_c R3 V4 hs) fun h3 x3 => as_b (brN (fun e => no (by rw [voicesAt, e, Bool.false_and]) (X2 x3)) fun ev => ?_)
  have M3 := M.ext (x2.trans x3)
  refine (B x3).lda1 rfl fun c5 V5 => goE x3 (isFree_c V5) fun h4 x4 => as_b (br (fun kf => ?_) fun kf => ?_)
  · have hn : p.Voices[i]!.Note = -1 := by simpa using kf
    refine step (X.trans (x2.trans x4)) (M.ext (x2.trans x4)) (fun n => ?_) hval (by rw [voicesAt, ev, hn]; rfl)
    rw [hmem n]
    constructor
    · rintro ⟨k, hk, e⟩; exact ⟨k, by omega, e⟩
    · rintro ⟨k, hk, e1, e2⟩
      by_cases ek : k = i
      · subst ek; omega
      · exact ⟨k, by omega, e1, e2⟩
  · have hn : p.Voices[i]!.Note ≠ -1 := by simpa using kf
    have hn0 : 0 ≤ p.Voices[i]!.Note := (voice_note hs ev).resolve_left hn
    have hB : (mfind mm p.Voices[i]!.Note).getD (.bool false) = .bool (mfind mm p.Voices[i]!.Note).isSome := by
      rcases hval p.Voices[i]!.Note with e | e <;> rw [e] <;> rfl
    refine (B x4).oI2 (look_map1 (M.ext (x2.trans x4)) UM_ib U_int64 zero_bool _ ?_)
    rw [hB]
    refine as_b (br (fun ks => no ?_ (X2 x4)) fun ks => (B x4).oI2 ((A x4).oI (brd (fun kb => no ?_ (X2 x4)) fun kb => (B x4).oI2 (put_map (M.ext (x2.trans x4)) (X.trans (x2.trans x4)) (by omega) UM_ib U_int64 _ _ fun q h5 x5 M5 _ => step x5 M5 (fun n => ?_) (fun n => ?_) ?_))))
    · obtain ⟨k, hk, e1, e2⟩ := (hmem _).1 ks
      rw [voicesAt, decide_eq_false (p := p.Voices[i]!.Note < 0) (by omega), all_false (f := fun k => !(p.Voices[k]!.Note == p.Voices[i]!.Note)) hk (by rw [e1]; simp)]; simp
    · rw [voicesAt, decide_eq_false (p := p.Voices[i]!.Note < 0) (by omega), decide_eq_false (p := p.Voices[i]!.Born < p.Now) (by omega)]; simp
    · rw [mfind_mset]
      split
      · next e => exact ⟨fun _ => ⟨i, by omega, e.symm, by rw [e]; exact hn⟩, fun _ => rfl⟩
      · next e =>
        rw [hmem n]
        constructor
        · rintro ⟨k, hk, e⟩; exact ⟨k, by omega, e⟩
        · rintro ⟨k, hk, e1, e2⟩
          by_cases ek : k = i
          · subst ek; exact absurd e1.symm e
          · exact ⟨k, by omega, e1, e2⟩
    · rw [mfind_mset]
      split
      · exact .inr rfl
      · exact hval n
    · rw [voicesAt, ev, decide_eq_false (p := p.Voices[i]!.Note < 0) (by omega), decide_eq_true (p := p.Voices[i]!.Born < p.Now) (by omega), all_true fun k hk => ?_]
      · rfl
      · rw [Bool.not_eq_true', beq_eq_false_iff_ne]
        intro e
        have := (hmem _).2 ⟨k, hk, e, hn⟩
        rw [ks] at this; cases this
theorem isVoices_c (n : Int) : Ret prg f_impl_isVoices #[.int .i64 n] (.bool (inR n 1 6)) := fun h => impl_isVoices.call ((within_c _ _ _).go fun h1 x1 => as_b ⟨rfl, x1⟩)
theorem length_Voice_c (b : Option Addr) (l c : Nat) : Ret prg f_impl_length_impl_Voice #[.slice b l c] (.int .i64 l) := fun h => impl_length_impl_Voice.call ⟨rfl, Ext.refl _⟩
theorem ValidPlayer_c {cs : Array Value} {p : GPlayer} (R0 : rPlayer.rd h cs.toList p) : CALL prg f_impl_ValidPlayer #[.agg cs] (fun u h' => u = .bool p.ok ∧ Ext h h') h := by
  refine impl_ValidPlayer.call (alcR R0 fun g h0 x0 R => ?_)
  have A : ∀ {hh : Heap}, Ext h0 hh → RdP rPlayer hh ⟨g, 0, none⟩ p := fun e => R.ext e
  refine R.lda2 foc_Player_Score rfl fun c1 R1 => goX (ValidScore_c R1) fun h1 x1 => as_b (brN (fun e => ⟨by rw [GPlayer.ok, e]; rfl, x0.trans x1⟩) fun e1 => (A x1).oL2 fun b l c S => ?_)
  have hl := S.len
  refine goE x1 (length_Voice_c _ _ _ _) fun h2 x2 => as_i (goE x2 (isVoices_c _ _) fun h3 x3 => as_b (brN (fun e => ⟨by rw [GPlayer.ok, hl, e]; simp, x0.trans x3⟩) fun e2 => (A x3).oI2 (goE x3 (within_c _ _ _ _) fun h4 x4 => as_b (brN (fun e => ⟨by rw [GPlayer.ok, e]; simp, x0.trans x4⟩) fun e3 => ?_))))
  refine (A x4).oI2 ((A x4).lda2 foc_Player_Score rfl fun c2 R2 => (A x4).oI2 (goX (happened_c R2 e1 _) fun h5 y5 => as_i ((A x4).pin2 (by decide) y5 ?_)))
  have x5 := x4.trans y5
  refine br (fun e => ⟨?_, x0.trans x5⟩) fun e5 => ?_
  · rw [GPlayer.ok, show (p.Next == (hap p.Score.Events p.Now : Int)) = false from by rw [bne_iff_ne] at e; rw [beq_eq_false_iff_ne]; exact e]; simp
  have e5 : (p.Next == (hap p.Score.Events p.Now : Int)) = true := by rw [bne_eq_false_iff_eq] at e5; rw [beq_iff_eq]; exact e5
  refine (A x5).oI2 (goE x5 (within_c _ _ _ _) fun h6 x6 => as_b (brN (fun e => ⟨by rw [GPlayer.ok, e]; simp, x0.trans x6⟩) fun e6 => ?_))
  refine ValidPlayer_J3 (A x6) (x0.trans x6) ?_ e1
  rw [GPlayer.ok, e1, hl, e2, e3, e5, e6]; rfl
end
end Go.Sx
