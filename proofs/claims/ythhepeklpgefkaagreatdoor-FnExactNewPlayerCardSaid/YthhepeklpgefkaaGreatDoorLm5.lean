/- What pipes do, plain. -/
import Derived.Test.YthhepeklpgefkaaGreatDoorTabE
import Derived.Test.YthhepeklpgefkaaGreatDoorTab
import Derived.Test.YthhepeklpgefkaaGreatDoorLk17
import Derived.Test.YthhepeklpgefkaaGreatDoorLk2
import Derived.Test.YthhepeklpgefkaaGreatDoorLk32
set_option linter.unusedVariables false
set_option linter.unusedSimpArgs false
namespace Go.Sx
def one32 : Nat := 1065353216
def neg32 : Nat := 3212836864
def GPipe.n (x : GPipe) : Nat := x.Right.length
def GPipe.d (x : GPipe) (b : Nat) : Nat := fsub .f32 x.Left[0]!.old b
def GPipe.t (x : GPipe) (i : Nat) : Nat := fmul .f32 x.Scatter[i]! (fsub .f32 x.Right[i]!.old x.Left[i + 1]!.old)
def GPipe.e (x : GPipe) : GFilter × Nat := x.End.step x.Right[x.n - 1]!.old
def GPipe.back (x : GPipe) : Nat := let b := fmul .f32 x.Loss x.e.2; if x.Open then fneg .f32 b else b
def GPipe.reed (x : GPipe) (d : Nat) : Nat := clamp (fadd .f32 x.Rest (fmul .f32 x.Slope d)) one32
def GPipe.rt (x : GPipe) (b : Nat) (i : Nat) : GRing := x.Right[i]!.push (kept (if i = 0 then fadd .f32 b (fmul .f32 (x.d b) (x.reed (x.d b))) else fadd .f32 x.Right[i - 1]!.old (x.t (i - 1))))
def GPipe.lf (x : GPipe) (i : Nat) : GRing := x.Left[i]!.push (kept (if i = x.n - 1 then x.back else fadd .f32 x.Left[i + 1]!.old (x.t i)))
/-- A step: the pipe behind it, and what comes out. -/
def GPipe.step (x : GPipe) (b : Nat) : GPipe × Nat := ({ x with Right := (List.range x.n).map (x.rt b), Left := (List.range x.n).map x.lf, End := x.e.1 }, x.e.2)
def GPipe.ok (x : GPipe) : Bool :=
  inR x.n 1 3 && decide (x.Left.length = x.n) && decide (x.Scatter.length + 1 = x.n) && x.Right.all GRing.okf && x.Left.all GRing.okf && ((List.range x.n).all fun i => x.Right[i]!.Samples.length == x.Left[i]!.Samples.length) &&
    (x.Scatter.all fun k => inside k neg32 one32) && x.End.ok && (x.End.Kind == 1) && fin x.Loss && fin x.Rest && fin x.Slope
end Go.Sx
/- What functions of this seat's program compute, told in words (a predicate over heaps for each), and the proofs that the words are no more than the code's own weakest precondition. -/
namespace Go.Sx
open Go.Proofs
set_option linter.unusedVariables false
set_option maxRecDepth 100000

def impl_isVoices.S (n_0 : Int) (Post : Value → Heap → Prop) (h : Heap) : Prop :=
    CALL prg f_impl_within #[.int .i64 n_0, .int .i64 (1 : Int), .int .i64 (6 : Int)] (fun q1 h2 =>
    asB q1 fun b3 =>
    Post (.bool b3) h2) h
noncomputable def impl_isVoices.code : Code := (Tryz.f67.body).getD .skip
theorem impl_isVoices.call {n_0 : Int} {Post : Value → Heap → Prop} {h : Heap} (H : impl_isVoices.S n_0 Post h) : CALL prg f_impl_isVoices #[.int .i64 n_0] Post h :=
  fn_call tau_ok mixed (c := impl_isVoices.code) (Λ := lookL []) Tryz.func67 (by kernel_rfl) (by kernel_rfl)
    (Rq.free (by kernel_rfl))
    (Eq.mp (by kernel_rfl) H)

end Go.Sx
/- Bodies of voices: none there, or good ones. -/
set_option linter.unusedVariables false
set_option linter.unusedSimpArgs false
namespace Go.Sx
open Go.Proofs
set_option maxRecDepth 100000
set_option maxHeartbeats 1000000

section
variable {h : Heap} {q : Addr}
def GString.ok (x : GString) : Bool := x.Loop.ok && (x.Tune.ok && x.Tune.Kind == 3) && (x.Damp.ok && x.Damp.Kind == 2) && fin x.Loss
def GBow.ok (x : GBow) : Bool := x.Neck.okf && x.Bridge.okf && (x.Damp.ok && x.Damp.Kind == 1) && (fin x.Slope && fin x.Loss)
end
end Go.Sx
/- Voices: the rule's and the program's. -/
set_option linter.unusedVariables false
set_option linter.unusedSimpArgs false
namespace Go.Sx
open Go.Proofs
set_option maxRecDepth 100000
set_option maxHeartbeats 2000000

noncomputable def freeOk (v : GVoice) : Bool := same v.String z_String && same v.Pipe z_Pipe && same v.Bow z_Bow && (v.Instrument == 0) && (v.Born == 0) && !v.Gone && (v.Drive == 0)
noncomputable def bodyOk (s : GScore) (v : GVoice) : Bool :=
  if s.Instruments[v.Instrument.toNat]!.Kind = 1 then v.String.ok && same v.Pipe z_Pipe && same v.Bow z_Bow else if s.Instruments[v.Instrument.toNat]!.Kind = 2 then same v.String z_String && v.Pipe.ok && same v.Bow z_Bow else same v.String z_String && same v.Pipe z_Pipe && v.Bow.ok
noncomputable def voiceOk (s : GScore) (v : GVoice) : Bool := if v.Note = -1 then freeOk v else match startEv s.Events v.Note with | none => false | some e => (e.Instrument == v.Instrument) && (e.At == v.Born) && fin v.Drive && bodyOk s v
theorem score_ev {s : GScore} (h : s.ok = true) : EvGood s.Events s.Instruments.length := by
  unfold GScore.ok at h
  rw [Bool.and_eq_true] at h
  exact evOk_iff.1 h.2
section
variable {h : Heap}
theorem flat_Event : Flat rEvent := flat_via (flat_seq (flat_I _) (flat_seq (flat_I _) (flat_seq (flat_I _) (flat_seq (flat_I _) (flat_seq (flat_I _) (flat_F _))))))
/-- What a search for a note's start answers. -/
def StartR (h : Heap) (es : List GEvent) (n : Int) (u : Value) : Prop := ∃ cs : Array Value, u = .tuple ⟨[.agg cs, .bool (startEv es n).isSome]⟩ ∧ rEvent.rd h cs.toList ((startEv es n).getD z_Event)
theorem StartR.no {es : List GEvent} {n : Int} (e : startEv es n = none) : StartR h es n (.tuple ⟨[.agg ⟨[.int .i64 (0 : Int), .int .i64 (0 : Int), .int .i64 (0 : Int), .int .i64 (0 : Int), .int .i64 (0 : Int), .float .f32 0]⟩, .bool false]⟩) :=
  ⟨_, by rw [e]; rfl, by rw [e]; exact rEvent.look zow_Event (Mem.start h) (List.nil_sublist _)⟩
theorem StartR.yes {es : List GEvent} {n : Int} {e : GEvent} {cs : Array Value} {h0 : Heap} (he : startEv es n = some e) (R : rEvent.rd h0 cs.toList e) : StartR h es n (.tuple ⟨[.agg cs, .bool true]⟩) :=
  ⟨cs, by rw [he]; rfl, by rw [he]; exact rEvent.look (flat_Event _ _ _ R) (Mem.start h) (List.nil_sublist _)⟩
end
end Go.Sx
/- Voices, the program's; how many events have happened. -/
set_option linter.unusedVariables false
set_option linter.unusedSimpArgs false
namespace Go.Sx
open Go.Proofs
set_option maxRecDepth 100000
set_option maxHeartbeats 2000000

/-- How many events lie before a time. -/
def hap (es : List GEvent) (now : Int) : Nat := es.countP fun e => decide (e.At < now)
end Go.Sx
/- Players: the rule's and the program's. -/
set_option linter.unusedVariables false
set_option linter.unusedSimpArgs false
namespace Go.Sx
open Go.Proofs
set_option maxRecDepth 100000
set_option maxHeartbeats 2000000

noncomputable def voicesAt (p : GPlayer) (i : Nat) : Bool := voiceOk p.Score p.Voices[i]! && (decide (p.Voices[i]!.Note < 0) || (decide (p.Voices[i]!.Born < p.Now) && (List.range i).all fun k => !(p.Voices[k]!.Note == p.Voices[i]!.Note)))
noncomputable def GPlayer.ok (p : GPlayer) : Bool := p.Score.ok && inR p.Voices.length 1 6 && inR p.Now 0 200000 && inR p.Skipped 0 64 && (p.Next == (hap p.Score.Events p.Now : Int)) && (List.range p.Voices.length).all (voicesAt p)
section
variable {h : Heap}
theorem isVoices_c (n : Int) : Ret prg f_impl_isVoices #[.int .i64 n] (.bool (inR n 1 6)) := fun h => impl_isVoices.call ((within_c _ _ _).go fun h1 x1 => as_b ⟨rfl, x1⟩)
end
end Go.Sx
/- What functions of this seat's program compute, told in words (a predicate over heaps for each), and the proofs that the words are no more than the code's own weakest precondition. -/
namespace Go.Sx
open Go.Proofs
set_option linter.unusedVariables false
set_option maxRecDepth 100000

def spec_l08Copy.S (s_0 : Addr) (Post : Value → Heap → Prop) (h : Heap) : Prop :=
    ALC ⟨Z_impl_Score⟩ T_impl_Score (fun g1 h2 =>
    LDA 6 h2 s_0 fun a3 =>
    ALC ⟨Z_impl_Score⟩ T_impl_Score (fun g4 h5 =>
    STA 6 h5 ⟨g4, 0, none⟩ a3 fun h6 =>
    ALC ⟨[]⟩ T_float32 (fun g7 h8 =>
    oL (cell h8 (Addr.add s_0 3)) fun l9b l9l l9c =>
    SEMV prg (Builtin.append_ #[T_sl_float32, T_sl_float32] T_sl_float32 #[.slice (some ⟨g7, 0, none⟩) 0 0, .slice l9b l9l l9c]) (fun q10 h11 =>
    asL q10 fun l12b l12l l12c =>
    ST1 h11 ⟨g4, 3, none⟩ (.slice l12b l12l l12c) fun h13 =>
    ALC ⟨[]⟩ T_impl_Instrument (fun g14 h15 =>
    oL (cell h15 (Addr.add s_0 4)) fun l16b l16l l16c =>
    SEMV prg (Builtin.append_ #[T_sl_impl_Instrument, T_sl_impl_Instrument] T_sl_impl_Instrument #[.slice (some ⟨g14, 0, none⟩) 0 0, .slice l16b l16l l16c]) (fun q17 h18 =>
    asL q17 fun l19b l19l l19c =>
    ST1 h18 ⟨g4, 4, none⟩ (.slice l19b l19l l19c) fun h20 =>
    ALC ⟨[]⟩ T_impl_Event (fun g21 h22 =>
    oL (cell h22 (Addr.add s_0 5)) fun l23b l23l l23c =>
    SEMV prg (Builtin.append_ #[T_sl_impl_Event, T_sl_impl_Event] T_sl_impl_Event #[.slice (some ⟨g21, 0, none⟩) 0 0, .slice l23b l23l l23c]) (fun q24 h25 =>
    asL q24 fun l26b l26l l26c =>
    ST1 h25 ⟨g4, 5, none⟩ (.slice l26b l26l l26c) fun h27 =>
    LDA 6 h27 ⟨g4, 0, none⟩ fun a28 =>
    STA 6 h27 ⟨g1, 0, none⟩ a28 fun h29 =>
    LDA 6 h29 ⟨g1, 0, none⟩ fun a30 =>
    Post (.agg a30) h29) h22) h20) h15) h13) h8) h6) h2) h
noncomputable def spec_l08Copy.code : Code := (Tryz.f61.body).getD .skip
theorem spec_l08Copy.call {s_0 : Addr} {Post : Value → Heap → Prop} {h : Heap} (H : spec_l08Copy.S s_0 Post h) : CALL prg f_spec_l08Copy #[.pointer (some s_0)] Post h :=
  fn_call tau_ok mixed (c := spec_l08Copy.code) (Λ := lookL []) Tryz.func61 (by kernel_rfl) (by kernel_rfl)
    (Rq.free (by kernel_rfl))
    (Eq.mp (by kernel_rfl) H)

def spec_FreeVoice.S (Post : Value → Heap → Prop) (h : Heap) : Prop :=
    ALC ⟨Z_impl_Voice⟩ T_impl_Voice (fun g1 h2 =>
    STA 45 h2 ⟨g1, 0, none⟩ (⟨[.int .i64 (-1 : Int), .int .i64 (0 : Int), .int .i64 (0 : Int), .bool false, .float .f32 0, .slice none 0 0, .int .i64 (0 : Int), .int .i64 (0 : Int), .float .f32 0, .float .f32 0, .float .f32 0, .float .f32 0, .float .f32 0, .int .i64 (0 : Int), .float .f32 0, .float .f32 0, .float .f32 0, .float .f32 0, .float .f32 0, .float .f32 0, .slice none 0 0, .slice none 0 0, .slice none 0 0, .int .i64 (0 : Int), .float .f32 0, .float .f32 0, .float .f32 0, .float .f32 0, .float .f32 0, .bool false, .float .f32 0, .float .f32 0, .float .f32 0, .slice none 0 0, .int .i64 (0 : Int), .slice none 0 0, .int .i64 (0 : Int), .int .i64 (0 : Int), .float .f32 0, .float .f32 0, .float .f32 0, .float .f32 0, .float .f32 0, .float .f32 0, .float .f32 0]⟩ : Array Value) fun h3 =>
    LDA 45 h3 ⟨g1, 0, none⟩ fun a4 =>
    Post (.agg a4) h3) h
noncomputable def spec_FreeVoice.code : Code := (Tryz.f62.body).getD .skip
theorem spec_FreeVoice.call {Post : Value → Heap → Prop} {h : Heap} (H : spec_FreeVoice.S  Post h) : CALL prg f_spec_FreeVoice #[] Post h :=
  fn_call tau_ok mixed (c := spec_FreeVoice.code) (Λ := lookL []) Tryz.func62 (by kernel_rfl) (by kernel_rfl)
    (Rq.free (by kernel_rfl))
    (Eq.mp (by kernel_rfl) H)

def slices_Clone_sl_impl_Instrument_impl_Instrument.S (s_0b : Option Addr) (s_0l s_0c : Nat) (Post : Value → Heap → Prop) (h : Heap) : Prop :=
    CMP prg .eql T_sl_impl_Instrument (.tmp 3) (.const (.slice none 0 0)) (.slice s_0b s_0l s_0c) (.slice none 0 0) (fun b1 h2 =>
    BIF b1 (
    Post (.slice none 0 0) h2) (
    ALC ⟨[]⟩ T_impl_Instrument (fun g3 h4 =>
    SEMV prg (Builtin.append_ #[T_sl_impl_Instrument, T_sl_impl_Instrument] T_sl_impl_Instrument #[.slice (some ⟨g3, 0, none⟩) 0 0, .slice s_0b s_0l s_0c]) (fun q5 h6 =>
    asL q5 fun l7b l7l l7c =>
    Post (.slice l7b l7l l7c) h6) h4) h2)) h
noncomputable def slices_Clone_sl_impl_Instrument_impl_Instrument.code : Code := (Tryz.f137.body).getD .skip
theorem slices_Clone_sl_impl_Instrument_impl_Instrument.call {s_0b : Option Addr} {s_0l s_0c : Nat} {Post : Value → Heap → Prop} {h : Heap} (H : slices_Clone_sl_impl_Instrument_impl_Instrument.S s_0b s_0l s_0c Post h) : CALL prg f_slices_Clone_sl_impl_Instrument_impl_Instrument #[.slice s_0b s_0l s_0c] Post h :=
  fn_call tau_ok mixed (c := slices_Clone_sl_impl_Instrument_impl_Instrument.code) (Λ := lookL []) Tryz.func137 (by kernel_rfl) (by kernel_rfl)
    (Rq.free (by kernel_rfl))
    (Eq.mp (by kernel_rfl) H)

def slices_Clone_sl_impl_Event_impl_Event.S (s_0b : Option Addr) (s_0l s_0c : Nat) (Post : Value → Heap → Prop) (h : Heap) : Prop :=
    CMP prg .eql T_sl_impl_Event (.tmp 3) (.const (.slice none 0 0)) (.slice s_0b s_0l s_0c) (.slice none 0 0) (fun b1 h2 =>
    BIF b1 (
    Post (.slice none 0 0) h2) (
    ALC ⟨[]⟩ T_impl_Event (fun g3 h4 =>
    SEMV prg (Builtin.append_ #[T_sl_impl_Event, T_sl_impl_Event] T_sl_impl_Event #[.slice (some ⟨g3, 0, none⟩) 0 0, .slice s_0b s_0l s_0c]) (fun q5 h6 =>
    asL q5 fun l7b l7l l7c =>
    Post (.slice l7b l7l l7c) h6) h4) h2)) h
noncomputable def slices_Clone_sl_impl_Event_impl_Event.code : Code := (Tryz.f138.body).getD .skip
theorem slices_Clone_sl_impl_Event_impl_Event.call {s_0b : Option Addr} {s_0l s_0c : Nat} {Post : Value → Heap → Prop} {h : Heap} (H : slices_Clone_sl_impl_Event_impl_Event.S s_0b s_0l s_0c Post h) : CALL prg f_slices_Clone_sl_impl_Event_impl_Event #[.slice s_0b s_0l s_0c] Post h :=
  fn_call tau_ok mixed (c := slices_Clone_sl_impl_Event_impl_Event.code) (Λ := lookL []) Tryz.func138 (by kernel_rfl) (by kernel_rfl)
    (Rq.free (by kernel_rfl))
    (Eq.mp (by kernel_rfl) H)

def impl_Score_clone.S (s_0 : Array Value) (Post : Value → Heap → Prop) (h : Heap) : Prop :=
    ALC s_0 T_impl_Score (fun g1 h2 =>
    ALC ⟨Z_impl_Score⟩ T_impl_Score (fun g3 h4 =>
    oL (cell h4 ⟨g1, 3, none⟩) fun l5b l5l l5c =>
    oL (cell h4 ⟨g1, 4, none⟩) fun l6b l6l l6c =>
    oL (cell h4 ⟨g1, 5, none⟩) fun l7b l7l l7c =>
    CALL prg f_slices_Clone_sl_float32_float32 #[.slice l5b l5l l5c] (fun q8 h9 =>
    asL q8 fun l10b l10l l10c =>
    PIN h4 ⟨g1, 5, none⟩ 1 h9 <|
    PIN h4 ⟨g1, 4, none⟩ 1 h9 <|
    CALL prg f_slices_Clone_sl_impl_Instrument_impl_Instrument #[.slice l6b l6l l6c] (fun q11 h12 =>
    asL q11 fun l13b l13l l13c =>
    PIN h4 ⟨g1, 5, none⟩ 1 h12 <|
    CALL prg f_slices_Clone_sl_impl_Event_impl_Event #[.slice l7b l7l l7c] (fun q14 h15 =>
    asL q14 fun l16b l16l l16c =>
    ST1 h15 ⟨g1, 3, none⟩ (.slice l10b l10l l10c) fun h17 =>
    ST1 h17 ⟨g1, 4, none⟩ (.slice l13b l13l l13c) fun h18 =>
    ST1 h18 ⟨g1, 5, none⟩ (.slice l16b l16l l16c) fun h19 =>
    LDA 6 h19 ⟨g1, 0, none⟩ fun a20 =>
    STA 6 h19 ⟨g3, 0, none⟩ a20 fun h21 =>
    LDA 6 h21 ⟨g3, 0, none⟩ fun a22 =>
    Post (.agg a22) h21) h12) h9) h4) h2) h
noncomputable def impl_Score_clone.code : Code := (Tryz.f68.body).getD .skip
theorem impl_Score_clone.call {s_0 : Array Value} {Post : Value → Heap → Prop} {h : Heap} (H : impl_Score_clone.S s_0 Post h) : CALL prg f_impl_Score_clone #[.agg s_0] Post h :=
  fn_call tau_ok mixed (c := impl_Score_clone.code) (Λ := lookL []) Tryz.func68 (by kernel_rfl) (by kernel_rfl)
    (Rq.free (by kernel_rfl))
    (Eq.mp (by kernel_rfl) H)

def impl_FreeVoice.S (Post : Value → Heap → Prop) (h : Heap) : Prop :=
    ALC ⟨Z_impl_Voice⟩ T_impl_Voice (fun g1 h2 =>
    STA 45 h2 ⟨g1, 0, none⟩ (⟨[.int .i64 (-1 : Int), .int .i64 (0 : Int), .int .i64 (0 : Int), .bool false, .float .f32 0, .slice none 0 0, .int .i64 (0 : Int), .int .i64 (0 : Int), .float .f32 0, .float .f32 0, .float .f32 0, .float .f32 0, .float .f32 0, .int .i64 (0 : Int), .float .f32 0, .float .f32 0, .float .f32 0, .float .f32 0, .float .f32 0, .float .f32 0, .slice none 0 0, .slice none 0 0, .slice none 0 0, .int .i64 (0 : Int), .float .f32 0, .float .f32 0, .float .f32 0, .float .f32 0, .float .f32 0, .bool false, .float .f32 0, .float .f32 0, .float .f32 0, .slice none 0 0, .int .i64 (0 : Int), .slice none 0 0, .int .i64 (0 : Int), .int .i64 (0 : Int), .float .f32 0, .float .f32 0, .float .f32 0, .float .f32 0, .float .f32 0, .float .f32 0, .float .f32 0]⟩ : Array Value) fun h3 =>
    LDA 45 h3 ⟨g1, 0, none⟩ fun a4 =>
    Post (.agg a4) h3) h
noncomputable def impl_FreeVoice.code : Code := (Tryz.f69.body).getD .skip
theorem impl_FreeVoice.call {Post : Value → Heap → Prop} {h : Heap} (H : impl_FreeVoice.S  Post h) : CALL prg f_impl_FreeVoice #[] Post h :=
  fn_call tau_ok mixed (c := impl_FreeVoice.code) (Λ := lookL []) Tryz.func69 (by kernel_rfl) (by kernel_rfl)
    (Rq.free (by kernel_rfl))
    (Eq.mp (by kernel_rfl) H)

end Go.Sx
