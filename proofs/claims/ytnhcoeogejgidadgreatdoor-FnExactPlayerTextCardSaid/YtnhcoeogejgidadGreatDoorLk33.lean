/- Bodies of voices: none there, or good ones. -/
import Derived.Test.YtnhcoeogejgidadGreatDoorK4
import Derived.Test.YtnhcoeogejgidadGreatDoorK3
import Derived.Test.YtnhcoeogejgidadGreatDoorLk1
import Derived.Test.YtnhcoeogejgidadGreatDoorLk25
import Derived.Test.YtnhcoeogejgidadGreatDoorK6
import Derived.Test.YtnhcoeogejgidadGreatDoorLk29
set_option linter.unusedVariables false
set_option linter.unusedSimpArgs false
namespace Go.Sx
open Go.Proofs
set_option maxRecDepth 100000
set_option maxHeartbeats 1000000

theorem alcE {α : Type} {r : Rep α} {h0 h : Heap} {x : α} {cs : Array Value} {T : Nat} {F : Nat → Heap → Prop} (E : Ext h0 h) (R : r.rd h cs.toList x) (H : ∀ g h', Ext h0 h' → RdP r h' ⟨g, 0, none⟩ x → F g h') : ALC cs T F h :=
  alcR R fun g h' x' R' => H g h' (E.trans x') R'
theorem same_nil {α : Type} (xs : List α) : same xs [] = (xs.length == 0) := by
  rw [Bool.eq_iff_iff, same_iff, beq_iff_eq, List.length_eq_zero_iff]
theorem len0 {α : Type} {r : Rep α} {h : Heap} {b : Option Addr} {l c : Nat} {xs : List α} (S : SlR r h b l c xs) : ((l : Int) == (0 : Int)) = same xs [] := by
  rw [same_nil, S.len, Bool.eq_iff_iff, beq_iff_eq, beq_iff_eq]
  omega
section
variable {h : Heap} {q : Addr}
theorem zrd_Filter : rFilter.rd h [Value.int .i64 (0 : Int), Value.float .f32 0, Value.float .f32 0, Value.float .f32 0, Value.float .f32 0, Value.float .f32 0] z_Filter := rFilter.look zow_Filter (Mem.start h) (List.nil_sublist _)
theorem l09NoString_c {x : GString} (R : RdP rString h q x) : CALL prg f_spec_l09NoString #[.pointer (some q)] (fun u h' => u = .bool (same x z_String) ∧ Ext h h') h := by
  have k : same x z_String = (same x.Loop.Samples [] && (x.Loop.At == 0) && same x.Tune z_Filter && same x.Damp z_Filter && (x.Loss == 0)) := by rw [same_String]; unfold z_String z_Ring; rw [same_Ring]
  have A : ∀ {hh : Heap}, Ext h hh → RdP rString hh q x := fun e => R.ext e
  refine spec_l09NoString.call (R.oL1 fun b l c S => ?_)
  rw [len0 S]
  refine br (fun k1 => R.oI (br (fun k2 => alcE (Ext.refl h) zrd_Filter fun g h3 x3 Z => goE x3 (l02Same_c ((A x3).foc foc_String_Tune) Z) fun h4 x4 => as_b (br (fun k3 => alcE x4 zrd_Filter fun g h6 x6 Z => goE x6 (l02Same_c ((A x6).foc foc_String_Damp) Z) fun h7 x7 => as_b (br (fun k4 => (A x7).oF fun y hy => goE x7 (l01Same_c hy fw0 _) fun h9 x9 => as_b ⟨?_, x9⟩) fun k4 => ⟨?_, x7⟩)) fun k3 => ⟨?_, x4⟩)) fun k2 => ⟨?_, Ext.refl _⟩)) fun k1 => ⟨?_, Ext.refl _⟩
  all_goals (rw [k]; simp [*])
theorem l09NoPipe_c {x : GPipe} (R : RdP rPipe h q x) : CALL prg f_spec_l09NoPipe #[.pointer (some q)] (fun u h' => u = .bool (same x z_Pipe) ∧ Ext h h') h := by
  have k : same x z_Pipe = (same x.Right [] && same x.Left [] && same x.Scatter [] && same x.End z_Filter && (x.Open == false) && (x.Loss == 0) && (x.Rest == 0) && (x.Slope == 0)) := by rw [same_Pipe]; rfl
  have A : ∀ {hh : Heap}, Ext h hh → RdP rPipe hh q x := fun e => R.ext e
  refine spec_l09NoPipe.call (R.oL1 fun b l c S => ?_)
  rw [len0 S]
  refine br (fun k1 => R.oL fun b l c S => ?_) fun k1 => ⟨by rw [k, k1]; simp, Ext.refl _⟩
  rw [len0 S]
  refine br (fun k2 => R.oL fun b l c S => ?_) fun k2 => ⟨by rw [k, k2]; simp, Ext.refl _⟩
  rw [len0 S]
  refine br (fun k3 => alcE (Ext.refl h) zrd_Filter fun g h3 x3 Z => goE x3 (l02Same_c ((A x3).foc foc_Pipe_End) Z) fun h4 x4 => as_b (br (fun k4 => ?_) fun k4 => ⟨by rw [k, k4]; simp, x4⟩)) fun k3 => ⟨by rw [k, k3]; simp, Ext.refl _⟩
  refine (A x4).oB (brN (fun k5 => ?_) fun k5 => ⟨by rw [k, k5]; simp, x4⟩)
  refine (A x4).oF fun y hy => goE x4 (l01Same_c hy fw0 _) fun h5 x5 => as_b (br (fun k6 => ?_) fun k6 => ⟨by rw [k, k6]; simp, x5⟩)
  refine (A x5).oF fun y hy => goE x5 (l01Same_c hy fw0 _) fun h6 x6 => as_b (br (fun k7 => ?_) fun k7 => ⟨by rw [k, k7]; simp, x6⟩)
  refine (A x6).oF fun y hy => goE x6 (l01Same_c hy fw0 _) fun h7 x7 => as_b ⟨?_, x7⟩
  rw [k, k1, k2, k3, k4, k5, k6, k7]; rfl
theorem l09NoBow_c {x : GBow} (R : RdP rBow h q x) : CALL prg f_spec_l09NoBow #[.pointer (some q)] (fun u h' => u = .bool (same x z_Bow) ∧ Ext h h') h := by
  have k : same x z_Bow = (same x.Neck.Samples [] && (x.Neck.At == 0) && (same x.Bridge.Samples [] && (x.Bridge.At == 0)) && same x.Damp z_Filter && (x.Slope == 0) && (x.Loss == 0)) := by rw [same_Bow]; unfold z_Bow z_Ring; rw [same_Ring, same_Ring]
  have A : ∀ {hh : Heap}, Ext h hh → RdP rBow hh q x := fun e => R.ext e
  refine spec_l09NoBow.call (R.oL1 fun b l c S => ?_)
  rw [len0 S]
  refine br (fun k1 => R.oI (br (fun k2 => R.oL fun b l c S => ?_) fun k2 => ⟨by rw [k, k2]; simp, Ext.refl _⟩)) fun k1 => ⟨by rw [k, k1]; simp, Ext.refl _⟩
  rw [len0 S]
  refine br (fun k3 => R.oI (br (fun k4 => alcE (Ext.refl h) zrd_Filter fun g h3 x3 Z => goE x3 (l02Same_c ((A x3).foc foc_Bow_Damp) Z) fun h4 x4 => as_b (br (fun k5 => ?_) fun k5 => ⟨by rw [k, k5]; simp, x4⟩)) fun k4 => ⟨by rw [k, k4]; simp, Ext.refl _⟩)) fun k3 => ⟨by rw [k, k3]; simp, Ext.refl _⟩
  refine (A x4).oF fun y hy => goE x4 (l01Same_c hy fw0 _) fun h5 x5 => as_b (br (fun k6 => ?_) fun k6 => ⟨by rw [k, k6]; simp, x5⟩)
  refine (A x5).oF fun y hy => goE x5 (l01Same_c hy fw0 _) fun h6 x6 => as_b ⟨?_, x6⟩
  rw [k, k1, k2, k3, k4, k5, k6]; rfl
def GString.ok (x : GString) : Bool := x.Loop.ok && (x.Tune.ok && x.Tune.Kind == 3) && (x.Damp.ok && x.Damp.Kind == 2) && fin x.Loss
def GBow.ok (x : GBow) : Bool := x.Neck.okf && x.Bridge.okf && (x.Damp.ok && x.Damp.Kind == 1) && (fin x.Slope && fin x.Loss)
theorem l03Ok_c {x : GString} (R : RdP rString h q x) : CALL prg f_spec_l03Ok #[.pointer (some q)] (fun u h' => u = .bool x.ok ∧ Ext h h') h := by
  have A : ∀ {hh : Heap}, Ext h hh → RdP rString hh q x := fun e => R.ext e
  refine spec_l03Ok.call (goX (l02Ring_c (R.fst foc_String_Loop)) fun h1 x1 => as_b (br (fun k1 => ?_) fun k1 => ⟨by rw [GString.ok, k1]; rfl, x1⟩))
  refine goE x1 (l02Ok_c ((A x1).foc foc_String_Tune)) fun h2 x2 => as_b (br (fun k2 => (A x2).oI (br (fun k3 => ?_) fun k3 => ⟨by rw [GString.ok, k3]; simp, x2⟩)) fun k2 => ⟨by rw [GString.ok, k2]; simp, x2⟩)
  refine goE x2 (l02Ok_c ((A x2).foc foc_String_Damp)) fun h3 x3 => as_b (br (fun k4 => (A x3).oI (br (fun k5 => ?_) fun k5 => ⟨by rw [GString.ok, k5]; simp, x3⟩)) fun k4 => ⟨by rw [GString.ok, k4]; simp, x3⟩)
  exact (A x3).oF fun y hy => goE x3 (l01Finite_c hy _) fun h4 x4 => as_b ⟨by rw [GString.ok, k1, k2, k3, k4, k5]; rfl, x4⟩
theorem ValidString_c {cs : Array Value} {x : GString} (R0 : rString.rd h cs.toList x) : CALL prg f_impl_ValidString #[.agg cs] (fun u h' => u = .bool x.ok ∧ Ext h h') h := by
  refine impl_ValidString.call (alcE (Ext.refl h) R0 fun g h0 x0 R => ?_)
  have A : ∀ {hh : Heap}, Ext h0 hh → RdP rString hh ⟨g, 0, none⟩ x := fun e => R.ext e
  refine R.lda2 foc_String_Loop rfl fun c1 R1 => goX (ValidRing_c R1) fun h1 x1 => as_b (br (fun k1 => ?_) fun k1 => ⟨by rw [GString.ok, k1]; rfl, x0.trans x1⟩)
  refine (A x1).lda2 foc_String_Tune rfl fun c2 R2 => goE x1 (isFilter_c R2 _) fun h2 x2 => as_b (br (fun k2 => ?_) fun k2 => ⟨by rw [GString.ok, k2]; simp, x0.trans x2⟩)
  refine (A x2).lda2 foc_String_Damp rfl fun c3 R3 => goE x2 (isFilter_c R3 _) fun h3 x3 => as_b (br (fun k3 => ?_) fun k3 => ⟨by rw [GString.ok, k3]; simp, x0.trans x3⟩)
  exact (A x3).oF2 fun y hy => goE x3 (isFinite_c hy _) fun h4 x4 => as_b ⟨by rw [GString.ok, k1, k2, k3]; rfl, x0.trans x4⟩
theorem two_fl {x y a b : Nat} (hx : FW .f32 x a) (hy : FW .f32 y b) {T : Nat} {F : Nat → Heap → Prop} (H : ∀ g h', Ext h h' → SlR (rF .f32) h' (some ⟨g, 0, none⟩) 2 2 [a, b] → F g h') : ALC ⟨[.float .f32 x, .float .f32 y]⟩ T F h :=
  rArr_slr (r := rF .f32) (n := 2) (xs := [a, b]) (cs := [.float .f32 x, .float .f32 y]) ⟨rfl, [.float .f32 x], [.float .f32 y], rfl, ⟨x, rfl, hx⟩, [.float .f32 y], [], rfl, ⟨y, rfl, hy⟩, rfl⟩ (by decide) H
theorem ValidBow_c {cs : Array Value} {x : GBow} (R0 : rBow.rd h cs.toList x) : CALL prg f_impl_ValidBow #[.agg cs] (fun u h' => u = .bool x.ok ∧ Ext h h') h := by
  refine impl_ValidBow.call (alcE (Ext.refl h) R0 fun g h0 x0 R => ?_)
  have A : ∀ {hh : Heap}, Ext h0 hh → RdP rBow hh ⟨g, 0, none⟩ x := fun e => R.ext e
  refine R.lda2 foc_Bow_Neck rfl fun c1 R1 => goX (isRing_c R1) fun h1 x1 => as_b (br (fun k1 => ?_) fun k1 => ⟨by rw [GBow.ok, k1]; rfl, x0.trans x1⟩)
  refine (A x1).lda2 foc_Bow_Bridge rfl fun c2 R2 => goE x1 (isRing_c R2) fun h2 x2 => as_b (br (fun k2 => ?_) fun k2 => ⟨by rw [GBow.ok, k2]; simp, x0.trans x2⟩)
  refine (A x2).lda2 foc_Bow_Damp rfl fun c3 R3 => goE x2 (isFilter_c R3 _) fun h3 x3 => as_b (br (fun k3 => ?_) fun k3 => ⟨by rw [GBow.ok, k3]; simp, x0.trans x3⟩)
  refine (A x3).oF2 fun y hy => (A x3).oF2 fun z hz => two_fl hy hz fun g4 h4 x4 S => goX (areFinite_c S) fun h5 x5 => as_b ⟨?_, x0.trans (x3.trans (x4.trans x5))⟩
  rw [GBow.ok, k1, k2, k3]
  simp [allFin]
theorem l05Bow_c {x : GBow} (R : RdP rBow h q x) : CALL prg f_spec_l05Bow #[.pointer (some q)] (fun u h' => u = .bool x.ok ∧ Ext h h') h := by
  have A : ∀ {hh : Heap}, Ext h hh → RdP rBow hh q x := fun e => R.ext e
  have z0 : (rArr 2 rRing).rd h [Value.slice none 0 0, Value.int .i64 (0 : Int), Value.slice none 0 0, Value.int .i64 (0 : Int)] [z_Ring, z_Ring] := ⟨rfl, [Value.slice none 0 0, Value.int .i64 (0 : Int)], [Value.slice none 0 0, Value.int .i64 (0 : Int)], rfl, rRing.look zow_Ring (Mem.start h) (List.nil_sublist _), [Value.slice none 0 0, Value.int .i64 (0 : Int)], [], rfl, rRing.look zow_Ring (Mem.start h) (List.nil_sublist _), rfl⟩
  refine spec_l05Bow.call ((R.fst foc_Bow_Neck).lda1 rfl fun c1 R1 => R.lda foc_Bow_Bridge rfl fun c2 R2 => siz (rsz R1 rfl) (siz (rsz R2 rfl) ?_))
  have z1 := rd_splice (put := fun l b => l.set 0 b) (get := fun l => l[0]!) z0 (fun R => arr_put (i := 0) (by decide) R) R1
  have z2 := rd_splice (put := fun l b => l.set 1 b) (get := fun l => l[1]!) z1 (fun R => arr_put (i := 1) (by decide) R) R2
  refine rArr_slr (r := rRing) (n := 2) (xs := [x.Neck, x.Bridge]) z2 (by decide) fun g h1 x1 S => goE x1 (l04Rings_c S) fun h2 x2 => as_b ?_
  have k : x.ok = ([x.Neck, x.Bridge].all GRing.okf && (x.Damp.ok && x.Damp.Kind == 1) && (fin x.Slope && fin x.Loss)) := by rw [GBow.ok]; simp
  refine br (fun k1 => ?_) fun k1 => ⟨by rw [k, k1]; rfl, x2⟩
  refine goE x2 (l02Ok_c ((A x2).foc foc_Bow_Damp)) fun h3 x3 => as_b (br (fun k2 => (A x3).oI (br (fun k3 => ?_) fun k3 => ⟨by rw [k, k3]; simp, x3⟩)) fun k2 => ⟨by rw [k, k2]; simp, x3⟩)
  refine (A x3).oF fun y hy => (A x3).oF fun z hz => two_fl hy hz fun g4 h4 x4 S => goX (l04All_c S) fun h5 x5 => as_b ⟨?_, x3.trans (x4.trans x5)⟩
  rw [k, k1, k2, k3]
  simp [allFin]
end
end Go.Sx
/- Voices: the rule's and the program's. -/
set_option linter.unusedVariables false
set_option linter.unusedSimpArgs false
namespace Go.Sx
open Go.Proofs
set_option maxRecDepth 100000
set_option maxHeartbeats 2000000

noncomputable def freeOk (v : GVoice) : Bool := same v.String z_String && same v.Pipe z_Pipe && same v.Bow z_Bow && (v.Instrument == 0) && (v.Born == 0) && !v.Gone && (v.Drive == 0)
noncomputable def bodyOk (s : GScore) (v : GVoice) : Bool :=
  if s.Instruments[v.Instrument.toNat]!.Kind = 1 then v.String.ok && same v.Pipe z_Pipe && same v.Bow z_Bow else if s.Instruments[v.Instrument.toNat]!.Kind = 2 then same v.String z_String && v.Pipe.ok && same v.Bow z_Bow else same v.String z_String && same v.Pipe z_Pipe && v.Bow.ok
noncomputable def voiceOk (s : GScore) (v : GVoice) : Bool := if v.Note = -1 then freeOk v else match startEv s.Events v.Note with | none => false | some e => (e.Instrument == v.Instrument) && (e.At == v.Born) && fin v.Drive && bodyOk s v
theorem find_none {α : Type} [Inhabited α] {p : α → Bool} {l : List α} (h : ∀ i, i < l.length → p l[i]! = false) : l.find? p = none := by
  rw [List.find?_eq_none]
  intro x hx
  obtain ⟨i, hi, rfl⟩ := List.mem_iff_getElem.1 hx
  have := h i hi
  rw [getElem!_pos l i hi] at this
  rw [this]; decide
theorem find_some {α : Type} [Inhabited α] {p : α → Bool} {l : List α} {n : Nat} (hn : n < l.length) (h0 : ∀ i, i < n → p l[i]! = false) (h1 : p l[n]! = true) : l.find? p = some l[n]! := by
  rw [getElem!_pos l n hn] at h1 ⊢
  rw [List.find?_eq_some_iff_getElem]
  refine ⟨h1, n, hn, rfl, fun j hj => ?_⟩
  have := h0 j hj
  rw [getElem!_pos l j (by omega)] at this
  rw [this]; rfl
theorem first_cases {α : Type} [Inhabited α] (p : α → Bool) (l : List α) : (firstAt p l = -1 ∧ ∀ i, i < l.length → p l[i]! = false) ∨ ∃ n : Nat, n < l.length ∧ firstAt p l = n ∧ (∀ i, i < n → p l[i]! = false) ∧ p l[n]! = true := by
  unfold firstAt
  by_cases h : l.any p = true
  · rw [if_pos h]
    obtain ⟨x, hx, hp⟩ := List.any_eq_true.1 h
    have hlt : l.findIdx p < l.length := List.findIdx_lt_length_of_exists ⟨x, hx, hp⟩
    refine .inr ⟨l.findIdx p, hlt, rfl, fun i hi => ?_, ?_⟩
    · rw [getElem!_pos l i (by omega)]
      have := List.not_of_lt_findIdx hi
      simpa using this
    · rw [getElem!_pos l _ hlt]
      exact List.findIdx_getElem (w := hlt)
  · rw [if_neg h]
    refine .inl ⟨rfl, fun i hi => ?_⟩
    rw [getElem!_pos l i hi]
    rw [Bool.not_eq_true, List.any_eq_false] at h
    have := h _ (List.getElem_mem hi)
    simpa using this
theorem score_ev {s : GScore} (h : s.ok = true) : EvGood s.Events s.Instruments.length := by
  unfold GScore.ok at h
  rw [Bool.and_eq_true] at h
  exact evOk_iff.1 h.2
theorem start_ins {s : GScore} (h : s.ok = true) {n : Int} {e : GEvent} (he : startEv s.Events n = some e) : 0 ≤ e.Instrument ∧ e.Instrument < s.Instruments.length := by
  have G := score_ev h
  have hm := List.mem_of_find?_eq_some he
  have hp := List.find?_some he
  obtain ⟨i, hi, rfl⟩ := List.mem_iff_getElem.1 hm
  have := G.part i hi
  rw [getElem!_pos _ i hi] at this
  rw [Bool.and_eq_true] at hp
  have hk : (s.Events[i]).Kind = 2 := by have := hp.1; unfold isSt at this; simpa using this
  unfold evPart at this
  rw [if_neg (by omega)] at this
  simp only [Bool.and_eq_true, inR, decide_eq_true_eq] at this
  omega
section
variable {h : Heap}
theorem IndexFunc_Event_c {b : Option Addr} {l c : Nat} {xs : List GEvent} {f : Value} {p : GEvent → Bool} (S : SlR rEvent h b l c xs) (T : TellsR prg rEvent h f p) :
    CALL prg f_slices_IndexFunc_sl_impl_Event_impl_Event #[.slice b l c, f] (fun u h' => u = .int .i64 (firstAt p xs) ∧ Ext h h') h := by
  refine slices_IndexFunc_sl_impl_Event_impl_Event.call ?_
  have hm2 := S.2.2.1
  have hm3 := S.2.1
  have := maxLen_lt
  have hl := S.len
  refine loop (fun x hh => ∃ n : Nat, x = (b, l, c, f, (l : Int), (n : Int)) ∧ n ≤ l ∧ Ext h hh ∧ ∀ i, i < n → p xs[i]! = false) (fun x => (l - x.2.2.2.2.2).toNat) ⟨0, rfl, by omega, Ext.refl _, fun i hi => by omega⟩ ?_
  rintro x hh ⟨n, rfl, hn, X, hf⟩
  refine brd (fun hc => ?_) fun hc => ⟨by rw [firstAt_none fun i hi => hf i (by omega)], X⟩
  refine (S.ext X).idx ev_sz (by omega) (by omega) fun a Ra => Ra.lda1 rfl fun cs Rc => goD X (T _ _ _ X Rc) fun h1 x1 => as_b (br (fun hb => ?_) fun hb => ?_)
  · exact ⟨by rw [firstAt_some (by omega) hf (by simpa using hb)], x1⟩
  · refine ⟨⟨n + 1, by rw [wrap64_succ (by omega)], by omega, x1, fun i hi => ?_⟩, by rw [wrap64_succ (by omega)]; show _ < _; simp; omega⟩
    by_cases e : i = n
    · subst e; simpa using hb
    · exact hf i (by omega)
theorem flat_Event : Flat rEvent := flat_via (flat_seq (flat_I _) (flat_seq (flat_I _) (flat_seq (flat_I _) (flat_seq (flat_I _) (flat_seq (flat_I _) (flat_F _))))))
theorem rI_rd {n : Int} : (rI .i64).rd h (#[.int .i64 n] : Array Value).toList n := rfl
/-- What a search for a note's start answers. -/
def StartR (h : Heap) (es : List GEvent) (n : Int) (u : Value) : Prop := ∃ cs : Array Value, u = .tuple ⟨[.agg cs, .bool (startEv es n).isSome]⟩ ∧ rEvent.rd h cs.toList ((startEv es n).getD z_Event)
theorem StartR.no {es : List GEvent} {n : Int} (e : startEv es n = none) : StartR h es n (.tuple ⟨[.agg ⟨[.int .i64 (0 : Int), .int .i64 (0 : Int), .int .i64 (0 : Int), .int .i64 (0 : Int), .int .i64 (0 : Int), .float .f32 0]⟩, .bool false]⟩) :=
  ⟨_, by rw [e]; rfl, by rw [e]; exact rEvent.look zow_Event (Mem.start h) (List.nil_sublist _)⟩
theorem StartR.yes {es : List GEvent} {n : Int} {e : GEvent} {cs : Array Value} {h0 : Heap} (he : startEv es n = some e) (R : rEvent.rd h0 cs.toList e) : StartR h es n (.tuple ⟨[.agg cs, .bool true]⟩) :=
  ⟨cs, by rw [he]; rfl, by rw [he]; exact rEvent.look (flat_Event _ _ _ R) (Mem.start h) (List.nil_sublist _)⟩
theorem startOf_c {cs : Array Value} {s : GScore} (R0 : rScore.rd h cs.toList s) (n : Int) : CALL prg f_impl_startOf #[.agg cs, .int .i64 n] (fun u h' => StartR h' s.Events n u ∧ Ext h h') h := by
  refine impl_startOf.call (alcR R0 fun g1 h1 x1 R => alcR (r := rI .i64) rI_rd fun g3 h3 x3 RN => (Mem.start h3).alc fun g5 h5 x5 M => ?_)
  have X := x1.trans x3
  have R5 : ∀ {hh : Heap}, Ext h3 hh → RdP rScore hh ⟨g1, 0, none⟩ s := fun e => R.ext (x3.trans e)
  have T : TellsR prg rEvent h5 (.func (.func f_impl_startOf_c1) #[] #[.pointer (some ⟨g3, 0, none⟩)]) (fun e => isSt e && e.Note == n) := fun ce e hx xx Re => by
    show CALL prg f_impl_startOf_c1 #[.agg ce, .pointer (some ⟨g3, 0, none⟩)] _ hx
    refine impl_startOf_c1.call (alcR Re fun g h' x' R' => R'.oI2 (br (fun k => R'.oI2 ((RN.ext ((x5.trans xx).trans x')).oI1 ⟨?_, x'⟩)) fun k => ⟨?_, x'⟩))
    · show Value.bool (e.Note == n) = .bool (isSt e && (e.Note == n))
      rw [show isSt e = true from k]; rfl
    · show Value.bool false = .bool (isSt e && (e.Note == n))
      rw [show isSt e = false from k]; rfl
  refine (R5 M.ext).oL2 fun b l c S => goM M (IndexFunc_Event_c S T) fun h6 M => as_i ?_
  rcases first_cases (fun e => isSt e && e.Note == n) s.Events with ⟨e, hall⟩ | ⟨m, hm, e, h0, hp⟩
  · rw [e]
    refine brd (fun _ => M.sta0 .here rfl (rEvent.oone zow_Event) rfl .here fun h7 M => M.lda0 .here rfl ⟨.no (find_none hall), X.trans M.ext⟩) fun k => by omega
  · rw [e]
    refine brd (fun k => by omega) fun _ => (R5 M.ext).oL2 fun b1 l1 c1 S1 => S1.idn ev_sz (by rw [← S1.len]; exact hm) fun a Ra => Ra.lda1 rfl fun ce Re => M.sta0 .here (rsz Re rfl) (rEvent.rone Re) rfl .here fun h7 M2 => M2.lda0 .here (rsz Re rfl) ⟨.yes (find_some hm h0 hp) Re, X.trans M2.ext⟩
theorem l09Start_c {q : Addr} {s : GScore} (R : RdP rScore h q s) (n : Int) : CALL prg f_spec_l09Start #[.pointer (some q), .int .i64 n] (fun u h' => StartR h' s.Events n u ∧ Ext h h') h := by
  have hm := maxLen_lt
  refine spec_l09Start.call ((Mem.start h).alc fun g1 h1 x1 M => ?_)
  refine loop (fun x hh => ∃ m : Nat, x = (q, n, ⟨g1, 0, none⟩, (m : Int)) ∧ m ≤ s.Events.length ∧ Mem h hh [(g1, T_impl_Event, ⟨Z_impl_Event⟩)] ∧ ∀ i, i < m → (isSt s.Events[i]! && s.Events[i]!.Note == n) = false) (fun x => ((s.Events.length : Int) - x.2.2.2).toNat) ⟨0, rfl, by omega, M, fun i hi => by omega⟩ ?_
  rintro x hh ⟨m, rfl, hmm, M, hf⟩
  have A := R.ext M.ext
  refine A.oL fun b l c S => ?_
  have hl := S.len
  have s1 := S.2.1
  have s2 := S.2.2.1
  refine brd (fun hc => ?_) fun hc => ?_
  · have next : (isSt s.Events[m]! && s.Events[m]!.Note == n) = false → ((∃ k : Nat, (q, n, (⟨g1, 0, none⟩ : Addr), IntKind.i64.wrap ((m : Int) + 1)) = (q, n, ⟨g1, 0, none⟩, (k : Int)) ∧ k ≤ s.Events.length ∧ Mem h hh [(g1, T_impl_Event, ⟨Z_impl_Event⟩)] ∧ ∀ i, i < k → (isSt s.Events[i]! && s.Events[i]!.Note == n) = false) ∧ ((s.Events.length : Int) - IntKind.i64.wrap ((m : Int) + 1)).toNat < ((s.Events.length : Int) - m).toNat) := fun hn1 =>
      ⟨⟨m + 1, by rw [wrap64_succ (by omega)], by omega, M, fun i hi => by
        by_cases e : i = m
        · subst e; exact hn1
        · exact hf i (by omega)⟩, by rw [wrap64_succ (by omega)]; omega⟩
    refine A.oL fun b1 l1 c1 S1 => ?_
    have e1 := S1.len
    refine S1.idn ev_sz (by omega) fun a Ra => Ra.oI (br (fun k1 => ?_) fun k1 => ?_)
    · refine A.oL fun b2 l2 c2 S2 => ?_
      have e2 := S2.len
      refine S2.idn ev_sz (by omega) fun a2 Ra2 => Ra2.oI ?_
      unfold spec_l09Start.J5
      refine br (fun k2 => A.oL fun b3 l3 c3 S3 => ?_) fun k2 => next (by rw [show (s.Events[m]!.Note == n) = false from k2, Bool.and_false])
      have e3 := S3.len
      have hp : (isSt s.Events[m]! && s.Events[m]!.Note == n) = true := by rw [show isSt s.Events[m]! = true from k1, show (s.Events[m]!.Note == n) = true from k2]; rfl
      refine S3.idn ev_sz (by omega) fun a3 Ra3 => Ra3.lda1 rfl fun ce Re => M.sta0 .here (rsz Re rfl) (rEvent.rone Re) rfl .here fun h7 M2 => M2.lda0 .here (rsz Re rfl) ⟨.yes (find_some (by omega) hf hp) Re, M2.ext⟩
    · unfold spec_l09Start.J5
      exact br_f rfl (next (by rw [show isSt s.Events[m]! = false from k1]; rfl))
  · have hall : ∀ i, i < s.Events.length → (isSt s.Events[i]! && s.Events[i]!.Note == n) = false := fun i hi => hf i (by omega)
    refine M.sta0 .here rfl (rEvent.oone zow_Event) rfl .here fun h7 M => M.lda0 .here rfl ⟨.no (find_none hall), M.ext⟩
theorem l09Voice_J9 {h0 : Heap} {p q : Addr} {s : GScore} {v : GVoice} (R : RdP rScore h p s) (V : RdP rVoice h q v) (X : Ext h0 h) (hi : 0 ≤ v.Instrument ∧ v.Instrument < s.Instruments.length) {r : Bool} (k : bodyOk s v = r) :
    spec_l09Voice.J9 (fun u h' => u = .bool r ∧ Ext h0 h') p q (same v.String z_String) (same v.Pipe z_Pipe) (same v.Bow z_Bow) h := by
  unfold spec_l09Voice.J9
  refine R.oL fun b l c S => V.oI (S.idx (by decide) hi.1 (by rw [← S.len]; exact hi.2) fun a Ra => Ra.oI (br (fun k1 => ?_) fun k1 => br (fun k2 => ?_) fun k2 => ?_))
  · have k : (v.String.ok && same v.Pipe z_Pipe && same v.Bow z_Bow) = r := by rw [← k, bodyOk, if_pos (by simpa using k1)]
    refine goE X (l03Ok_c (V.foc foc_Voice_String)) fun h1 x1 => as_b (br (fun e => br (fun e2 => ⟨?_, x1⟩) fun e2 => ⟨?_, x1⟩) fun e => ⟨?_, x1⟩)
    all_goals (rw [← k]; simp [*])
  · have k : (same v.String z_String && v.Pipe.ok && same v.Bow z_Bow) = r := by rw [← k, bodyOk, if_neg (by simpa using k1), if_pos (by simpa using k2)]
    refine br (fun e => goE X (l04Ok_c (V.foc foc_Voice_Pipe)) fun h1 x1 => as_b (br (fun e2 => ⟨?_, x1⟩) fun e2 => ⟨?_, x1⟩)) fun e => ⟨?_, X⟩
    all_goals (rw [← k]; simp [*])
  · have k : (same v.String z_String && same v.Pipe z_Pipe && v.Bow.ok) = r := by rw [← k, bodyOk, if_neg (by simpa using k1), if_neg (by simpa using k2)]
    refine br (fun e => br (fun e2 => goE X (l05Bow_c (V.foc foc_Voice_Bow)) fun h1 x1 => as_b ⟨?_, x1⟩) fun e2 => ⟨?_, X⟩) fun e => ⟨?_, X⟩
    all_goals (rw [← k]; simp [*])
theorem l09Voice_c {p q : Addr} {s : GScore} {v : GVoice} (R : RdP rScore h p s) (V : RdP rVoice h q v) (hs : s.ok = true) : CALL prg f_spec_l09Voice #[.pointer (some p), .pointer (some q)] (fun u h' => u = .bool (voiceOk s v) ∧ Ext h h') h := by
  have A : ∀ {hh : Heap}, Ext h hh → RdP rScore hh p s := fun e => R.ext e
  have B : ∀ {hh : Heap}, Ext h hh → RdP rVoice hh q v := fun e => V.ext e
  refine spec_l09Voice.call (goX (l09NoString_c (V.foc foc_Voice_String)) fun h1 x1 => as_b (goE x1 (l09NoPipe_c ((B x1).foc foc_Voice_Pipe)) fun h2 x2 => as_b (goE x2 (l09NoBow_c ((B x2).foc foc_Voice_Bow)) fun h3 x3 => as_b ?_)))
  refine (B x3).oI1 (br (fun kn => ?_) fun kn => ?_)
  · have k : voiceOk s v = freeOk v := by rw [voiceOk, if_pos (by simpa using kn)]
    rw [k]
    refine br (fun e1 => br (fun e2 => br (fun e3 => (B x3).oI (br (fun e4 => (B x3).oI (br (fun e5 => (B x3).oB (brN (fun e6 => (B x3).oF fun y hy => goE x3 (l01Same_c hy fw0 _) fun h4 x4 => as_b ⟨?_, x4⟩) fun e6 => ⟨?_, x3⟩)) fun e5 => ⟨?_, x3⟩)) fun e4 => ⟨?_, x3⟩)) fun e3 => ⟨?_, x3⟩) fun e2 => ⟨?_, x3⟩) fun e1 => ⟨?_, x3⟩
    all_goals (rw [freeOk]; simp [*])
  · refine (B x3).oI1 ?_
    have c := l09Start_c (A x3) v.Note
    refine c.mono ?_
    rintro _ h4 ⟨⟨cs, rfl, Re⟩, y4⟩
    have x4 := x3.trans y4
    refine tup2 (as_a (as_b (localR Re rfl rfl fun g h5 y5 E => ?_)))
    have x5 := x4.trans y5
    have k0 : voiceOk s v = match startEv s.Events v.Note with | none => false | some e => (e.Instrument == v.Instrument) && (e.At == v.Born) && fin v.Drive && bodyOk s v := by rw [voiceOk, if_neg (by simpa using kn)]
    cases he : startEv s.Events v.Note with
    | none =>
      rw [he] at k0
      exact br_t rfl ⟨by rw [k0], x5⟩
    | some e =>
      rw [he] at k0
      rw [he] at E
      have E : RdP rEvent h5 ⟨g, 0, none⟩ e := E
      have k0 : voiceOk s v = ((e.Instrument == v.Instrument) && (e.At == v.Born) && fin v.Drive && bodyOk s v) := k0
      refine br_f rfl (E.oI2 ((B x5).oI (br (fun e1 => ⟨?_, x5⟩) fun e1 => E.oI2 ((B x5).oI (br (fun e2 => ⟨?_, x5⟩) fun e2 => (B x5).oF fun y hy => goE x5 (l01Finite_c hy _) fun h6 x6 => as_b (brN (fun e3 => ⟨?_, x6⟩) fun e3 => ?_))))))
      · rw [k0, show (e.Instrument == v.Instrument) = false from by simpa using e1]; rfl
      · rw [k0, show (e.At == v.Born) = false from by simpa using e2]; simp
      · rw [k0, e3]; simp
      · have hi := start_ins hs he
        have ei : e.Instrument = v.Instrument := by simpa using e1
        rw [ei] at hi
        refine l09Voice_J9 (A x6) (B x6) x6 hi ?_
        rw [k0, e3, show (e.Instrument == v.Instrument) = true from by simpa using e1, show (e.At == v.Born) = true from by simpa using e2]; rfl
end
end Go.Sx
