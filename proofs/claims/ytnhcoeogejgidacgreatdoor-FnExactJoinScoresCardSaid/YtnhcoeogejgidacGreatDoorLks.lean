/- The library's sort of events, as a contract of ours. -/
import Derived.Test.YtnhcoeogejgidacGreatDoorLm14
import Derived.Test.YtnhcoeogejgidacGreatDoorLh0
import Derived.Test.YtnhcoeogejgidacGreatDoorSF
import Derived.Test.YtnhcoeogejgidacGreatDoorLg
import Derived.Test.YtnhcoeogejgidacGreatDoorTabE
import Derived.Test.YtnhcoeogejgidacGreatDoorLp7
import Derived.Test.YtnhcoeogejgidacGreatDoorLr6
import Derived.Test.YtnhcoeogejgidacGreatDoorLm13
import Derived.Test.YtnhcoeogejgidacGreatDoorTab
set_option linter.unusedVariables false
set_option linter.unusedSimpArgs false
namespace Go.Sx
open Go.Proofs Go.Sort Go.RowKit
set_option maxRecDepth 100000
set_option maxHeartbeats 1000000

section
variable {h : Heap}
theorem Sort_none {b : Option Addr} {c : Nat} {fv : Value} : CALL prg f_slices_SortFunc_sl_impl_Event_impl_Event #[.slice b 0 c, fv] (fun u h' => u = .tuple ⟨[]⟩ ∧ Ext h h') h := by
  refine slices_SortFunc_sl_impl_Event_impl_Event.call ((Len_c (l := 0) (by omega)).mono ?_)
  rintro _ h1 ⟨⟨n, rfl⟩, x1⟩
  have ins : ∀ h1, CALL prg f_slices_insertionSortCmpFunc_impl_Event #[.slice b 0 c, .int .i64 0, .int .i64 0, fv] (fun u h' => u = .tuple ⟨[]⟩ ∧ Ext h1 h') h1 := fun h1 => by
    refine slices_insertionSortCmpFunc_impl_Event.call ?_
    refine loop (fun y hh => ∃ i : Int, y = (b, 0, c, (0 : Int), (0 : Int), fv, i) ∧ 1 ≤ i ∧ Ext h1 hh) (fun _ => 0) ⟨1, rfl, by omega, Ext.refl _⟩ ?_
    rintro y hh ⟨i, rfl, hi, X⟩
    refine brd (fun k => ?_) fun _ => ⟨rfl, X⟩
    omega
  have pd : CALL prg f_slices_pdqsortCmpFunc_impl_Event #[.slice b 0 c, .int .i64 0, .int .i64 0, .int .i64 n, fv] (fun u h' => u = .tuple ⟨[]⟩ ∧ Ext h1 h') h1 := by
    refine slices_pdqsortCmpFunc_impl_Event.call ?_
    refine loop (fun y hh => ∃ z : Int, y = (b, 0, c, z, z, n, fv, true, true) ∧ z = 0 ∧ Ext h1 hh) (fun _ => 0) ⟨0, rfl, rfl, Ext.refl _⟩ ?_
    rintro y hh ⟨z, rfl, hz, X⟩
    refine brd (fun _ => ?_) fun k => ?_
    · subst hz
      exact goE X (ins hh) fun h3 x3 => ⟨rfl, x3⟩
    · subst hz
      exact absurd (show IntKind.i64.wrap ((0 : Int) - 0) ≤ 12 by decide) k
  exact as_i (goE x1 pd fun h2 x2 => ⟨rfl, x2⟩)
theorem enters_c1 (args : Array Value) (w : World) : (callFunc f_impl_compareEvents_c1 args).run prg w = .ok (.enter f_impl_compareEvents_c1 args) w := by
  unfold callFunc
  simp only [Sem.run_bind, run_program, Result.andThen_ok, Md.impl_compareEvents_c1.fn]
  rfl
theorem SortEvents_c {h0 : Heap} {B L : List Blk} {b : Option Addr} {l c g gc : Nat} {es : List GEvent} (O : SlO T_impl_Event rEvent B b l c es) (M : Mem h0 h (B ++ L)) (hc : cell h ⟨gc, 0, none⟩ = some (.map (some g))) (MI : MapI h g (ownM es))
    (hd : ∀ p ∈ B, p.1 ≠ g ∧ p.1 ≠ gc) (hl : l ≤ 4294967296) :
    CALL prg f_slices_SortFunc_sl_impl_Event_impl_Event #[.slice b l c, .func (.func f_impl_compareEvents_c1) #[] #[.pointer (some ⟨gc, 0, none⟩)]]
      (fun u h' => u = .tuple ⟨[]⟩ ∧ ∃ B' m, SlO T_impl_Event rEvent B' b l c m ∧ Mem h0 h' (B' ++ L) ∧ m.Perm es ∧ ∀ x y, x < y → y < m.length → lt4 (keyM es m[y]!) (keyM es m[x]!) = false) h := by
  have hlen : es.length = l := O.1
  by_cases hz : l = 0
  · subst hz
    refine Sort_none.mono ?_
    rintro _ h1 ⟨rfl, x1⟩
    exact ⟨rfl, B, es, O, M.grow x1, List.Perm.refl _, fun x y h1 h2 => by omega⟩
  obtain ⟨_, ws, B1, B2, rfl, Ow, h3⟩ := O
  rcases Ow.2 with ⟨_, _, h4, _⟩ | ⟨g0, cs, rfl, rfl, h5, h6, h7, h8⟩
  · omega
  have h7 : cs.size = c * 6 := h7
  have h8 : cs.toList.take (l * 6) = ws := h8
  have M1 : Mem h0 h ((g0, T_impl_Event, cs) :: (B2 ++ L)) := by simpa using M
  obtain ⟨d, e1, e2⟩ := encs_of (h3.look M1 ((List.sublist_append_left _ _).trans (List.sublist_cons_self _ _)))
  have hdl : d.length = l := by rw [← hlen, ← e1, List.length_map]
  obtain ⟨n1, n2⟩ := hd (g0, T_impl_Event, cs) (by simp)
  have n1 : g0 ≠ g := n1
  have n2 : g0 ≠ gc := n2
  have hb : g0 < h.size := M1.lt (.head _)
  obtain ⟨nm, k1, k2⟩ := LS.f6
  refine CALL_of_calls k2 rfl k1 fun w hw => ?_
  subst hw
  have hH : HoldsK encE 6 w g0 0 d.toArray := by
    intro j hj
    rw [Go.Sort.size_flatK] at hj
    have hj : j < d.length * 6 := hj
    constructor
    · rw [Nat.zero_add, cell_eq, M1.cell .here]
      have : cs[j]? = (cs.toList.take (l * 6))[j]? := by rw [List.getElem?_take_of_lt (by omega), Array.getElem?_toList]
      rw [this, h8, e2, flat_get hj, Go.Sort.get_flatK encE 6 d.toArray j hj]; rfl
    · rw [froz_eq]
      exact M1.froz .here _
  have hsz : d.toArray.size = l := hdl
  have key := AnyQ.slices_SortFunc LS 6 aES zES encE encE_len encE_one (cfE es) (swoE es) f_impl_compareEvents_c1 #[.pointer (some ⟨gc, 0, none⟩)] g0 0 c d.toArray w enters_c1 (cmp_lays hc MI (Ne.symm n1) (Ne.symm n2)) hH hb (by rw [hsz]; omega)
  rw [hsz] at key
  refine Calls.mono key ?_
  rintro e w' ⟨rfl, d', n, os, ⟨p1, _, p3⟩, so, rfl⟩
  obtain ⟨dl⟩ := d'
  have hdl' : dl.length = l := by rw [← hsz]; exact p1
  have p3 : dl.Perm d := by
    have a1 : (Array.extract (⟨dl⟩ : Array REv) 0 l).toList = dl := by simp [← hdl']
    have a2 : (Array.extract d.toArray 0 l).toList = d := by simp [← hdl]
    rw [a1, a2] at p3
    exact p3
  refine ⟨_, rfl, ⟨rfl, rfl, rfl, fun e => by cases e⟩, rfl, [(g0, T_impl_Event, Go.Sort.putCells id 0 (Go.Sort.flatK encE 6 dl.toArray) cs)], dl.map (fun x => x.1.1), ⟨by rw [List.length_map, hdl'], (dl.map encE).flatten, [(g0, T_impl_Event, Go.Sort.putCells id 0 (Go.Sort.flatK encE 6 dl.toArray) cs)], [], rfl, ⟨?_, .inr ⟨g0, _, rfl, rfl, h5, h6, ?_, ?_⟩⟩, encs_ow dl⟩, ?_, ?_, fun x y hxy hy => ?_⟩
  · rw [encs_len, hdl']; rfl
  · show (Array.mapIdx _ cs).size = _
    rw [Array.size_mapIdx]; exact h7
  · have := take_put (d := dl) (cs := cs) (by rw [hdl', h7]; exact Nat.mul_le_mul_right _ h5)
    rw [hdl'] at this
    exact this
  · exact (M1.sorted (d := dl)).sub (List.Sublist.cons_cons _ (List.sublist_append_right _ _))
  · rw [← e1]; exact p3.map _
  · rw [List.length_map] at hy
    have := so x y (Nat.zero_le _) hxy (by omega)
    rw [cfE_lt] at this
    rw [getElem!_pos _ y (by rw [List.length_map]; exact hy), getElem!_pos _ x (by rw [List.length_map]; omega), List.getElem_map, List.getElem_map]
    have g1 : (⟨dl⟩ : Array REv)[y]! = dl[y] := by rw [getElem!_pos (⟨dl⟩ : Array REv) y hy]; rfl
    have g2 : (⟨dl⟩ : Array REv)[x]! = dl[x]'(by omega) := by rw [getElem!_pos (⟨dl⟩ : Array REv) x (show x < dl.length by omega)]; rfl
    rw [g1, g2] at this
    exact this
end
end Go.Sx
/- How Note, Work lie in cells; their parts; given ones opened. -/
set_option linter.unusedVariables false
set_option linter.unusedSimpArgs false
namespace Go.Sx
open Go.Proofs
def rNote : Rep GNote := (Rep.seq (rI .i64) (Rep.seq (rI .i64) (Rep.seq (rI .i64) (Rep.seq (rI .i64) ((rF .f32)))))).via fun a => (a.At, a.End, a.Instrument, a.Key, a.Force)
theorem foc_Note_At : Foc rNote (rI .i64) 0 (fun a => a.At) (fun a b => { a with At := b }) := (Foc.via (f := fun a : GNote => (a.At, a.End, a.Instrument, a.Key, a.Force)) (get' := fun a => a.At) (put' := fun a b => { a with At := b }) (Foc.fst (Foc.here (rI .i64))) (fun _ => rfl) (fun _ _ => rfl)).at rfl
theorem foc_Note_End : Foc rNote (rI .i64) 1 (fun a => a.End) (fun a b => { a with End := b }) := (Foc.via (f := fun a : GNote => (a.At, a.End, a.Instrument, a.Key, a.Force)) (get' := fun a => a.End) (put' := fun a b => { a with End := b }) (Foc.snd (Foc.fst (Foc.here (rI .i64)))) (fun _ => rfl) (fun _ _ => rfl)).at rfl
theorem foc_Note_Instrument : Foc rNote (rI .i64) 2 (fun a => a.Instrument) (fun a b => { a with Instrument := b }) := (Foc.via (f := fun a : GNote => (a.At, a.End, a.Instrument, a.Key, a.Force)) (get' := fun a => a.Instrument) (put' := fun a b => { a with Instrument := b }) (Foc.snd (Foc.snd (Foc.fst (Foc.here (rI .i64))))) (fun _ => rfl) (fun _ _ => rfl)).at rfl
theorem foc_Note_Key : Foc rNote (rI .i64) 3 (fun a => a.Key) (fun a b => { a with Key := b }) := (Foc.via (f := fun a : GNote => (a.At, a.End, a.Instrument, a.Key, a.Force)) (get' := fun a => a.Key) (put' := fun a b => { a with Key := b }) (Foc.snd (Foc.snd (Foc.snd (Foc.fst (Foc.here (rI .i64)))))) (fun _ => rfl) (fun _ _ => rfl)).at rfl
theorem foc_Note_Force : Foc rNote (rF .f32) 4 (fun a => a.Force) (fun a b => { a with Force := b }) := (Foc.via (f := fun a : GNote => (a.At, a.End, a.Instrument, a.Key, a.Force)) (get' := fun a => a.Force) (put' := fun a b => { a with Force := b }) (Foc.snd (Foc.snd (Foc.snd (Foc.snd (Foc.here (rF .f32)))))) (fun _ => rfl) (fun _ _ => rfl)).at rfl
def z_Note : GNote := ⟨0, 0, 0, 0, 0⟩
theorem zow_Note : rNote.ow [] [Value.int .i64 (0 : Int), Value.int .i64 (0 : Int), Value.int .i64 (0 : Int), Value.int .i64 (0 : Int), Value.float .f32 0] z_Note := ⟨[], [], [Value.int .i64 (0 : Int)], [Value.int .i64 (0 : Int), Value.int .i64 (0 : Int), Value.int .i64 (0 : Int), Value.float .f32 0], rfl, rfl, ⟨rfl, rfl⟩, ⟨[], [], [Value.int .i64 (0 : Int)], [Value.int .i64 (0 : Int), Value.int .i64 (0 : Int), Value.float .f32 0], rfl, rfl, ⟨rfl, rfl⟩, ⟨[], [], [Value.int .i64 (0 : Int)], [Value.int .i64 (0 : Int), Value.float .f32 0], rfl, rfl, ⟨rfl, rfl⟩, ⟨[], [], [Value.int .i64 (0 : Int)], [Value.float .f32 0], rfl, rfl, ⟨rfl, rfl⟩, ⟨rfl, 0, rfl, fw_c32 (by decide) (by decide)⟩⟩⟩⟩⟩
instance lf_Note_0 : FocC rNote 0 (rI .i64) (fun a => a.At) (fun a b => { a with At := b }) := ⟨Foc.at foc_Note_At rfl⟩
instance lf_Note_1 : FocC rNote 1 (rI .i64) (fun a => a.End) (fun a b => { a with End := b }) := ⟨Foc.at foc_Note_End rfl⟩
instance lf_Note_2 : FocC rNote 2 (rI .i64) (fun a => a.Instrument) (fun a b => { a with Instrument := b }) := ⟨Foc.at foc_Note_Instrument rfl⟩
instance lf_Note_3 : FocC rNote 3 (rI .i64) (fun a => a.Key) (fun a b => { a with Key := b }) := ⟨Foc.at foc_Note_Key rfl⟩
instance lf_Note_4 : FocC rNote 4 (rF .f32) (fun a => a.Force) (fun a b => { a with Force := b }) := ⟨Foc.at foc_Note_Force rfl⟩
end Go.Sx
/- What functions of this seat's program compute, told in words (a predicate over heaps for each), and the proofs that the words are no more than the code's own weakest precondition. -/
namespace Go.Sx
open Go.Proofs
set_option linter.unusedVariables false
set_option maxRecDepth 100000

def spec_l08Copy.S (s_0 : Addr) (Post : Value → Heap → Prop) (h : Heap) : Prop :=
    ALC ⟨Z_impl_Score⟩ T_impl_Score (fun g1 h2 =>
    LDA 6 h2 s_0 fun a3 =>
    ALC ⟨Z_impl_Score⟩ T_impl_Score (fun g4 h5 =>
    STA 6 h5 ⟨g4, 0, none⟩ a3 fun h6 =>
    ALC ⟨[]⟩ T_float32 (fun g7 h8 =>
    oL (cell h8 (Addr.add s_0 3)) fun l9b l9l l9c =>
    SEMV prg (Builtin.append_ #[T_sl_float32, T_sl_float32] T_sl_float32 #[.slice (some ⟨g7, 0, none⟩) 0 0, .slice l9b l9l l9c]) (fun q10 h11 =>
    asL q10 fun l12b l12l l12c =>
    ST1 h11 ⟨g4, 3, none⟩ (.slice l12b l12l l12c) fun h13 =>
    ALC ⟨[]⟩ T_impl_Instrument (fun g14 h15 =>
    oL (cell h15 (Addr.add s_0 4)) fun l16b l16l l16c =>
    SEMV prg (Builtin.append_ #[T_sl_impl_Instrument, T_sl_impl_Instrument] T_sl_impl_Instrument #[.slice (some ⟨g14, 0, none⟩) 0 0, .slice l16b l16l l16c]) (fun q17 h18 =>
    asL q17 fun l19b l19l l19c =>
    ST1 h18 ⟨g4, 4, none⟩ (.slice l19b l19l l19c) fun h20 =>
    ALC ⟨[]⟩ T_impl_Event (fun g21 h22 =>
    oL (cell h22 (Addr.add s_0 5)) fun l23b l23l l23c =>
    SEMV prg (Builtin.append_ #[T_sl_impl_Event, T_sl_impl_Event] T_sl_impl_Event #[.slice (some ⟨g21, 0, none⟩) 0 0, .slice l23b l23l l23c]) (fun q24 h25 =>
    asL q24 fun l26b l26l l26c =>
    ST1 h25 ⟨g4, 5, none⟩ (.slice l26b l26l l26c) fun h27 =>
    LDA 6 h27 ⟨g4, 0, none⟩ fun a28 =>
    STA 6 h27 ⟨g1, 0, none⟩ a28 fun h29 =>
    LDA 6 h29 ⟨g1, 0, none⟩ fun a30 =>
    Post (.agg a30) h29) h22) h20) h15) h13) h8) h6) h2) h
noncomputable def spec_l08Copy.code : Code := (Tryz.f35.body).getD .skip
theorem spec_l08Copy.call {s_0 : Addr} {Post : Value → Heap → Prop} {h : Heap} (H : spec_l08Copy.S s_0 Post h) : CALL prg f_spec_l08Copy #[.pointer (some s_0)] Post h :=
  fn_call tau_ok mixed (c := spec_l08Copy.code) (Λ := lookL []) Tryz.func35 (by kernel_rfl) (by kernel_rfl)
    (Rq.free (by kernel_rfl))
    (Eq.mp (by kernel_rfl) H)

def slices_Clone_sl_impl_Instrument_impl_Instrument.S (s_0b : Option Addr) (s_0l s_0c : Nat) (Post : Value → Heap → Prop) (h : Heap) : Prop :=
    CMP prg .eql T_sl_impl_Instrument (.tmp 3) (.const (.slice none 0 0)) (.slice s_0b s_0l s_0c) (.slice none 0 0) (fun b1 h2 =>
    BIF b1 (
    Post (.slice none 0 0) h2) (
    ALC ⟨[]⟩ T_impl_Instrument (fun g3 h4 =>
    SEMV prg (Builtin.append_ #[T_sl_impl_Instrument, T_sl_impl_Instrument] T_sl_impl_Instrument #[.slice (some ⟨g3, 0, none⟩) 0 0, .slice s_0b s_0l s_0c]) (fun q5 h6 =>
    asL q5 fun l7b l7l l7c =>
    Post (.slice l7b l7l l7c) h6) h4) h2)) h
noncomputable def slices_Clone_sl_impl_Instrument_impl_Instrument.code : Code := (Tryz.f106.body).getD .skip
theorem slices_Clone_sl_impl_Instrument_impl_Instrument.call {s_0b : Option Addr} {s_0l s_0c : Nat} {Post : Value → Heap → Prop} {h : Heap} (H : slices_Clone_sl_impl_Instrument_impl_Instrument.S s_0b s_0l s_0c Post h) : CALL prg f_slices_Clone_sl_impl_Instrument_impl_Instrument #[.slice s_0b s_0l s_0c] Post h :=
  fn_call tau_ok mixed (c := slices_Clone_sl_impl_Instrument_impl_Instrument.code) (Λ := lookL []) Tryz.func106 (by kernel_rfl) (by kernel_rfl)
    (Rq.free (by kernel_rfl))
    (Eq.mp (by kernel_rfl) H)

def slices_Clone_sl_impl_Event_impl_Event.S (s_0b : Option Addr) (s_0l s_0c : Nat) (Post : Value → Heap → Prop) (h : Heap) : Prop :=
    CMP prg .eql T_sl_impl_Event (.tmp 3) (.const (.slice none 0 0)) (.slice s_0b s_0l s_0c) (.slice none 0 0) (fun b1 h2 =>
    BIF b1 (
    Post (.slice none 0 0) h2) (
    ALC ⟨[]⟩ T_impl_Event (fun g3 h4 =>
    SEMV prg (Builtin.append_ #[T_sl_impl_Event, T_sl_impl_Event] T_sl_impl_Event #[.slice (some ⟨g3, 0, none⟩) 0 0, .slice s_0b s_0l s_0c]) (fun q5 h6 =>
    asL q5 fun l7b l7l l7c =>
    Post (.slice l7b l7l l7c) h6) h4) h2)) h
noncomputable def slices_Clone_sl_impl_Event_impl_Event.code : Code := (Tryz.f107.body).getD .skip
theorem slices_Clone_sl_impl_Event_impl_Event.call {s_0b : Option Addr} {s_0l s_0c : Nat} {Post : Value → Heap → Prop} {h : Heap} (H : slices_Clone_sl_impl_Event_impl_Event.S s_0b s_0l s_0c Post h) : CALL prg f_slices_Clone_sl_impl_Event_impl_Event #[.slice s_0b s_0l s_0c] Post h :=
  fn_call tau_ok mixed (c := slices_Clone_sl_impl_Event_impl_Event.code) (Λ := lookL []) Tryz.func107 (by kernel_rfl) (by kernel_rfl)
    (Rq.free (by kernel_rfl))
    (Eq.mp (by kernel_rfl) H)

def impl_Score_clone.S (s_0 : Array Value) (Post : Value → Heap → Prop) (h : Heap) : Prop :=
    ALC s_0 T_impl_Score (fun g1 h2 =>
    ALC ⟨Z_impl_Score⟩ T_impl_Score (fun g3 h4 =>
    oL (cell h4 ⟨g1, 3, none⟩) fun l5b l5l l5c =>
    oL (cell h4 ⟨g1, 4, none⟩) fun l6b l6l l6c =>
    oL (cell h4 ⟨g1, 5, none⟩) fun l7b l7l l7c =>
    CALL prg f_slices_Clone_sl_float32_float32 #[.slice l5b l5l l5c] (fun q8 h9 =>
    asL q8 fun l10b l10l l10c =>
    PIN h4 ⟨g1, 5, none⟩ 1 h9 <|
    PIN h4 ⟨g1, 4, none⟩ 1 h9 <|
    CALL prg f_slices_Clone_sl_impl_Instrument_impl_Instrument #[.slice l6b l6l l6c] (fun q11 h12 =>
    asL q11 fun l13b l13l l13c =>
    PIN h4 ⟨g1, 5, none⟩ 1 h12 <|
    CALL prg f_slices_Clone_sl_impl_Event_impl_Event #[.slice l7b l7l l7c] (fun q14 h15 =>
    asL q14 fun l16b l16l l16c =>
    ST1 h15 ⟨g1, 3, none⟩ (.slice l10b l10l l10c) fun h17 =>
    ST1 h17 ⟨g1, 4, none⟩ (.slice l13b l13l l13c) fun h18 =>
    ST1 h18 ⟨g1, 5, none⟩ (.slice l16b l16l l16c) fun h19 =>
    LDA 6 h19 ⟨g1, 0, none⟩ fun a20 =>
    STA 6 h19 ⟨g3, 0, none⟩ a20 fun h21 =>
    LDA 6 h21 ⟨g3, 0, none⟩ fun a22 =>
    Post (.agg a22) h21) h12) h9) h4) h2) h
noncomputable def impl_Score_clone.code : Code := (Tryz.f46.body).getD .skip
theorem impl_Score_clone.call {s_0 : Array Value} {Post : Value → Heap → Prop} {h : Heap} (H : impl_Score_clone.S s_0 Post h) : CALL prg f_impl_Score_clone #[.agg s_0] Post h :=
  fn_call tau_ok mixed (c := impl_Score_clone.code) (Λ := lookL []) Tryz.func46 (by kernel_rfl) (by kernel_rfl)
    (Rq.free (by kernel_rfl))
    (Eq.mp (by kernel_rfl) H)

end Go.Sx
