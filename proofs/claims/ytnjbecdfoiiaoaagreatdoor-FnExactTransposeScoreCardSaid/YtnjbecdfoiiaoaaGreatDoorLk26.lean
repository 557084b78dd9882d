/- Lists of instruments: the names differ. -/
import Derived.Test.YtnjbecdfoiiaoaaGreatDoorLk25
set_option linter.unusedVariables false
set_option linter.unusedSimpArgs false
namespace Go.Sx
open Go.Proofs
set_option maxRecDepth 100000
set_option maxHeartbeats 1000000

def instAt (xs : List GInstrument) (i : Nat) : Bool := xs[i]!.ok && (List.range i).all fun k => !decide (xs[k]!.Name = xs[i]!.Name)
def instOk (xs : List GInstrument) : Bool := (List.range xs.length).all (instAt xs)
/-- A function value that tells of each datum whether p holds. -/
def TellsR {α : Type} (P : Program) (r : Rep α) (h0 : Heap) (f : Value) (p : α → Bool) : Prop := ∀ (cs : Array Value) (x : α) h, Ext h0 h → r.rd h cs.toList x → CALLD P f #[.agg cs] (fun u h' => u = .bool (p x) ∧ Ext h h') h
/-- The first elements of a slice. -/
theorem SlR.pre {α : Type} {r : Rep α} {h : Heap} {b : Option Addr} {l c i : Nat} {xs : List α} (S : SlR r h b l c xs) (hi : i < l) (sz : Nat) : SlR r h (slA b c 0 sz) (i - 0) (c - 0) (xs.take i) := by
  obtain ⟨h1, h2, h3, ws, C, R⟩ := S
  obtain ⟨pre, mid, post, e1, rfl, _, R1, _⟩ := R.at (i := i) (by omega)
  have hb : slA b c 0 sz = b := by
    unfold slA
    split
    · rfl
    · cases b with
      | none => rfl
      | some a => rw [Option.map_some, Nat.zero_mul, add0]
  refine ⟨by rw [List.length_take]; omega, by omega, h3, pre, fun k hk => ?_, R1⟩
  rw [hb]
  obtain ⟨a, ha, e⟩ := C k (by rw [List.length_append]; omega)
  exact ⟨a, ha, by rw [e, List.getElem?_append_left hk]⟩
section
variable {h : Heap}
theorem IndexFunc_Instrument_c {b : Option Addr} {l c : Nat} {xs : List GInstrument} {f : Value} {p : GInstrument → Bool} (S : SlR rInstrument h b l c xs) (T : TellsR prg rInstrument h f p) :
    CALL prg f_slices_IndexFunc_sl_impl_Instrument_impl_Instrument #[.slice b l c, f] (fun u h' => u = .int .i64 (firstAt p xs) ∧ Ext h h') h := by
  refine slices_IndexFunc_sl_impl_Instrument_impl_Instrument.call ?_
  have hm2 := S.2.2.1
  have hm3 := S.2.1
  have := maxLen_lt
  have hl := S.len
  refine loop (fun x hh => ∃ n : Nat, x = (b, l, c, f, (l : Int), (n : Int)) ∧ n ≤ l ∧ Ext h hh ∧ ∀ i, i < n → p xs[i]! = false) (fun x => (l - x.2.2.2.2.2).toNat) ⟨0, rfl, by omega, Ext.refl _, fun i hi => by omega⟩ ?_
  rintro x hh ⟨n, rfl, hn, X, hf⟩
  refine brd (fun hc => ?_) fun hc => ⟨by rw [firstAt_none fun i hi => hf i (by omega)], X⟩
  refine (S.ext X).idx (by decide) (by omega) (by omega) fun a Ra => Ra.lda1 rfl fun cs Rc => goD X (T _ _ _ X Rc) fun h1 x1 => as_b (br (fun hb => ?_) fun hb => ?_)
  · exact ⟨by rw [firstAt_some (by omega) hf (by simpa using hb)], x1⟩
  · refine ⟨⟨n + 1, by rw [wrap64_succ (by omega)], by omega, x1, fun i hi => ?_⟩, by rw [wrap64_succ (by omega)]; show _ < _; simp; omega⟩
    by_cases e : i = n
    · subst e; simpa using hb
    · exact hf i (by omega)
theorem rS_rd {s : ByteArray} (hs : s.size ≤ maxLen) : rS.rd h (#[.string s] : Array Value).toList s := ⟨rfl, hs⟩
theorem nameIn_c {b : Option Addr} {l c : Nat} {xs : List GInstrument} {s : ByteArray} (S : SlR rInstrument h b l c xs) (hs : s.size ≤ maxLen) :
    CALL prg f_impl_nameIn #[.slice b l c, .string s] (fun u h' => u = .int .i64 (firstAt (fun x : GInstrument => decide (x.Name = s)) xs) ∧ Ext h h') h := by
  refine impl_nameIn.call (alcR (r := rS) (rS_rd hs) fun g h1 x1 R => ?_)
  have T : TellsR prg rInstrument h1 (.func (.func f_impl_nameIn_c1) #[] #[.pointer (some ⟨g, 0, none⟩)]) (fun x : GInstrument => decide (x.Name = s)) := fun cs x h2 x2 Rc => by
    show CALL prg f_impl_nameIn_c1 #[.agg cs, .pointer (some ⟨g, 0, none⟩)] _ h2
    exact impl_nameIn_c1.call (alcR Rc fun g3 h3 x3 R3 => R3.oS2 fun _ => (R.ext (x2.trans x3)).oS2 fun _ => ⟨by rw [str_eq], x3⟩)
  exact goE x1 (IndexFunc_Instrument_c (S.ext x1) T) fun h2 x2 => as_i ⟨rfl, x2⟩
theorem names_first {xs : List GInstrument} {i : Nat} (hi : i < xs.length) (s : ByteArray) : decide ((0 : Int) ≤ firstAt (fun x : GInstrument => decide (x.Name = s)) (xs.take i)) = !(List.range i).all fun k => !decide (xs[k]!.Name = s) := by
  rw [firstAt_any, Bool.eq_iff_iff]
  simp only [List.any_eq_true, Bool.not_eq_true', List.all_eq_false, List.mem_range, decide_eq_true_eq, Bool.not_eq_true, Bool.not_eq_false', Bool.not_not]
  constructor
  · rintro ⟨x, hx, rfl⟩
    obtain ⟨k, hk, rfl⟩ := List.mem_iff_getElem.1 hx
    rw [List.length_take] at hk
    exact ⟨k, by omega, by rw [List.getElem_take, getElem!_pos xs k (by omega)]; simp⟩
  · rintro ⟨k, hk, e⟩
    refine ⟨xs[k]!, ?_, by simpa using e⟩
    rw [getElem!_pos xs k (by omega)]
    exact List.mem_iff_getElem.2 ⟨k, by rw [List.length_take]; omega, by rw [List.getElem_take]⟩
theorem areInstruments_c {b : Option Addr} {l c : Nat} {xs : List GInstrument} (S : SlR rInstrument h b l c xs) :
    CALL prg f_impl_areInstruments #[.slice b l c] (fun u h' => u = .bool (decide (xs.length ≤ 6) && instOk xs) ∧ Ext h h') h := by
  have hm2 := S.2.2.1
  have hm3 := S.2.1
  have := maxLen_lt
  have hl := S.len
  refine impl_areInstruments.call (brd (fun h6 => ⟨by rw [decide_eq_false (by omega)]; rfl, Ext.refl _⟩) fun h6 => ?_)
  rw [decide_eq_true (p := xs.length ≤ 6) (by omega), Bool.true_and]
  refine loop (fun x hh => ∃ n : Nat, x = (b, l, c, b, l, c, (l : Int), (n : Int)) ∧ n ≤ l ∧ Ext h hh ∧ ∀ i, i < n → instAt xs i = true) (fun x => (l - x.2.2.2.2.2.2.2).toNat) ⟨0, rfl, by omega, Ext.refl _, fun i hi => by omega⟩ ?_
  rintro x hh ⟨n, rfl, hn, X, hd⟩
  have no : ∀ {h'}, n < l → instAt xs n = false → Ext h h' → (Value.bool false = .bool (instOk xs) ∧ Ext h h') := fun e hf x => ⟨by rw [instOk, all_false (f := instAt xs) (by omega) hf], x⟩
  refine brd (fun hc => ?_) fun hc => ⟨by rw [instOk, all_true fun i hi => hd i (by omega)], X⟩
  refine (S.ext X).idn (by decide) (by omega) fun a Ra => Ra.lda1 rfl fun cs Rc => localR Rc rfl rfl fun g h1 x1 R1 => R1.lda1 rfl fun cs' Rc' => goX (ValidInstrument_c Rc') fun h2 y2 => as_b (brN (fun hb => ?_) fun hb => ?_)
  · exact no (by omega) (by rw [instAt, show xs[n]!.ok = false from hb, Bool.false_and]) ((X.trans x1).trans y2)
  have hb : xs[n]!.ok = true := hb
  have x2 := (X.trans x1).trans y2
  refine slb (by omega) (by omega) (by omega) ((R1.ext y2).oS2 fun hs => goE x2 (nameIn_c ((S.ext x2).pre (i := n) (by omega) 5) hs) fun h3 x3 => as_i ?_)
  rw [names_first (by omega)]
  refine br (fun hk => no (by omega) (by rw [instAt, nt hk, Bool.and_false]) x3) fun hk => ⟨⟨n + 1, by rw [wrap64_succ (by omega)], by omega, x3, fun i hi => ?_⟩, by rw [wrap64_succ (by omega)]; show _ < _; simp; omega⟩
  by_cases e : i = n
  · subst e
    rw [instAt, hb, nf hk]; rfl
  · exact hd i (by omega)
end
end Go.Sx
