/- How Voice, Player lie in cells; their parts; given ones opened. -/
import Derived.Test.YtnhcoeogejgidabGreatDoorLg
import Derived.Test.YtnhcoeogejgidabGreatDoorLp2
import Derived.Test.YtnhcoeogejgidabGreatDoorLp5
import Derived.Test.YtnhcoeogejgidabGreatDoorTabE
import Derived.Test.YtnhcoeogejgidabGreatDoorLk24
import Derived.Test.YtnhcoeogejgidabGreatDoorLpx
import Derived.MapKept
set_option linter.unusedVariables false
set_option linter.unusedSimpArgs false
namespace Go.Sx
open Go.Proofs
def z_Voice : GVoice := ⟨0, 0, 0, false, 0, z_String, z_Pipe, z_Bow⟩
end Go.Sx
/- Data that are the same, told field by field. -/
set_option linter.unusedVariables false
set_option linter.unusedSimpArgs false
namespace Go.Sx
open Go.Proofs
set_option maxRecDepth 100000
set_option maxHeartbeats 1000000

/-- Whether two data are the same. -/
noncomputable def same {α : Type} (x y : α) : Bool := @decide (x = y) (Classical.propDecidable _)
theorem brN {b : Bool} {p q : Prop} (ht : b = false → p) (hf : b = true → q) : BIF (!b) p q := br (fun h => ht (nt h)) fun h => hf (nf h)
/-- A call that changes nothing, and what follows, from some earlier memory on. -/
theorem goE {P : Program} {f : FuncId} {args : Array Value} {v : Value} {h0 h : Heap} {K : Value → Heap → Prop} (E : Ext h0 h) (c : CALL P f args (fun u h' => u = v ∧ Ext h h') h) (H : ∀ h', Ext h0 h' → K v h') : CALL P f args K h :=
  c.mono fun u h' ⟨e, x⟩ => by subst e; exact H h' (E.trans x)
theorem goD {P : Program} {f : Value} {args : Array Value} {v : Value} {h0 h : Heap} {K : Value → Heap → Prop} (E : Ext h0 h) (c : CALLD P f args (fun u h' => u = v ∧ Ext h h') h) (H : ∀ h', Ext h0 h' → K v h') : CALLD P f args K h :=
  CALLD.mono (fun u h' ⟨e, x⟩ => by subst e; exact H h' (E.trans x)) c
end Go.Sx
/- Tunings and instruments: the rule's and the program's. -/
set_option linter.unusedVariables false
set_option linter.unusedSimpArgs false
namespace Go.Sx
open Go.Proofs
set_option maxRecDepth 100000
set_option maxHeartbeats 1000000

/-- A local copy of a value that was read. -/
theorem localR {α : Type} {r : Rep α} {h : Heap} {x : α} {T n : Nat} {z cs : Array Value} {F : Nat → Heap → Prop} (R : r.rd h cs.toList x) (hz : z.size = n) (hn : r.sz = n)
    (H : ∀ g h', Ext h h' → RdP r h' ⟨g, 0, none⟩ x → F g h') : ALC z T (fun g h1 => STA n h1 ⟨g, 0, none⟩ cs fun h2 => F g h2) h :=
  (Mem.start h).alc fun g h1 x1 M => M.sta0 .here (rsz R hn) (r.rone R) hz .here fun h2 M => H g h2 M.ext (M.rdp .here (r.ext M.ext R))
def degAt (t : GTuning) (i : Nat) : Bool := flt .f32 t.Degrees[i]! t.Octave && (i == 0 || fgt .f32 t.Degrees[i]! t.Degrees[i - 1]!)
def GTuning.ok (t : GTuning) : Bool := inside t.Base 1065353216 1184645120 && inside t.Octave 1065353216 1167458304 && inR t.Degrees.length 1 31 && (t.Degrees[0]! == 0) && (List.range t.Degrees.length).all (degAt t)
def place (a : Nat) : Bool := fge .f32 a 0 && flt .f32 a 1065353216
def GInstrument.ok (x : GInstrument) : Bool := nameOk x.Name && inside x.B 0 1065353216 &&
  if x.Kind = 1 then inside x.A 0 1056964608 && place x.C else if x.Kind = 2 then place x.A && (feq .f32 x.C 0 || feq .f32 x.C 1065353216) else if x.Kind = 3 then place x.A && fin x.C else false
section
variable {h : Heap} {x a : Nat}
theorem c1 : FW .f32 1065353216 1065353216 := fw_c32 (by decide) (by decide)
theorem c05 : FW .f32 1056964608 1056964608 := fw_c32 (by decide) (by decide)
theorem cB : FW .f32 1184645120 1184645120 := fw_c32 (by decide) (by decide)
theorem SlR.at0 {α : Type} {r : Rep α} {b : Option Addr} {l c : Nat} {xs : List α} [Inhabited α] {F : Addr → Prop} (S : SlR r h b l c xs) (hz : 0 < r.sz) (h2 : 0 < l) (H : ∀ a, RdP r h a xs[0]! → F a) : IDXS b (0 : Int) l F :=
  S.idx hz (by omega) (by omega) fun a R => by
    have e : a.add ((0 : Int).toNat * r.sz) = a := by rw [show (0 : Int).toNat = 0 from rfl, Nat.zero_mul, add0]
    rw [e] at R
    exact H a R
theorem SlR.idn {α : Type} {r : Rep α} {b : Option Addr} {l c n : Nat} {xs : List α} [Inhabited α] {F : Addr → Prop} (S : SlR r h b l c xs) (hz : 0 < r.sz) (h2 : n < l) (H : ∀ a, RdP r h (a.add ((n : Int).toNat * r.sz)) xs[n]! → F a) : IDXS b (n : Int) l F :=
  S.idx hz (by omega) (by omega) H
theorem isBase_c (hx : FW .f32 x a) : Ret prg f_impl_isBase #[.float .f32 x] (.bool (inside a 1065353216 1184645120)) := fun h =>
  impl_isBase.call ((inside_c hx c1 cB).go fun h1 x1 => as_b ⟨rfl, x1⟩)
theorem isPlace_c (hx : FW .f32 x a) : Ret prg f_impl_isPlace #[.float .f32 x] (.bool (place a)) := fun h => by
  refine impl_isPlace.call ?_
  rw [impl_isPlace.S, ord_eq hx fw0, ord_eq hx c1]
  exact br (fun hb => ⟨by rw [place, fge, hb]; rfl, Ext.refl _⟩) fun hb => ⟨by rw [place, fge, hb]; rfl, Ext.refl _⟩
theorem isKeep_c (hx : FW .f32 x a) : Ret prg f_impl_isKeep #[.float .f32 x] (.bool (place a)) := fun h => by
  refine impl_isKeep.call ?_
  rw [impl_isKeep.S, ord_eq hx fw0, ord_eq hx c1]
  exact br (fun hb => ⟨by rw [place, fge, hb]; rfl, Ext.refl _⟩) fun hb => ⟨by rw [place, fge, hb]; rfl, Ext.refl _⟩
theorem ValidInstrument_c {cs : Array Value} {x : GInstrument} (R0 : rInstrument.rd h cs.toList x) : CALL prg f_impl_ValidInstrument #[.agg cs] (fun u h' => u = .bool x.ok ∧ Ext h h') h := by
  refine impl_ValidInstrument.call (alcR R0 fun g h0 x0 R => R.oS2 fun hs => goE (Ext.refl h0) (isName_c _ hs _) fun h1 x1 => as_b (brN (fun hn => ⟨by rw [GInstrument.ok, hn]; rfl, x0.trans x1⟩) fun hn => (R.ext x1).oF2 fun y hy => goE x1 (inside_c hy fw0 c1 _) fun h2 x2 => as_b (brN (fun hb => ⟨by rw [GInstrument.ok, hb]; simp, x0.trans x2⟩) fun hb => ?_)))
  have R2 := R.ext x2
  have k : x.ok = if x.Kind = 1 then inside x.A 0 1056964608 && place x.C else if x.Kind = 2 then place x.A && (feq .f32 x.C 0 || feq .f32 x.C 1065353216) else if x.Kind = 3 then place x.A && fin x.C else false := by rw [GInstrument.ok, hn, hb]; rfl
  refine R2.oI (br (fun e1 => ?_) fun e1 => br (fun e2 => ?_) fun e2 => br (fun e3 => ?_) fun e3 => ?_)
  · rw [if_pos (by simpa using e1)] at k
    refine R2.oF fun y hy => goE x2 (inside_c hy fw0 c05 _) fun h3 x3 => as_b (br (fun d => ?_) fun d => ⟨by rw [k, d]; rfl, x0.trans x3⟩)
    exact (R.ext x3).oF fun y hy => goE x3 (isPlace_c hy _) fun h4 x4 => as_b ⟨by rw [k, d]; rfl, x0.trans x4⟩
  · rw [if_neg (by simpa using e1), if_pos (by simpa using e2)] at k
    refine R2.oF fun y hy => goE x2 (isKeep_c hy _) fun h3 x3 => as_b (br (fun d => ?_) fun d => ⟨by rw [k, d]; rfl, x0.trans x3⟩)
    refine (R.ext x3).oF fun y hy => ?_
    rw [ord_eq hy fw0]
    refine br (fun d2 => ⟨by rw [k, d, show feq .f32 x.C 0 = true from d2]; rfl, x0.trans x3⟩) fun d2 => (R.ext x3).oF fun y hy => ?_
    rw [ord_eq hy c1]
    exact ⟨by rw [k, d, show feq .f32 x.C 0 = false from d2]; rfl, x0.trans x3⟩
  · rw [if_neg (by simpa using e1), if_neg (by simpa using e2), if_pos (by simpa using e3)] at k
    refine R2.oF fun y hy => goE x2 (isKeep_c hy _) fun h3 x3 => as_b (br (fun d => ?_) fun d => ⟨by rw [k, d]; rfl, x0.trans x3⟩)
    exact (R.ext x3).oF fun y hy => goE x3 (isFinite_c hy _) fun h4 x4 => as_b ⟨by rw [k, d]; rfl, x0.trans x4⟩
  · rw [if_neg (by simpa using e1), if_neg (by simpa using e2), if_neg (by simpa using e3)] at k
    exact ⟨by rw [k], x0.trans x2⟩
end
end Go.Sx
/- Lists of instruments: the names differ. -/
set_option linter.unusedVariables false
set_option linter.unusedSimpArgs false
namespace Go.Sx
open Go.Proofs
set_option maxRecDepth 100000
set_option maxHeartbeats 1000000

def instAt (xs : List GInstrument) (i : Nat) : Bool := xs[i]!.ok && (List.range i).all fun k => !decide (xs[k]!.Name = xs[i]!.Name)
def instOk (xs : List GInstrument) : Bool := (List.range xs.length).all (instAt xs)
/-- A function value that tells of each datum whether p holds. -/
def TellsR {α : Type} (P : Program) (r : Rep α) (h0 : Heap) (f : Value) (p : α → Bool) : Prop := ∀ (cs : Array Value) (x : α) h, Ext h0 h → r.rd h cs.toList x → CALLD P f #[.agg cs] (fun u h' => u = .bool (p x) ∧ Ext h h') h
/-- The first elements of a slice. -/
theorem SlR.pre {α : Type} {r : Rep α} {h : Heap} {b : Option Addr} {l c i : Nat} {xs : List α} (S : SlR r h b l c xs) (hi : i < l) (sz : Nat) : SlR r h (slA b c 0 sz) (i - 0) (c - 0) (xs.take i) := by
  obtain ⟨h1, h2, h3, ws, C, R⟩ := S
  obtain ⟨pre, mid, post, e1, rfl, _, R1, _⟩ := R.at (i := i) (by omega)
  have hb : slA b c 0 sz = b := by
    unfold slA
    split
    · rfl
    · cases b with
      | none => rfl
      | some a => rw [Option.map_some, Nat.zero_mul, add0]
  refine ⟨by rw [List.length_take]; omega, by omega, h3, pre, fun k hk => ?_, R1⟩
  rw [hb]
  obtain ⟨a, ha, e⟩ := C k (by rw [List.length_append]; omega)
  exact ⟨a, ha, by rw [e, List.getElem?_append_left hk]⟩
section
variable {h : Heap}
theorem IndexFunc_Instrument_c {b : Option Addr} {l c : Nat} {xs : List GInstrument} {f : Value} {p : GInstrument → Bool} (S : SlR rInstrument h b l c xs) (T : TellsR prg rInstrument h f p) :
    CALL prg f_slices_IndexFunc_sl_impl_Instrument_impl_Instrument #[.slice b l c, f] (fun u h' => u = .int .i64 (firstAt p xs) ∧ Ext h h') h := by
  refine slices_IndexFunc_sl_impl_Instrument_impl_Instrument.call ?_
  have hm2 := S.2.2.1
  have hm3 := S.2.1
  have := maxLen_lt
  have hl := S.len
  refine loop (fun x hh => ∃ n : Nat, x = (b, l, c, f, (l : Int), (n : Int)) ∧ n ≤ l ∧ Ext h hh ∧ ∀ i, i < n → p xs[i]! = false) (fun x => (l - x.2.2.2.2.2).toNat) ⟨0, rfl, by omega, Ext.refl _, fun i hi => by omega⟩ ?_
  rintro x hh ⟨n, rfl, hn, X, hf⟩
  refine brd (fun hc => ?_) fun hc => ⟨by rw [firstAt_none fun i hi => hf i (by omega)], X⟩
  refine (S.ext X).idx (by decide) (by omega) (by omega) fun a Ra => Ra.lda1 rfl fun cs Rc => goD X (T _ _ _ X Rc) fun h1 x1 => as_b (br (fun hb => ?_) fun hb => ?_)
  · exact ⟨by rw [firstAt_some (by omega) hf (by simpa using hb)], x1⟩
  · refine ⟨⟨n + 1, by rw [wrap64_succ (by omega)], by omega, x1, fun i hi => ?_⟩, by rw [wrap64_succ (by omega)]; show _ < _; simp; omega⟩
    by_cases e : i = n
    · subst e; simpa using hb
    · exact hf i (by omega)
theorem rS_rd {s : ByteArray} (hs : s.size ≤ maxLen) : rS.rd h (#[.string s] : Array Value).toList s := ⟨rfl, hs⟩
theorem nameIn_c {b : Option Addr} {l c : Nat} {xs : List GInstrument} {s : ByteArray} (S : SlR rInstrument h b l c xs) (hs : s.size ≤ maxLen) :
    CALL prg f_impl_nameIn #[.slice b l c, .string s] (fun u h' => u = .int .i64 (firstAt (fun x : GInstrument => decide (x.Name = s)) xs) ∧ Ext h h') h := by
  refine impl_nameIn.call (alcR (r := rS) (rS_rd hs) fun g h1 x1 R => ?_)
  have T : TellsR prg rInstrument h1 (.func (.func f_impl_nameIn_c1) #[] #[.pointer (some ⟨g, 0, none⟩)]) (fun x : GInstrument => decide (x.Name = s)) := fun cs x h2 x2 Rc => by
    show CALL prg f_impl_nameIn_c1 #[.agg cs, .pointer (some ⟨g, 0, none⟩)] _ h2
    exact impl_nameIn_c1.call (alcR Rc fun g3 h3 x3 R3 => R3.oS2 fun _ => (R.ext (x2.trans x3)).oS2 fun _ => ⟨by rw [str_eq], x3⟩)
  exact goE x1 (IndexFunc_Instrument_c (S.ext x1) T) fun h2 x2 => as_i ⟨rfl, x2⟩
end
end Go.Sx
/- Maps whose keys are integers: made, looked up, updated, counted. -/
set_option linter.unusedVariables false
set_option linter.unusedSimpArgs false
namespace Go.Sx
open Go.MapKept

def encM (p : Int × Value) : Value × Value := (.int .i64 p.1, p.2)
def pairM (e : MapEntry) : Value × Value := (e.key, e.val)
/-- In block g lies a map with these entries, in this order. -/
def MapI (h : Heap) (g : Nat) (m : List (Int × Value)) : Prop := ∃ (es : Array MapEntry) (clock : Nat), h[g]? = some (.map es clock) ∧ es.toList.map pairM = m.map encM
def ifind : List (Int × Value) → Int → Option (Nat × Value)
  | [], _ => none
  | (k, u) :: m, n => if n = k then some (0, u) else (ifind m n).map fun p => (p.1 + 1, p.2)
def mfind (m : List (Int × Value)) (n : Int) : Option Value := (ifind m n).map (·.2)
def mset : List (Int × Value) → Int → Value → List (Int × Value)
  | [], n, v => [(n, v)]
  | (k, u) :: m, n, v => if n = k then (n, v) :: m else (k, u) :: mset m n v
theorem mfind_cons (k n : Int) (u : Value) (m : List (Int × Value)) : mfind ((k, u) :: m) n = if n = k then some u else mfind m n := by
  unfold mfind
  rw [ifind]
  split
  · rfl
  · rw [Option.map_map]; rfl
theorem mfind_mset (m : List (Int × Value)) (k n : Int) (v : Value) : mfind (mset m k v) n = if n = k then some v else mfind m n := by
  induction m with
  | nil => rw [mset, mfind_cons]
  | cons p m ih =>
    obtain ⟨a, u⟩ := p
    rw [mset]
    split
    · next e =>
      subst e
      rw [mfind_cons, mfind_cons]
      split
      · rfl
      · rfl
    · next e =>
      rw [mfind_cons, mfind_cons, ih]
      by_cases h1 : n = a
      · subst h1
        rw [if_pos rfl, if_pos rfl]
        rw [if_neg (fun h => e h.symm)]
      · rw [if_neg h1, if_neg h1]
section
variable {P : Program} {h hb : Heap} {g : Nat} {m : List (Int × Value)} {t k e : TypeId} {K : Value → Heap → Prop}
theorem findNow_int (n : Int) : ∀ {L : List MapEntry} {m : List (Int × Value)} (i : Nat), L.map pairM = m.map encM → Instr.findNow (.int .i64) (.int .i64 n) L i = some ((ifind m n).map fun p => (i + p.1, p.2))
  | [], [], i, _ => rfl
  | [], _ :: _, i, h => by cases h
  | _ :: _, [], i, h => by cases h
  | x :: L, (a, u) :: m, i, h => by
    simp only [List.map_cons, List.cons.injEq] at h
    obtain ⟨h1, h2⟩ := h
    have hk : x.key = .int .i64 a := congrArg Prod.fst h1
    have hv : x.val = u := congrArg Prod.snd h1
    have ih := findNow_int n (i + 1) h2
    unfold Instr.findNow
    rw [hk]
    simp only [Instr.sameNow, if_pos]
    by_cases e : n = a
    · subst e
      rw [show (n == n) = true by simp]
      simp [ifind, hv]
    · rw [show (n == a) = false by simpa using e]
      simp only []
      rw [ih]
      simp only [ifind, if_neg e, Option.map_map]
      congr 1
      congr 1
      funext p
      simp only [Function.comp_apply, Prod.mk.injEq, and_true]
      omega
theorem MapI.ext {h' : Heap} (M : MapI h g m) (x : Ext h h') : MapI h' g m := by
  obtain ⟨es, c, e1, e2⟩ := M
  have hlt : g < h.size := (Array.getElem?_eq_some_iff.1 e1).1
  exact ⟨es, c, by rw [x.2 g hlt]; exact e1, e2⟩
theorem make_map {t : TypeId} (H : ∀ g h', Ext h h' → g = h.size → MapI h' g [] → K (.map (some g)) h') : SEMV P (Instr.makeMap t none) K h := by
  refine semv fun w hw => ⟨.map (some w.heap.size), w.alloc (.map #[] 0), by simp [Instr.makeMap, newObj, Sem.run], ⟨rfl, rfl, rfl, fun e => by cases e⟩, ?_⟩
  have e : (w.alloc (.map #[] 0)).heap = w.heap.push (.map #[] 0) := rfl
  rw [e, hw]
  exact H _ _ (Ext.push _ _) rfl ⟨#[], 0, by simp, rfl⟩
theorem look_map {z : Value} (M : MapI h g m) (ht : P.underlying t = some (.map k e)) (hk : P.underlying k = some (.int .i64)) (hz : ∀ w : World, (zeroValue e).run P w = .ok z w) (n : Int)
    (H : K (.tuple #[(mfind m n).getD z, .bool (mfind m n).isSome]) h) : SEMV P (Instr.lookup t (.map (some g)) (.int .i64 n) true) K h := by
  obtain ⟨es, c, e1, e2⟩ := M
  refine semv fun w hw => ⟨.tuple #[(mfind m n).getD z, .bool (mfind m n).isSome], w, ?_, Same.refl _, by rw [hw]; exact H⟩
  have hb : w.heap[g]? = some (.map es c) := by rw [hw]; exact e1
  have hf := findNow_int n 0 e2
  have hc := MapKept.run_checkKey (P := P) (w := w) (k := .int .i64 n) hk (by exact rfl) es.isEmpty 9999
  simp only [Instr.lookup, Sem.run_bind, run_underlying ht, Result.andThen_ok, MapKept.run_getObj_map hb, Sem.run_pure]
  rw [show (10000 : Nat) = 9999 + 1 from rfl, hc]
  simp only [Result.andThen_ok]
  rw [MapKept.run_findKey hk hf]
  unfold mfind
  cases ifind m n with
  | none => simp [hz w, Result.andThen]
  | some p => simp [Result.andThen]
theorem modify_pair {L : List MapEntry} {n : Int} {v : Value} : ∀ {m : List (Int × Value)} {j : Nat} {u : Value}, L.map pairM = m.map encM → ifind m n = some (j, u) →
    ((L.modify j fun x => { x with key := .int .i64 n, val := v }).map pairM = (mset m n v).map encM ∧ L[j]?.map (·.key) = some (.int .i64 n)) := by
  induction L with
  | nil =>
    intro m j u h1 h2
    cases m with
    | nil => cases h2
    | cons _ _ => cases h1
  | cons x L ih =>
    intro m j u h1 h2
    cases m with
    | nil => cases h1
    | cons p m =>
      obtain ⟨a, b⟩ := p
      simp only [List.map_cons, List.cons.injEq] at h1
      obtain ⟨h3, h4⟩ := h1
      rw [ifind] at h2
      rw [mset]
      split at h2
      · next e =>
        subst e
        obtain ⟨rfl, rfl⟩ : j = 0 ∧ u = b := by simpa [eq_comm] using h2
        rw [if_pos rfl]
        refine ⟨?_, ?_⟩
        · simp only [List.modify_zero_cons, List.map_cons, h4]
          rfl
        · have : x.key = .int .i64 n := congrArg Prod.fst h3
          simp [this]
      · next e =>
        rw [if_neg e]
        cases hf : ifind m n with
        | none => rw [hf] at h2; cases h2
        | some q =>
          obtain ⟨j', u'⟩ := q
          rw [hf] at h2
          obtain ⟨rfl, rfl⟩ : j' + 1 = j ∧ u' = u := by simpa using h2
          obtain ⟨k1, k2⟩ := ih h4 hf
          exact ⟨by simp only [List.modify_succ_cons, List.map_cons, k1, h3], by simpa using k2⟩
theorem push_pair {L : List MapEntry} {n : Int} {v : Value} {x : MapEntry} (hx : pairM x = encM (n, v)) {m : List (Int × Value)} (h1 : L.map pairM = m.map encM) (h2 : ifind m n = none) : (L ++ [x]).map pairM = (mset m n v).map encM := by
  have : mset m n v = m ++ [(n, v)] := by
    clear h1
    induction m with
    | nil => rfl
    | cons p m ih =>
      obtain ⟨a, b⟩ := p
      rw [ifind] at h2
      split at h2
      · cases h2
      · next e =>
        rw [mset, if_neg e, ih (by simpa using h2)]
        rfl
  rw [this, List.map_append, List.map_append, h1]
  simp [hx]
theorem put_map (M : MapI h g m) (X : Ext hb h) (hg : hb.size ≤ g) (ht : P.underlying t = some (.map k e)) (hk : P.underlying k = some (.int .i64)) (n : Int) (v : Value)
    (H : ∀ q h', Ext hb h' → MapI h' g (mset m n v) → (∀ i, i ≠ g → h'[i]? = h[i]?) → K q h') : SEMN P (do Instr.mapUpdate t (.map (some g)) (.int .i64 n) v; pure .skip) K h := by
  obtain ⟨es, c, e1, e2⟩ := M
  have hlt : g < h.size := (Array.getElem?_eq_some_iff.1 e1).1
  refine semn_skip fun w hw => ?_
  have hbb : w.heap[g]? = some (.map es c) := by rw [hw]; exact e1
  have hf := findNow_int n 0 e2
  have hc := MapKept.run_checkKey (P := P) (w := w) (k := .int .i64 n) hk (by exact rfl) false 9999
  have key : ∀ o : Obj, Ext hb (h.setIfInBounds g o) := fun o => ⟨by rw [Array.size_setIfInBounds]; exact X.1, fun i hi => by rw [Array.getElem?_setIfInBounds, if_neg (by omega)]; exact X.2 i hi⟩
  have other : ∀ (o : Obj) i, i ≠ g → (h.setIfInBounds g o)[i]? = h[i]? := fun o i hi => by rw [Array.getElem?_setIfInBounds, if_neg (fun e => hi e.symm)]
  have self : ∀ o : Obj, (h.setIfInBounds g o)[g]? = some o := fun o => by rw [Array.getElem?_setIfInBounds, if_pos rfl, if_pos hlt]
  cases hi : ifind m n with
  | none =>
    refine ⟨{ w with heap := w.heap.setIfInBounds g (.map (es.push { key := .int .i64 n, val := v, born := c }) (c + 1)) }, ?_, ⟨rfl, rfl, rfl, fun e => by cases e⟩, ?_⟩
    · rw [hi] at hf
      simp only [Instr.mapUpdate, Sem.run_bind, run_underlying ht, Result.andThen_ok, MapKept.run_getObj_map hbb, Sem.run_pure]
      rw [show (10000 : Nat) = 9999 + 1 from rfl, hc]
      simp only [Result.andThen_ok]
      rw [MapKept.run_findKey hk hf]
      simp [MapKept.run_setObj_map _ hbb, Result.andThen]
    · simp only [hw]
      exact H _ _ (key _) ⟨_, _, self _, by rw [Array.toList_push]; exact push_pair rfl e2 hi⟩ (other _)
  | some p =>
    obtain ⟨j, u⟩ := p
    obtain ⟨k1, k2⟩ := modify_pair (v := v) e2 hi
    refine ⟨{ w with heap := w.heap.setIfInBounds g (.map (es.modify j fun x => { x with key := .int .i64 n, val := v }) c) }, ?_, ⟨rfl, rfl, rfl, fun e => by cases e⟩, ?_⟩
    · rw [hi] at hf
      simp only [Instr.mapUpdate, Sem.run_bind, run_underlying ht, Result.andThen_ok, MapKept.run_getObj_map hbb, Sem.run_pure]
      rw [show (10000 : Nat) = 9999 + 1 from rfl, hc]
      simp only [Result.andThen_ok]
      rw [MapKept.run_findKey hk hf]
      have hj : (es[j]?.map (·.key)).getD (.int .i64 n) = .int .i64 n := by
        rw [Array.getElem?_toList] at k2
        rw [k2]; rfl
      simp only [Option.map_some, Nat.zero_add, Sem.run_bind, Result.andThen_ok]
      rw [hj, MapKept.run_keyThatStays (d := .int .i64) (k := .int .i64 n) (show IsKey (.int .i64) (.int .i64 n) from rfl)]
      simp [MapKept.run_setObj_map _ hbb, Result.andThen]
    · simp only [hw]
      exact H _ _ (key _) ⟨_, _, self _, by rw [Array.toList_modify]; exact k1⟩ (other _)
end
end Go.Sx
