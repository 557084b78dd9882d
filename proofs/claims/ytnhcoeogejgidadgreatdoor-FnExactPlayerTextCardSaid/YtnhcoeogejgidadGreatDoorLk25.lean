/- Tunings and instruments: the rule's and the program's. -/
import Derived.Test.YtnhcoeogejgidadGreatDoorLk24
import Derived.Test.YtnhcoeogejgidadGreatDoorLm7
import Derived.Test.YtnhcoeogejgidadGreatDoorTab
import Derived.Test.YtnhcoeogejgidadGreatDoorLm6
set_option linter.unusedVariables false
set_option linter.unusedSimpArgs false
namespace Go.Sx
open Go.Proofs
set_option maxRecDepth 100000
set_option maxHeartbeats 1000000

/-- A local copy of a value that was read. -/
theorem localR {α : Type} {r : Rep α} {h : Heap} {x : α} {T n : Nat} {z cs : Array Value} {F : Nat → Heap → Prop} (R : r.rd h cs.toList x) (hz : z.size = n) (hn : r.sz = n)
    (H : ∀ g h', Ext h h' → RdP r h' ⟨g, 0, none⟩ x → F g h') : ALC z T (fun g h1 => STA n h1 ⟨g, 0, none⟩ cs fun h2 => F g h2) h :=
  (Mem.start h).alc fun g h1 x1 M => M.sta0 .here (rsz R hn) (r.rone R) hz .here fun h2 M => H g h2 M.ext (M.rdp .here (r.ext M.ext R))
def degAt (t : GTuning) (i : Nat) : Bool := flt .f32 t.Degrees[i]! t.Octave && (i == 0 || fgt .f32 t.Degrees[i]! t.Degrees[i - 1]!)
def GTuning.ok (t : GTuning) : Bool := inside t.Base 1065353216 1184645120 && inside t.Octave 1065353216 1167458304 && inR t.Degrees.length 1 31 && (t.Degrees[0]! == 0) && (List.range t.Degrees.length).all (degAt t)
def place (a : Nat) : Bool := fge .f32 a 0 && flt .f32 a 1065353216
def GInstrument.ok (x : GInstrument) : Bool := nameOk x.Name && inside x.B 0 1065353216 &&
  if x.Kind = 1 then inside x.A 0 1056964608 && place x.C else if x.Kind = 2 then place x.A && (feq .f32 x.C 0 || feq .f32 x.C 1065353216) else if x.Kind = 3 then place x.A && fin x.C else false
section
variable {h : Heap} {x a : Nat}
theorem c1 : FW .f32 1065353216 1065353216 := fw_c32 (by decide) (by decide)
theorem c05 : FW .f32 1056964608 1056964608 := fw_c32 (by decide) (by decide)
theorem cB : FW .f32 1184645120 1184645120 := fw_c32 (by decide) (by decide)
theorem cO : FW .f32 1167458304 1167458304 := fw_c32 (by decide) (by decide)
theorem cR : FW .f32 1232348160 1232348160 := fw_c32 (by decide) (by decide)
theorem SlR.at0 {α : Type} {r : Rep α} {b : Option Addr} {l c : Nat} {xs : List α} [Inhabited α] {F : Addr → Prop} (S : SlR r h b l c xs) (hz : 0 < r.sz) (h2 : 0 < l) (H : ∀ a, RdP r h a xs[0]! → F a) : IDXS b (0 : Int) l F :=
  S.idx hz (by omega) (by omega) fun a R => by
    have e : a.add ((0 : Int).toNat * r.sz) = a := by rw [show (0 : Int).toNat = 0 from rfl, Nat.zero_mul, add0]
    rw [e] at R
    exact H a R
theorem SlR.idn {α : Type} {r : Rep α} {b : Option Addr} {l c n : Nat} {xs : List α} [Inhabited α] {F : Addr → Prop} (S : SlR r h b l c xs) (hz : 0 < r.sz) (h2 : n < l) (H : ∀ a, RdP r h (a.add ((n : Int).toNat * r.sz)) xs[n]! → F a) : IDXS b (n : Int) l F :=
  S.idx hz (by omega) (by omega) H
theorem l07Base_c (hx : FW .f32 x a) : Ret prg f_spec_l07Base #[.float .f32 x] (.bool (inside a 1065353216 1184645120)) := fun h => by
  refine spec_l07Base.call ?_
  rw [spec_l07Base.S, ord_eq hx c1, ord_eq hx cB]
  exact br (fun hb => ⟨by rw [inside, fge, hb]; rfl, Ext.refl _⟩) fun hb => ⟨by rw [inside, fge, hb]; rfl, Ext.refl _⟩
theorem isBase_c (hx : FW .f32 x a) : Ret prg f_impl_isBase #[.float .f32 x] (.bool (inside a 1065353216 1184645120)) := fun h =>
  impl_isBase.call ((inside_c hx c1 cB).go fun h1 x1 => as_b ⟨rfl, x1⟩)
theorem isRate_c (hx : FW .f32 x a) : Ret prg f_impl_isRate #[.float .f32 x] (.bool (inside a 1065353216 1232348160)) := fun h =>
  impl_isRate.call ((inside_c hx c1 cR).go fun h1 x1 => as_b ⟨rfl, x1⟩)
theorem isPlace_c (hx : FW .f32 x a) : Ret prg f_impl_isPlace #[.float .f32 x] (.bool (place a)) := fun h => by
  refine impl_isPlace.call ?_
  rw [impl_isPlace.S, ord_eq hx fw0, ord_eq hx c1]
  exact br (fun hb => ⟨by rw [place, fge, hb]; rfl, Ext.refl _⟩) fun hb => ⟨by rw [place, fge, hb]; rfl, Ext.refl _⟩
theorem isKeep_c (hx : FW .f32 x a) : Ret prg f_impl_isKeep #[.float .f32 x] (.bool (place a)) := fun h => by
  refine impl_isKeep.call ?_
  rw [impl_isKeep.S, ord_eq hx fw0, ord_eq hx c1]
  exact br (fun hb => ⟨by rw [place, fge, hb]; rfl, Ext.refl _⟩) fun hb => ⟨by rw [place, fge, hb]; rfl, Ext.refl _⟩
theorem between_c {m n : Nat} (hx : FW .f32 x a) (hm : FW .f32 m n) : Ret prg f_spec_l08Between #[.float .f32 x, .float .f32 m, .bool false] (.bool (inside a 0 n)) := fun h => by
  refine spec_l08Between.call ?_
  rw [spec_l08Between.S, ord_eq hx fw0, ord_eq hx hm]
  exact br_f rfl (br (fun hb => ⟨by rw [inside, fge, hb]; rfl, Ext.refl _⟩) fun hb => ⟨by rw [inside, fge, hb]; rfl, Ext.refl _⟩)
theorem below_c (hx : FW .f32 x a) : Ret prg f_spec_l08Between #[.float .f32 x, .float .f32 1065353216, .bool true] (.bool (place a)) := fun h => by
  refine spec_l08Between.call ?_
  rw [spec_l08Between.S, ord_eq hx fw0, ord_eq hx c1]
  exact br_t rfl (br (fun hb => ⟨by rw [place, fge, hb]; rfl, Ext.refl _⟩) fun hb => ⟨by rw [place, fge, hb]; rfl, Ext.refl _⟩)
theorem wrap_pred {n : Nat} (h0 : 0 < n) (h : n < 9223372036854775808) : IntKind.i64.wrap ((n : Int) - 1) = ((n - 1 : Nat) : Int) := by rw [wrap64 (by omega) (by omega)]; omega
theorem l07Ok_c {q : Addr} {t : GTuning} (R : RdP rTuning h q t) : CALL prg f_spec_l07Ok #[.pointer (some q)] (fun u h' => u = .bool t.ok ∧ Ext h h') h := by
  have hm := maxLen_lt
  refine spec_l07Ok.call (R.oL fun b l c S => R.oF1 fun y hy => goX (l07Base_c hy h) fun h1 x1 => as_b ?_)
  have hl := S.len
  have s1 := S.2.1
  have s2 := S.2.2.1
  refine brN (fun hb => ⟨by rw [GTuning.ok, hb]; rfl, x1⟩) fun hb => (R.ext x1).oF fun z hz => ?_
  rw [ord_eq hz c1]
  refine br (fun k1 => (R.ext x1).oF fun w hw => ?_) fun k1 => ⟨by rw [GTuning.ok, inside, inside, fge, fge, k1]; simp, x1⟩
  rw [ord_eq hw cO]
  refine brN (fun k2 => ⟨by rw [GTuning.ok, inside, inside, fle, fle, k2]; simp, x1⟩) fun k2 => ?_
  have ho : inside t.Octave 1065353216 1167458304 = true := by rw [inside, fge, fle, k1, k2]; rfl
  refine brd (fun e1 => ⟨by rw [GTuning.ok, hl, inR, decide_eq_false (p := (1 : Int) ≤ (l : Int)) (by omega)]; simp, x1⟩) fun e1 => brd (fun e2 => ⟨by rw [GTuning.ok, hl, inR, decide_eq_false (p := (l : Int) ≤ 31) (by omega)]; simp, x1⟩) fun e2 => ?_
  have hlen : inR (t.Degrees.length : Int) 1 31 = true := by rw [hl, inR, decide_eq_true (by omega), decide_eq_true (by omega)]; rfl
  refine (R.ext x1).oL fun b1 l1 c1' S1 => ?_
  have e3 := S1.len
  refine S1.at0 (by decide) (by omega) fun p Rp => Rp.oF1 fun y hy => goE x1 (l01Same_c hy fw0 _) fun h2 x2 => as_b (brN (fun hb => ⟨by rw [GTuning.ok, hb]; simp, x2⟩) fun h0 => ?_)
  refine loop (fun x hh => ∃ n : Nat, x = (q, (l : Int), (n : Int)) ∧ n ≤ l ∧ Ext h hh ∧ ∀ i, i < n → degAt t i = true) (fun x => ((l : Int) - x.2.2).toNat) ⟨0, rfl, by omega, x2, fun i hi => by omega⟩ ?_
  rintro x hh ⟨n, rfl, hn, X, hd⟩
  have R' := R.ext X
  have no : n < l → degAt t n = false → (Value.bool false = .bool t.ok ∧ Ext h hh) := fun e hf => ⟨by rw [GTuning.ok, all_false (f := degAt t) (by rw [hl]; exact e) hf, Bool.and_false], X⟩
  refine brd (fun hc => ?_) fun hc => ⟨by rw [GTuning.ok, hb, ho, hlen, h0, all_true fun i hi => hd i (by omega)]; rfl, X⟩
  have next : degAt t n = true → ((∃ m : Nat, (q, (l : Int), IntKind.i64.wrap ((n : Int) + 1)) = (q, (l : Int), (m : Int)) ∧ m ≤ l ∧ Ext h hh ∧ ∀ i, i < m → degAt t i = true) ∧ ((l : Int) - IntKind.i64.wrap ((n : Int) + 1)).toNat < ((l : Int) - n).toNat) := fun hn1 =>
    ⟨⟨n + 1, by rw [wrap64_succ (by omega)], by omega, X, fun i hi => by
      by_cases e : i = n
      · subst e; exact hn1
      · exact hd i (by omega)⟩, by rw [wrap64_succ (by omega)]; omega⟩
  refine brd (fun h0 => ?_) fun h0 => ?_
  · rw [wrap_pred (by omega) (by omega)]
    refine R'.oL fun b1 l1 c1 S1 => ?_
    have e1 := S1.len
    refine S1.idx (by decide) (by omega) (by omega) fun p Rp => Rp.oF1 fun y hy => R'.oL fun b2 l2 c2 S2 => ?_
    have e2 := S2.len
    refine S2.idx (by decide) (by omega) (by omega) fun p Rp => Rp.oF1 fun z hz => ?_
    rw [ord_eq hy hz]
    have en : (n == 0) = false := by simp; omega
    refine brN (fun k => no (by omega) (by rw [degAt, en, Bool.false_or, show fgt .f32 t.Degrees[n]! t.Degrees[n - 1]! = false from k, Bool.and_false])) fun k1 => R'.oL fun b3 l3 c3 S3 => ?_
    have e3 := S3.len
    refine S3.idx (by decide) (by omega) (by omega) fun p Rp => Rp.oF1 fun y hy => R'.oF fun z hz => ?_
    rw [ord_eq hy hz]
    refine brN (fun k => no (by omega) (by rw [degAt, show flt .f32 t.Degrees[n]! t.Octave = false from k, Bool.false_and])) fun k2 => next ?_
    rw [degAt, show flt .f32 t.Degrees[n]! t.Octave = true from k2, show fgt .f32 t.Degrees[n]! t.Degrees[n - 1]! = true from k1, Bool.or_true]; rfl
  · obtain rfl : n = 0 := by omega
    refine R'.oL fun b3 l3 c3 S3 => ?_
    have e3 := S3.len
    refine S3.idx (by decide) (by omega) (by omega) fun p Rp => Rp.oF1 fun y hy => R'.oF fun z hz => ?_
    rw [ord_eq hy hz]
    refine brN (fun k => no (by omega) (by rw [degAt, show flt .f32 t.Degrees[0]! t.Octave = false from k, Bool.false_and])) fun k2 => next ?_
    rw [degAt, show flt .f32 t.Degrees[0]! t.Octave = true from k2]; rfl
theorem spec_ValidTuning_c {cs : Array Value} {t : GTuning} (R : rTuning.rd h cs.toList t) : CALL prg f_spec_ValidTuning #[.agg cs] (fun u h' => u = .bool t.ok ∧ Ext h h') h :=
  spec_ValidTuning.call (alcR R fun g h1 x1 R1 => goE x1 (l07Ok_c R1) fun h2 x2 => as_b ⟨rfl, x2⟩)
theorem ValidTuning_c {cs : Array Value} {t : GTuning} (R : rTuning.rd h cs.toList t) : CALL prg f_impl_ValidTuning #[.agg cs] (fun u h' => u = .bool t.ok ∧ Ext h h') h := by
  have hm := maxLen_lt
  refine impl_ValidTuning.call (alcR R fun g h1 x1 R1 => R1.oF2 fun y hy => goE (Ext.refl h1) (isBase_c hy _) fun h2 x2 => as_b (brN (fun hb => ⟨by rw [GTuning.ok, hb]; rfl, x1.trans x2⟩) fun hb => (R1.ext x2).oF2 fun z hz => goE x2 (inside_c hz c1 cO _) fun h3 x3 => as_b (brN (fun ho => ⟨by rw [GTuning.ok, ho]; simp, x1.trans x3⟩) fun ho => (R1.ext x3).oL2 fun b l c S => goE x3 (length_f32_c _ _ _ _) fun h4 x4 => as_i (goE x4 (within_c _ _ _ _) fun h5 x5 => as_b (brN (fun e => ⟨?_, x1.trans x5⟩) fun e => ?_)))))
  · rw [← S.len] at e
    rw [GTuning.ok, e]; simp
  rw [← S.len] at e
  have hl := S.len
  have hp : 1 ≤ l := by
    unfold inR at e
    simp only [Bool.and_eq_true, decide_eq_true_eq] at e
    omega
  refine (R1.ext x5).oL2 fun b1 l1 c1' S1 => ?_
  have e1 := S1.len
  refine S1.at0 (by decide) (by omega) fun p Rp => Rp.oF1 fun y hy => goE x5 (bitsOf_c hy _) fun h6 x6 => as_i (br (fun k => ⟨?_, x1.trans x6⟩) fun k => ?_)
  · have : (t.Degrees[0]! == 0) = false := by
      rw [beq_eq_false_iff_ne]
      simp only [bne_iff_ne, ne_eq] at k
      omega
    rw [GTuning.ok, this]; simp
  have h0 : (t.Degrees[0]! == 0) = true := by
    rw [beq_iff_eq]
    simp only [bne_eq_false_iff_eq] at k
    omega
  unfold impl_ValidTuning.J3
  refine (R1.ext x6).oL fun b2 l2 c2 S2 => ?_
  have e2 := S2.len
  have s1 := S2.2.1
  have s2 := S2.2.2.1
  refine loop (fun x hh => ∃ n : Nat, x = (⟨g, 0, none⟩, b2, l2, c2, (l2 : Int), (n : Int)) ∧ n ≤ l2 ∧ Ext h6 hh ∧ ∀ i, i < n → degAt t i = true) (fun x => ((l2 : Int) - x.2.2.2.2.2).toNat) ⟨0, rfl, by omega, Ext.refl _, fun i hi => by omega⟩ ?_
  rintro x hh ⟨n, rfl, hn, X, hd⟩
  have R' := R1.ext (x6.trans X)
  have X' := x1.trans (x6.trans X)
  have no : n < l2 → degAt t n = false → (Value.bool false = .bool t.ok ∧ Ext h hh) := fun e hf => ⟨by rw [GTuning.ok, all_false (f := degAt t) (by rw [e2]; exact e) hf, Bool.and_false], X'⟩
  refine brd (fun hc => ?_) fun hc => ⟨by rw [GTuning.ok, hb, ho, e, h0, all_true fun i hi => hd i (by omega)]; rfl, X'⟩
  have next : degAt t n = true → ((∃ m : Nat, ((⟨g, 0, none⟩ : Addr), b2, l2, c2, (l2 : Int), IntKind.i64.wrap ((n : Int) + 1)) = (⟨g, 0, none⟩, b2, l2, c2, (l2 : Int), (m : Int)) ∧ m ≤ l2 ∧ Ext h6 hh ∧ ∀ i, i < m → degAt t i = true) ∧ ((l2 : Int) - IntKind.i64.wrap ((n : Int) + 1)).toNat < ((l2 : Int) - n).toNat) := fun hn1 =>
    ⟨⟨n + 1, by rw [wrap64_succ (by omega)], by omega, X, fun i hi => by
      by_cases e : i = n
      · subst e; exact hn1
      · exact hd i (by omega)⟩, by rw [wrap64_succ (by omega)]; omega⟩
  refine (S2.ext X).idx (by decide) (by omega) (by omega) fun p Rp => Rp.oF1 fun y hy => R'.oF fun z hz => ?_
  rw [ord_eq hy hz]
  refine brN (fun k => no (by omega) (by rw [degAt, show flt .f32 t.Degrees[n]! t.Octave = false from k, Bool.false_and])) fun k2 => brd (fun h0 => ?_) fun h0 => ?_
  · rw [wrap_pred (by omega) (by omega)]
    refine R'.oL fun b3 l3 c3 S3 => ?_
    have e3 := S3.len
    refine S3.idx (by decide) (by omega) (by omega) fun p Rp => Rp.oF1 fun z hz => ?_
    rw [ord_eq hy hz]
    have en : (n == 0) = false := by simp; omega
    refine brN (fun k => no (by omega) (by rw [degAt, en, Bool.false_or, show fgt .f32 t.Degrees[n]! t.Degrees[n - 1]! = false from k, Bool.and_false])) fun k1 => next ?_
    rw [degAt, show flt .f32 t.Degrees[n]! t.Octave = true from k2, show fgt .f32 t.Degrees[n]! t.Degrees[n - 1]! = true from k1, Bool.or_true]; rfl
  · obtain rfl : n = 0 := by omega
    refine next ?_
    rw [degAt, show flt .f32 t.Degrees[0]! t.Octave = true from k2]; rfl
theorem l08Instrument_c {q : Addr} {x : GInstrument} (R : RdP rInstrument h q x) : CALL prg f_spec_l08Instrument #[.pointer (some q)] (fun u h' => u = .bool x.ok ∧ Ext h h') h := by
  refine spec_l08Instrument.call (R.oS1 fun hs => goE (Ext.refl h) (l08Name_c _ hs _) fun h1 x1 => as_b (brN (fun hn => ⟨by rw [GInstrument.ok, hn]; rfl, x1⟩) fun hn => (R.ext x1).oF fun y hy => goE x1 (between_c hy c1 _) fun h2 x2 => as_b (brN (fun hb => ⟨by rw [GInstrument.ok, hb]; simp, x2⟩) fun hb => ?_)))
  have R2 := R.ext x2
  have k : x.ok = if x.Kind = 1 then inside x.A 0 1056964608 && place x.C else if x.Kind = 2 then place x.A && (feq .f32 x.C 0 || feq .f32 x.C 1065353216) else if x.Kind = 3 then place x.A && fin x.C else false := by rw [GInstrument.ok, hn, hb]; rfl
  refine R2.oI (br (fun e1 => ?_) fun e1 => br (fun e2 => ?_) fun e2 => br (fun e3 => ?_) fun e3 => ?_)
  · rw [if_pos (by simpa using e1)] at k
    refine R2.oF fun y hy => goE x2 (between_c hy c05 _) fun h3 x3 => as_b (br (fun d => ?_) fun d => ⟨by rw [k, d]; rfl, x3⟩)
    exact (R.ext x3).oF fun y hy => goE x3 (below_c hy _) fun h4 x4 => as_b ⟨by rw [k, d]; rfl, x4⟩
  · rw [if_neg (by simpa using e1), if_pos (by simpa using e2)] at k
    refine R2.oF fun y hy => goE x2 (below_c hy _) fun h3 x3 => as_b (br (fun d => ?_) fun d => ⟨by rw [k, d]; rfl, x3⟩)
    refine (R.ext x3).oF fun y hy => ?_
    rw [ord_eq hy fw0]
    refine br (fun d2 => ⟨by rw [k, d, show feq .f32 x.C 0 = true from d2]; rfl, x3⟩) fun d2 => (R.ext x3).oF fun y hy => ?_
    rw [ord_eq hy c1]
    exact ⟨by rw [k, d, show feq .f32 x.C 0 = false from d2]; rfl, x3⟩
  · rw [if_neg (by simpa using e1), if_neg (by simpa using e2), if_pos (by simpa using e3)] at k
    refine R2.oF fun y hy => goE x2 (below_c hy _) fun h3 x3 => as_b (br (fun d => ?_) fun d => ⟨by rw [k, d]; rfl, x3⟩)
    exact (R.ext x3).oF fun y hy => goE x3 (l01Finite_c hy _) fun h4 x4 => as_b ⟨by rw [k, d]; rfl, x4⟩
  · rw [if_neg (by simpa using e1), if_neg (by simpa using e2), if_neg (by simpa using e3)] at k
    exact ⟨by rw [k], x2⟩
theorem ValidInstrument_c {cs : Array Value} {x : GInstrument} (R0 : rInstrument.rd h cs.toList x) : CALL prg f_impl_ValidInstrument #[.agg cs] (fun u h' => u = .bool x.ok ∧ Ext h h') h := by
  refine impl_ValidInstrument.call (alcR R0 fun g h0 x0 R => R.oS2 fun hs => goE (Ext.refl h0) (isName_c _ hs _) fun h1 x1 => as_b (brN (fun hn => ⟨by rw [GInstrument.ok, hn]; rfl, x0.trans x1⟩) fun hn => (R.ext x1).oF2 fun y hy => goE x1 (inside_c hy fw0 c1 _) fun h2 x2 => as_b (brN (fun hb => ⟨by rw [GInstrument.ok, hb]; simp, x0.trans x2⟩) fun hb => ?_)))
  have R2 := R.ext x2
  have k : x.ok = if x.Kind = 1 then inside x.A 0 1056964608 && place x.C else if x.Kind = 2 then place x.A && (feq .f32 x.C 0 || feq .f32 x.C 1065353216) else if x.Kind = 3 then place x.A && fin x.C else false := by rw [GInstrument.ok, hn, hb]; rfl
  refine R2.oI (br (fun e1 => ?_) fun e1 => br (fun e2 => ?_) fun e2 => br (fun e3 => ?_) fun e3 => ?_)
  · rw [if_pos (by simpa using e1)] at k
    refine R2.oF fun y hy => goE x2 (inside_c hy fw0 c05 _) fun h3 x3 => as_b (br (fun d => ?_) fun d => ⟨by rw [k, d]; rfl, x0.trans x3⟩)
    exact (R.ext x3).oF fun y hy => goE x3 (isPlace_c hy _) fun h4 x4 => as_b ⟨by rw [k, d]; rfl, x0.trans x4⟩
  · rw [if_neg (by simpa using e1), if_pos (by simpa using e2)] at k
    refine R2.oF fun y hy => goE x2 (isKeep_c hy _) fun h3 x3 => as_b (br (fun d => ?_) fun d => ⟨by rw [k, d]; rfl, x0.trans x3⟩)
    refine (R.ext x3).oF fun y hy => ?_
    rw [ord_eq hy fw0]
    refine br (fun d2 => ⟨by rw [k, d, show feq .f32 x.C 0 = true from d2]; rfl, x0.trans x3⟩) fun d2 => (R.ext x3).oF fun y hy => ?_
    rw [ord_eq hy c1]
    exact ⟨by rw [k, d, show feq .f32 x.C 0 = false from d2]; rfl, x0.trans x3⟩
  · rw [if_neg (by simpa using e1), if_neg (by simpa using e2), if_pos (by simpa using e3)] at k
    refine R2.oF fun y hy => goE x2 (isKeep_c hy _) fun h3 x3 => as_b (br (fun d => ?_) fun d => ⟨by rw [k, d]; rfl, x0.trans x3⟩)
    exact (R.ext x3).oF fun y hy => goE x3 (isFinite_c hy _) fun h4 x4 => as_b ⟨by rw [k, d]; rfl, x0.trans x4⟩
  · rw [if_neg (by simpa using e1), if_neg (by simpa using e2), if_neg (by simpa using e3)] at k
    exact ⟨by rw [k], x0.trans x2⟩
end
end Go.Sx
/- Tunings: cents, powers of two, frequencies, periods. -/
set_option linter.unusedVariables false
set_option linter.unusedSimpArgs false
namespace Go.Sx
open Go.Proofs Ieee
set_option maxRecDepth 100000
set_option maxHeartbeats 1000000

abbrev S2 := Nat × Nat × Nat × Int
end Go.Sx
/- Lists of instruments: the names differ. -/
set_option linter.unusedVariables false
set_option linter.unusedSimpArgs false
namespace Go.Sx
open Go.Proofs
set_option maxRecDepth 100000
set_option maxHeartbeats 1000000

def instAt (xs : List GInstrument) (i : Nat) : Bool := xs[i]!.ok && (List.range i).all fun k => !decide (xs[k]!.Name = xs[i]!.Name)
def instOk (xs : List GInstrument) : Bool := (List.range xs.length).all (instAt xs)
/-- A function value that tells of each datum whether p holds. -/
def TellsR {α : Type} (P : Program) (r : Rep α) (h0 : Heap) (f : Value) (p : α → Bool) : Prop := ∀ (cs : Array Value) (x : α) h, Ext h0 h → r.rd h cs.toList x → CALLD P f #[.agg cs] (fun u h' => u = .bool (p x) ∧ Ext h h') h
/-- The first elements of a slice. -/
theorem SlR.pre {α : Type} {r : Rep α} {h : Heap} {b : Option Addr} {l c i : Nat} {xs : List α} (S : SlR r h b l c xs) (hi : i < l) (sz : Nat) : SlR r h (slA b c 0 sz) (i - 0) (c - 0) (xs.take i) := by
  obtain ⟨h1, h2, h3, ws, C, R⟩ := S
  obtain ⟨pre, mid, post, e1, rfl, _, R1, _⟩ := R.at (i := i) (by omega)
  have hb : slA b c 0 sz = b := by
    unfold slA
    split
    · rfl
    · cases b with
      | none => rfl
      | some a => rw [Option.map_some, Nat.zero_mul, add0]
  refine ⟨by rw [List.length_take]; omega, by omega, h3, pre, fun k hk => ?_, R1⟩
  rw [hb]
  obtain ⟨a, ha, e⟩ := C k (by rw [List.length_append]; omega)
  exact ⟨a, ha, by rw [e, List.getElem?_append_left hk]⟩
section
variable {h : Heap}
theorem IndexFunc_Instrument_c {b : Option Addr} {l c : Nat} {xs : List GInstrument} {f : Value} {p : GInstrument → Bool} (S : SlR rInstrument h b l c xs) (T : TellsR prg rInstrument h f p) :
    CALL prg f_slices_IndexFunc_sl_impl_Instrument_impl_Instrument #[.slice b l c, f] (fun u h' => u = .int .i64 (firstAt p xs) ∧ Ext h h') h := by
  refine slices_IndexFunc_sl_impl_Instrument_impl_Instrument.call ?_
  have hm2 := S.2.2.1
  have hm3 := S.2.1
  have := maxLen_lt
  have hl := S.len
  refine loop (fun x hh => ∃ n : Nat, x = (b, l, c, f, (l : Int), (n : Int)) ∧ n ≤ l ∧ Ext h hh ∧ ∀ i, i < n → p xs[i]! = false) (fun x => (l - x.2.2.2.2.2).toNat) ⟨0, rfl, by omega, Ext.refl _, fun i hi => by omega⟩ ?_
  rintro x hh ⟨n, rfl, hn, X, hf⟩
  refine brd (fun hc => ?_) fun hc => ⟨by rw [firstAt_none fun i hi => hf i (by omega)], X⟩
  refine (S.ext X).idx (by decide) (by omega) (by omega) fun a Ra => Ra.lda1 rfl fun cs Rc => goD X (T _ _ _ X Rc) fun h1 x1 => as_b (br (fun hb => ?_) fun hb => ?_)
  · exact ⟨by rw [firstAt_some (by omega) hf (by simpa using hb)], x1⟩
  · refine ⟨⟨n + 1, by rw [wrap64_succ (by omega)], by omega, x1, fun i hi => ?_⟩, by rw [wrap64_succ (by omega)]; show _ < _; simp; omega⟩
    by_cases e : i = n
    · subst e; simpa using hb
    · exact hf i (by omega)
theorem rS_rd {s : ByteArray} (hs : s.size ≤ maxLen) : rS.rd h (#[.string s] : Array Value).toList s := ⟨rfl, hs⟩
theorem nameIn_c {b : Option Addr} {l c : Nat} {xs : List GInstrument} {s : ByteArray} (S : SlR rInstrument h b l c xs) (hs : s.size ≤ maxLen) :
    CALL prg f_impl_nameIn #[.slice b l c, .string s] (fun u h' => u = .int .i64 (firstAt (fun x : GInstrument => decide (x.Name = s)) xs) ∧ Ext h h') h := by
  refine impl_nameIn.call (alcR (r := rS) (rS_rd hs) fun g h1 x1 R => ?_)
  have T : TellsR prg rInstrument h1 (.func (.func f_impl_nameIn_c1) #[] #[.pointer (some ⟨g, 0, none⟩)]) (fun x : GInstrument => decide (x.Name = s)) := fun cs x h2 x2 Rc => by
    show CALL prg f_impl_nameIn_c1 #[.agg cs, .pointer (some ⟨g, 0, none⟩)] _ h2
    exact impl_nameIn_c1.call (alcR Rc fun g3 h3 x3 R3 => R3.oS2 fun _ => (R.ext (x2.trans x3)).oS2 fun _ => ⟨by rw [str_eq], x3⟩)
  exact goE x1 (IndexFunc_Instrument_c (S.ext x1) T) fun h2 x2 => as_i ⟨rfl, x2⟩
theorem names_first {xs : List GInstrument} {i : Nat} (hi : i < xs.length) (s : ByteArray) : decide ((0 : Int) ≤ firstAt (fun x : GInstrument => decide (x.Name = s)) (xs.take i)) = !(List.range i).all fun k => !decide (xs[k]!.Name = s) := by
  rw [firstAt_any, Bool.eq_iff_iff]
  simp only [List.any_eq_true, Bool.not_eq_true', List.all_eq_false, List.mem_range, decide_eq_true_eq, Bool.not_eq_true, Bool.not_eq_false', Bool.not_not]
  constructor
  · rintro ⟨x, hx, rfl⟩
    obtain ⟨k, hk, rfl⟩ := List.mem_iff_getElem.1 hx
    rw [List.length_take] at hk
    exact ⟨k, by omega, by rw [List.getElem_take, getElem!_pos xs k (by omega)]; simp⟩
  · rintro ⟨k, hk, e⟩
    refine ⟨xs[k]!, ?_, by simpa using e⟩
    rw [getElem!_pos xs k (by omega)]
    exact List.mem_iff_getElem.2 ⟨k, by rw [List.length_take]; omega, by rw [List.getElem_take]⟩
theorem areInstruments_c {b : Option Addr} {l c : Nat} {xs : List GInstrument} (S : SlR rInstrument h b l c xs) :
    CALL prg f_impl_areInstruments #[.slice b l c] (fun u h' => u = .bool (decide (xs.length ≤ 6) && instOk xs) ∧ Ext h h') h := by
  have hm2 := S.2.2.1
  have hm3 := S.2.1
  have := maxLen_lt
  have hl := S.len
  refine impl_areInstruments.call (brd (fun h6 => ⟨by rw [decide_eq_false (by omega)]; rfl, Ext.refl _⟩) fun h6 => ?_)
  rw [decide_eq_true (p := xs.length ≤ 6) (by omega), Bool.true_and]
  refine loop (fun x hh => ∃ n : Nat, x = (b, l, c, b, l, c, (l : Int), (n : Int)) ∧ n ≤ l ∧ Ext h hh ∧ ∀ i, i < n → instAt xs i = true) (fun x => (l - x.2.2.2.2.2.2.2).toNat) ⟨0, rfl, by omega, Ext.refl _, fun i hi => by omega⟩ ?_
  rintro x hh ⟨n, rfl, hn, X, hd⟩
  have no : ∀ {h'}, n < l → instAt xs n = false → Ext h h' → (Value.bool false = .bool (instOk xs) ∧ Ext h h') := fun e hf x => ⟨by rw [instOk, all_false (f := instAt xs) (by omega) hf], x⟩
  refine brd (fun hc => ?_) fun hc => ⟨by rw [instOk, all_true fun i hi => hd i (by omega)], X⟩
  refine (S.ext X).idn (by decide) (by omega) fun a Ra => Ra.lda1 rfl fun cs Rc => localR Rc rfl rfl fun g h1 x1 R1 => R1.lda1 rfl fun cs' Rc' => goX (ValidInstrument_c Rc') fun h2 y2 => as_b (brN (fun hb => ?_) fun hb => ?_)
  · exact no (by omega) (by rw [instAt, show xs[n]!.ok = false from hb, Bool.false_and]) ((X.trans x1).trans y2)
  have hb : xs[n]!.ok = true := hb
  have x2 := (X.trans x1).trans y2
  refine slb (by omega) (by omega) (by omega) ((R1.ext y2).oS2 fun hs => goE x2 (nameIn_c ((S.ext x2).pre (i := n) (by omega) 5) hs) fun h3 x3 => as_i ?_)
  rw [names_first (by omega)]
  refine br (fun hk => no (by omega) (by rw [instAt, nt hk, Bool.and_false]) x3) fun hk => ⟨⟨n + 1, by rw [wrap64_succ (by omega)], by omega, x3, fun i hi => ?_⟩, by rw [wrap64_succ (by omega)]; show _ < _; simp; omega⟩
  by_cases e : i = n
  · subst e
    rw [instAt, hb, nf hk]; rfl
  · exact hd i (by omega)
end
end Go.Sx
/- The rule's order of events: when a note starts, an event's key, which key is less. -/
set_option linter.unusedVariables false
set_option linter.unusedSimpArgs false
namespace Go.Sx
open Go.Proofs
set_option maxRecDepth 100000
set_option maxHeartbeats 1000000

/-- Four numbers as cells. -/
def keyV (l : List Int) : Array Value := ⟨l.map (.int .i64)⟩
theorem keyV_get {l : List Int} {i : Nat} (hi : i < l.length) : (keyV l)[i]? = some (.int .i64 l[i]!) := by
  unfold keyV
  simp [hi]
theorem keyV_size (l : List Int) : (keyV l).size = l.length := by unfold keyV; simp
theorem keyV_one (l : List Int) : ∀ v ∈ (keyV l).toList, v.oneCell' = true := fun v hv => by
  obtain ⟨n, _, rfl⟩ := List.mem_map.1 (show v ∈ l.map (Value.int .i64) from hv)
  rfl
theorem keyV_set {l : List Int} {i : Nat} (n : Int) : (keyV l).setIfInBounds i (.int .i64 n) = keyV (l.set i n) := by
  unfold keyV
  simp [List.map_set]
/-- The first difference decides. -/
theorem lt4_at : ∀ {n : Nat} {a b : List Int}, n < a.length → n < b.length → (∀ i, i < n → a[i]! = b[i]!) → a[n]! ≠ b[n]! → lt4 a b = decide (a[n]! < b[n]!)
  | _, [], _, h, _, _, _ => by simp at h
  | _, _ :: _, [], _, h, _, _ => by simp at h
  | 0, x :: a, y :: b, _, _, _, h => by
    rw [lt4, if_neg (by simpa using h)]
    simp
  | n + 1, x :: a, y :: b, h1, h2, h3, h => by
    have e := h3 0 (by omega)
    rw [lt4, if_pos (by simpa using e), lt4_at (n := n) (by simpa using h1) (by simpa using h2) (fun i hi => by simpa using h3 (i + 1) (by omega)) (by simpa using h)]
    simp
theorem lt4_same {a b : List Int} (hl : a.length = b.length) (h : ∀ i, i < a.length → a[i]! = b[i]!) : a = b := by
  apply List.ext_getElem hl
  intro i h1 h2
  have := h i h1
  rwa [getElem!_pos a i h1, getElem!_pos b i h2] at this
section
variable {h : Heap}
theorem l08Less_c {a b : List Int} (ha : a.length = 4) (hb : b.length = 4) : CALL prg f_spec_l08Less #[.agg (keyV a), .agg (keyV b)] (fun u h' => u = .bool (lt4 a b) ∧ Ext h h') h := by
  refine spec_l08Less.call ((Mem.start h).alc fun g1 h1 x1 M => M.alc fun g2 h2 x2 M => ?_)
  refine loop (fun x hh => ∃ n : Nat, x = (⟨g1, 0, none⟩, ⟨g2, 0, none⟩, (n : Int)) ∧ n ≤ 4 ∧ hh = h2 ∧ ∀ i, i < n → a[i]! = b[i]!) (fun x => (4 - x.2.2).toNat) ⟨0, rfl, by omega, rfl, fun i hi => by omega⟩ ?_
  rintro x hh ⟨n, rfl, hn, rfl, hs⟩
  refine brd (fun hc => ?_) fun hc => ⟨by rw [lt4_same (by omega) fun i hi => hs i (by omega), lt4_irrefl], M.ext⟩
  rw [Int.toNat_natCast, Nat.mul_one, add_none, add_none, Nat.zero_add]
  refine idx (by omega) (by omega) (M.oI (.there .here) (keyV_get (by omega)) (idx (by omega) (by omega) (M.oI .here (keyV_get (by omega)) ?_)))
  refine br (fun hne => idx (by omega) (by omega) (M.oI (.there .here) (keyV_get (by omega)) (idx (by omega) (by omega) (M.oI .here (keyV_get (by omega)) ⟨?_, M.ext⟩)))) fun he => ?_
  · rw [lt4_at (n := n) (by omega) (by omega) hs (by simpa using hne)]
  · refine ⟨⟨n + 1, by rw [wrap64_succ (by omega)], by omega, rfl, fun i hi => ?_⟩, by rw [wrap64_succ (by omega)]; show _ < _; simp; omega⟩
    by_cases e : i = n
    · subst e; simpa using he
    · exact hs i (by omega)
theorem startAt_at {es : List GEvent} {note : Int} {n : Nat} (hn : n < es.length) (h0 : ∀ i, i < n → (isSt es[i]! && es[i]!.Note == note) = false) (h1 : (isSt es[n]! && es[n]!.Note == note) = true) : startAt es note = es[n]!.At := by
  unfold startAt startEv
  have e : es.find? (fun e => isSt e && e.Note == note) = some es[n]! := by
    rw [getElem!_pos es n hn] at h1 ⊢
    rw [List.find?_eq_some_iff_getElem]
    refine ⟨h1, n, hn, rfl, fun j hj => ?_⟩
    have := h0 j hj
    rw [getElem!_pos es j (by omega)] at this
    rw [this]; rfl
  rw [e]
theorem startAt_none {es : List GEvent} {note : Int} (h0 : ∀ i, i < es.length → (isSt es[i]! && es[i]!.Note == note) = false) : startAt es note = -1 := by
  unfold startAt startEv
  have e : es.find? (fun e => isSt e && e.Note == note) = none := by
    rw [List.find?_eq_none]
    intro x hx
    obtain ⟨i, hi, rfl⟩ := List.mem_iff_getElem.1 hx
    have := h0 i hi
    rw [getElem!_pos es i hi] at this
    simpa using this
  rw [e]
theorem ev_sz : 0 < rEvent.sz := by decide
theorem l08Start_c {b : Option Addr} {l c : Nat} {es : List GEvent} (S : SlR rEvent h b l c es) (note : Int) : CALL prg f_spec_l08Start #[.slice b l c, .int .i64 note] (fun u h' => u = .int .i64 (startAt es note) ∧ Ext h h') h := by
  have hm2 := S.2.2.1
  have hm3 := S.2.1
  have := maxLen_lt
  have hl := S.len
  refine spec_l08Start.call ?_
  refine loop (fun x hh => ∃ n : Nat, x = (b, l, c, note, (n : Int)) ∧ n ≤ l ∧ Ext h hh ∧ ∀ i, i < n → (isSt es[i]! && es[i]!.Note == note) = false) (fun x => (l - x.2.2.2.2).toNat) ⟨0, rfl, by omega, Ext.refl _, fun i hi => by omega⟩ ?_
  rintro x hh ⟨n, rfl, hn, X, hf⟩
  refine brd (fun hc => ?_) fun hc => ⟨by rw [startAt_none fun i hi => hf i (by omega)], X⟩
  have S' := S.ext X
  have next : (isSt es[n]! && es[n]!.Note == note) = false → ((∃ m : Nat, (b, l, c, note, IntKind.i64.wrap ((n : Int) + 1)) = (b, l, c, note, (m : Int)) ∧ m ≤ l ∧ Ext h hh ∧ ∀ i, i < m → (isSt es[i]! && es[i]!.Note == note) = false) ∧ ((l : Int) - IntKind.i64.wrap ((n : Int) + 1)).toNat < ((l : Int) - n).toNat) := fun hn1 =>
    ⟨⟨n + 1, by rw [wrap64_succ (by omega)], by omega, X, fun i hi => by
      by_cases e : i = n
      · subst e; exact hn1
      · exact hf i (by omega)⟩, by rw [wrap64_succ (by omega)]; omega⟩
  refine S'.idn ev_sz (by omega) fun a Ra => Ra.oI (br (fun k1 => ?_) fun k1 => next (by rw [show isSt es[n]! = false from k1]; rfl))
  refine S'.idn ev_sz (by omega) fun a Ra => Ra.oI (br (fun k2 => ?_) fun k2 => next (by rw [show (es[n]!.Note == note) = false from k2, Bool.and_false]))
  exact S'.idn ev_sz (by omega) fun a Ra => Ra.oI1 ⟨by rw [startAt_at (by omega) hf (by rw [show isSt es[n]! = true from k1, show (es[n]!.Note == note) = true from k2]; rfl)], X⟩
theorem l08Key_c {q : Addr} {e : GEvent} (R : RdP rEvent h q e) (st : Int) : CALL prg f_spec_l08Key #[.pointer (some q), .int .i64 st] (fun u h' => u = .agg (keyV (keyL (isSp e && decide (st < e.At)) e)) ∧ Ext h h') h := by
  have z : (⟨Z_4_int64⟩ : Array Value) = keyV [0, 0, 0, 0] := by rfl
  refine spec_l08Key.call ?_
  rw [spec_l08Key.S, z]
  refine (Mem.start h).alc fun g1 h1 x1 M => (R.ext M.ext).oI1 ((R.ext M.ext).oI (M.alc fun g2 h2 x2 M2 => (R.ext M.ext).pinO (by decide) x2 ((R.ext M.ext).pin0 (by decide) x2 ?_)))
  refine M2.sta0 .here (vs := keyV [e.At, 1, e.Note, 0]) rfl (keyV_one _) rfl .here fun h3 M => (R.ext M.ext).oI (br (fun k1 => ?_) fun k1 => ?_)
  · have hk : e.Kind = 1 := by simpa using k1
    refine idx (by omega) (by omega) (M.st1 .here (by show 3 < 4; decide) .here fun h4 M => (R.ext M.ext).oI1 (brd (fun k2 => ?_) fun k2 => ?_))
    · refine idx (by omega) (by omega) (M.st1 .here (by rw [Array.size_setIfInBounds]; show 1 < 4; decide) .here fun h5 M => M.lda0 .here rfl (M.sta0 (.there .here) rfl ?_ rfl (.there .here) fun h6 M => M.lda0 (.there .here) rfl ⟨?_, M.ext⟩))
      · exact keyV_one [e.At, 0, e.Note, 1]
      · rw [keyL, show isSp e = true from k1, decide_eq_true k2, if_pos hk]; rfl
    · refine M.lda0 .here rfl (M.sta0 (.there .here) rfl ?_ rfl (.there .here) fun h6 M => M.lda0 (.there .here) rfl ⟨?_, M.ext⟩)
      · exact keyV_one [e.At, 1, e.Note, 1]
      · rw [keyL, show isSp e = true from k1, decide_eq_false k2, if_pos hk]; rfl
  · have hk : ¬ e.Kind = 1 := by simpa using k1
    refine M.lda0 .here rfl (M.sta0 (.there .here) rfl ?_ rfl (.there .here) fun h6 M => M.lda0 (.there .here) rfl ⟨?_, M.ext⟩)
    · exact keyV_one [e.At, 1, e.Note, 0]
    · rw [keyL, show isSp e = false from k1, if_neg hk]; rfl
end
end Go.Sx
