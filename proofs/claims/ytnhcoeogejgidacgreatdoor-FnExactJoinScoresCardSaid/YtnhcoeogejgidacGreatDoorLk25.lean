/- Tunings and instruments: the rule's and the program's. -/
import Derived.Test.YtnhcoeogejgidacGreatDoorLk24
import Derived.Test.YtnhcoeogejgidacGreatDoorLr6
set_option linter.unusedVariables false
set_option linter.unusedSimpArgs false
namespace Go.Sx
open Go.Proofs
set_option maxRecDepth 100000
set_option maxHeartbeats 1000000

/-- A local copy of a value that was read. -/
theorem localR {α : Type} {r : Rep α} {h : Heap} {x : α} {T n : Nat} {z cs : Array Value} {F : Nat → Heap → Prop} (R : r.rd h cs.toList x) (hz : z.size = n) (hn : r.sz = n)
    (H : ∀ g h', Ext h h' → RdP r h' ⟨g, 0, none⟩ x → F g h') : ALC z T (fun g h1 => STA n h1 ⟨g, 0, none⟩ cs fun h2 => F g h2) h :=
  (Mem.start h).alc fun g h1 x1 M => M.sta0 .here (rsz R hn) (r.rone R) hz .here fun h2 M => H g h2 M.ext (M.rdp .here (r.ext M.ext R))
def degAt (t : GTuning) (i : Nat) : Bool := flt .f32 t.Degrees[i]! t.Octave && (i == 0 || fgt .f32 t.Degrees[i]! t.Degrees[i - 1]!)
def GTuning.ok (t : GTuning) : Bool := inside t.Base 1065353216 1184645120 && inside t.Octave 1065353216 1167458304 && inR t.Degrees.length 1 31 && (t.Degrees[0]! == 0) && (List.range t.Degrees.length).all (degAt t)
def place (a : Nat) : Bool := fge .f32 a 0 && flt .f32 a 1065353216
def GInstrument.ok (x : GInstrument) : Bool := nameOk x.Name && inside x.B 0 1065353216 &&
  if x.Kind = 1 then inside x.A 0 1056964608 && place x.C else if x.Kind = 2 then place x.A && (feq .f32 x.C 0 || feq .f32 x.C 1065353216) else if x.Kind = 3 then place x.A && fin x.C else false
section
variable {h : Heap} {x a : Nat}
theorem c1 : FW .f32 1065353216 1065353216 := fw_c32 (by decide) (by decide)
theorem c05 : FW .f32 1056964608 1056964608 := fw_c32 (by decide) (by decide)
theorem cB : FW .f32 1184645120 1184645120 := fw_c32 (by decide) (by decide)
theorem cO : FW .f32 1167458304 1167458304 := fw_c32 (by decide) (by decide)
theorem cR : FW .f32 1232348160 1232348160 := fw_c32 (by decide) (by decide)
theorem SlR.at0 {α : Type} {r : Rep α} {b : Option Addr} {l c : Nat} {xs : List α} [Inhabited α] {F : Addr → Prop} (S : SlR r h b l c xs) (hz : 0 < r.sz) (h2 : 0 < l) (H : ∀ a, RdP r h a xs[0]! → F a) : IDXS b (0 : Int) l F :=
  S.idx hz (by omega) (by omega) fun a R => by
    have e : a.add ((0 : Int).toNat * r.sz) = a := by rw [show (0 : Int).toNat = 0 from rfl, Nat.zero_mul, add0]
    rw [e] at R
    exact H a R
theorem SlR.idn {α : Type} {r : Rep α} {b : Option Addr} {l c n : Nat} {xs : List α} [Inhabited α] {F : Addr → Prop} (S : SlR r h b l c xs) (hz : 0 < r.sz) (h2 : n < l) (H : ∀ a, RdP r h (a.add ((n : Int).toNat * r.sz)) xs[n]! → F a) : IDXS b (n : Int) l F :=
  S.idx hz (by omega) (by omega) H
theorem l07Base_c (hx : FW .f32 x a) : Ret prg f_spec_l07Base #[.float .f32 x] (.bool (inside a 1065353216 1184645120)) := fun h => by
  refine spec_l07Base.call ?_
  rw [spec_l07Base.S, ord_eq hx c1, ord_eq hx cB]
  exact br (fun hb => ⟨by rw [inside, fge, hb]; rfl, Ext.refl _⟩) fun hb => ⟨by rw [inside, fge, hb]; rfl, Ext.refl _⟩
theorem isBase_c (hx : FW .f32 x a) : Ret prg f_impl_isBase #[.float .f32 x] (.bool (inside a 1065353216 1184645120)) := fun h =>
  impl_isBase.call ((inside_c hx c1 cB).go fun h1 x1 => as_b ⟨rfl, x1⟩)
theorem isRate_c (hx : FW .f32 x a) : Ret prg f_impl_isRate #[.float .f32 x] (.bool (inside a 1065353216 1232348160)) := fun h =>
  impl_isRate.call ((inside_c hx c1 cR).go fun h1 x1 => as_b ⟨rfl, x1⟩)
theorem isPlace_c (hx : FW .f32 x a) : Ret prg f_impl_isPlace #[.float .f32 x] (.bool (place a)) := fun h => by
  refine impl_isPlace.call ?_
  rw [impl_isPlace.S, ord_eq hx fw0, ord_eq hx c1]
  exact br (fun hb => ⟨by rw [place, fge, hb]; rfl, Ext.refl _⟩) fun hb => ⟨by rw [place, fge, hb]; rfl, Ext.refl _⟩
theorem isKeep_c (hx : FW .f32 x a) : Ret prg f_impl_isKeep #[.float .f32 x] (.bool (place a)) := fun h => by
  refine impl_isKeep.call ?_
  rw [impl_isKeep.S, ord_eq hx fw0, ord_eq hx c1]
  exact br (fun hb => ⟨by rw [place, fge, hb]; rfl, Ext.refl _⟩) fun hb => ⟨by rw [place, fge, hb]; rfl, Ext.refl _⟩
theorem between_c {m n : Nat} (hx : FW .f32 x a) (hm : FW .f32 m n) : Ret prg f_spec_l08Between #[.float .f32 x, .float .f32 m, .bool false] (.bool (inside a 0 n)) := fun h => by
  refine spec_l08Between.call ?_
  rw [spec_l08Between.S, ord_eq hx fw0, ord_eq hx hm]
  exact br_f rfl (br (fun hb => ⟨by rw [inside, fge, hb]; rfl, Ext.refl _⟩) fun hb => ⟨by rw [inside, fge, hb]; rfl, Ext.refl _⟩)
theorem below_c (hx : FW .f32 x a) : Ret prg f_spec_l08Between #[.float .f32 x, .float .f32 1065353216, .bool true] (.bool (place a)) := fun h => by
  refine spec_l08Between.call ?_
  rw [spec_l08Between.S, ord_eq hx fw0, ord_eq hx c1]
  exact br_t rfl (br (fun hb => ⟨by rw [place, fge, hb]; rfl, Ext.refl _⟩) fun hb => ⟨by rw [place, fge, hb]; rfl, Ext.refl _⟩)
theorem wrap_pred {n : Nat} (h0 : 0 < n) (h : n < 9223372036854775808) : IntKind.i64.wrap ((n : Int) - 1) = ((n - 1 : Nat) : Int) := by rw [wrap64 (by omega) (by omega)]; omega
theorem l07Ok_c {q : Addr} {t : GTuning} (R : RdP rTuning h q t) : CALL prg f_spec_l07Ok #[.pointer (some q)] (fun u h' => u = .bool t.ok ∧ Ext h h') h := by
  have hm := maxLen_lt
  refine spec_l07Ok.call (R.oL fun b l c S => R.oF1 fun y hy => goX (l07Base_c hy h) fun h1 x1 => as_b ?_)
  have hl := S.len
  have s1 := S.2.1
  have s2 := S.2.2.1
  refine brN (fun hb => ⟨by rw [GTuning.ok, hb]; rfl, x1⟩) fun hb => (R.ext x1).oF fun z hz => ?_
  rw [ord_eq hz c1]
  refine br (fun k1 => (R.ext x1).oF fun w hw => ?_) fun k1 => ⟨by rw [GTuning.ok, inside, inside, fge, fge, k1]; simp, x1⟩
  rw [ord_eq hw cO]
  refine brN (fun k2 => ⟨by rw [GTuning.ok, inside, inside, fle, fle, k2]; simp, x1⟩) fun k2 => ?_
  have ho : inside t.Octave 1065353216 1167458304 = true := by rw [inside, fge, fle, k1, k2]; rfl
  refine brd (fun e1 => ⟨by rw [GTuning.ok, hl, inR, decide_eq_false (p := (1 : Int) ≤ (l : Int)) (by omega)]; simp, x1⟩) fun e1 => brd (fun e2 => ⟨by rw [GTuning.ok, hl, inR, decide_eq_false (p := (l : Int) ≤ 31) (by omega)]; simp, x1⟩) fun e2 => ?_
  have hlen : inR (t.Degrees.length : Int) 1 31 = true := by rw [hl, inR, decide_eq_true (by omega), decide_eq_true (by omega)]; rfl
  refine (R.ext x1).oL fun b1 l1 c1' S1 => ?_
  have e3 := S1.len
  refine S1.at0 (by decide) (by omega) fun p Rp => Rp.oF1 fun y hy => goE x1 (l01Same_c hy fw0 _) fun h2 x2 => as_b (brN (fun hb => ⟨by rw [GTuning.ok, hb]; simp, x2⟩) fun h0 => ?_)
  refine loop (fun x hh => ∃ n : Nat, x = (q, (l : Int), (n : Int)) ∧ n ≤ l ∧ Ext h hh ∧ ∀ i, i < n → degAt t i = true) (fun x => ((l : Int) - x.2.2).toNat) ⟨0, rfl, by omega, x2, fun i hi => by omega⟩ ?_
  rintro x hh ⟨n, rfl, hn, X, hd⟩
  have R' := R.ext X
  have no : n < l → degAt t n = false → (Value.bool false = .bool t.ok ∧ Ext h hh) := fun e hf => ⟨by rw [GTuning.ok, all_false (f := degAt t) (by rw [hl]; exact e) hf, Bool.and_false], X⟩
  refine brd (fun hc => ?_) fun hc => ⟨by rw [GTuning.ok, hb, ho, hlen, h0, all_true fun i hi => hd i (by omega)]; rfl, X⟩
  have next : degAt t n = true → ((∃ m : Nat, (q, (l : Int), IntKind.i64.wrap ((n : Int) + 1)) = (q, (l : Int), (m : Int)) ∧ m ≤ l ∧ Ext h hh ∧ ∀ i, i < m → degAt t i = true) ∧ ((l : Int) - IntKind.i64.wrap ((n : Int) + 1)).toNat < ((l : Int) - n).toNat) := fun hn1 =>
    ⟨⟨n + 1, by rw [wrap64_succ (by omega)], by omega, X, fun i hi => by
      by_cases e : i = n
      · subst e; exact hn1
      · exact hd i (by omega)⟩, by rw [wrap64_succ (by omega)]; omega⟩
  refine brd (fun h0 => ?_) fun h0 => ?_
  · rw [wrap_pred (by omega) (by omega)]
    refine R'.oL fun b1 l1 c1 S1 => ?_
    have e1 := S1.len
    refine S1.idx (by decide) (by omega) (by omega) fun p Rp => Rp.oF1 fun y hy => R'.oL fun b2 l2 c2 S2 => ?_
    have e2 := S2.len
    refine S2.idx (by decide) (by omega) (by omega) fun p Rp => Rp.oF1 fun z hz => ?_
    rw [ord_eq hy hz]
    have en : (n == 0) = false := by simp; omega
    refine brN (fun k => no (by omega) (by rw [degAt, en, Bool.false_or, show fgt .f32 t.Degrees[n]! t.Degrees[n - 1]! = false from k, Bool.and_false])) fun k1 => R'.oL fun b3 l3 c3 S3 => ?_
    have e3 := S3.len
    refine S3.idx (by decide) (by omega) (by omega) fun p Rp => Rp.oF1 fun y hy => R'.oF fun z hz => ?_
    rw [ord_eq hy hz]
    refine brN (fun k => no (by omega) (by rw [degAt, show flt .f32 t.Degrees[n]! t.Octave = false from k, Bool.false_and])) fun k2 => next ?_
    rw [degAt, show flt .f32 t.Degrees[n]! t.Octave = true from k2, show fgt .f32 t.Degrees[n]! t.Degrees[n - 1]! = true from k1, Bool.or_true]; rfl
  · obtain rfl : n = 0 := by omega
    refine R'.oL fun b3 l3 c3 S3 => ?_
    have e3 := S3.len
    refine S3.idx (by decide) (by omega) (by omega) fun p Rp => Rp.oF1 fun y hy => R'.oF fun z hz => ?_
    rw [ord_eq hy hz]
    refine brN (fun k => no (by omega) (by rw [degAt, show flt .f32 t.Degrees[0]! t.Octave = false from k, Bool.false_and])) fun k2 => next ?_
    rw [degAt, show flt .f32 t.Degrees[0]! t.Octave = true from k2]; rfl
theorem spec_ValidTuning_c {cs : Array Value} {t : GTuning} (R : rTuning.rd h cs.toList t) : CALL prg f_spec_ValidTuning #[.agg cs] (fun u h' => u = .bool t.ok ∧ Ext h h') h :=
  spec_ValidTuning.call (alcR R fun g h1 x1 R1 => goE x1 (l07Ok_c R1) fun h2 x2 => as_b ⟨rfl, x2⟩)
theorem ValidTuning_c {cs : Array Value} {t : GTuning} (R : rTuning.rd h cs.toList t) : CALL prg f_impl_ValidTuning #[.agg cs] (fun u h' => u = .bool t.ok ∧ Ext h h') h := by
  have hm := maxLen_lt
  refine impl_ValidTuning.call (alcR R fun g h1 x1 R1 => R1.oF2 fun y hy => goE (Ext.refl h1) (isBase_c hy _) fun h2 x2 => as_b (brN (fun hb => ⟨by rw [GTuning.ok, hb]; rfl, x1.trans x2⟩) fun hb => (R1.ext x2).oF2 fun z hz => goE x2 (inside_c hz c1 cO _) fun h3 x3 => as_b (brN (fun ho => ⟨by rw [GTuning.ok, ho]; simp, x1.trans x3⟩) fun ho => (R1.ext x3).oL2 fun b l c S => goE x3 (length_f32_c _ _ _ _) fun h4 x4 => as_i (goE x4 (within_c _ _ _ _) fun h5 x5 => as_b (brN (fun e => ⟨?_, x1.trans x5⟩) fun e => ?_)))))
  · rw [← S.len] at e
    rw [GTuning.ok, e]; simp
  rw [← S.len] at e
  have hl := S.len
  have hp : 1 ≤ l := by
    unfold inR at e
    simp only [Bool.and_eq_true, decide_eq_true_eq] at e
    omega
  refine (R1.ext x5).oL2 fun b1 l1 c1' S1 => ?_
  have e1 := S1.len
  refine S1.at0 (by decide) (by omega) fun p Rp => Rp.oF1 fun y hy => goE x5 (bitsOf_c hy _) fun h6 x6 => as_i (br (fun k => ⟨?_, x1.trans x6⟩) fun k => ?_)
  · have : (t.Degrees[0]! == 0) = false := by
      rw [beq_eq_false_iff_ne]
      simp only [bne_iff_ne, ne_eq] at k
      omega
    rw [GTuning.ok, this]; simp
  have h0 : (t.Degrees[0]! == 0) = true := by
    rw [beq_iff_eq]
    simp only [bne_eq_false_iff_eq] at k
    omega
  unfold impl_ValidTuning.J3
  refine (R1.ext x6).oL fun b2 l2 c2 S2 => ?_
  have e2 := S2.len
  have s1 := S2.2.1
  have s2 := S2.2.2.1
  refine loop (fun x hh => ∃ n : Nat, x = (⟨g, 0, none⟩, b2, l2, c2, (l2 : Int), (n : Int)) ∧ n ≤ l2 ∧ Ext h6 hh ∧ ∀ i, i < n → degAt t i = true) (fun x => ((l2 : Int) - x.2.2.2.2.2).toNat) ⟨0, rfl, by omega, Ext.refl _, fun i hi => by omega⟩ ?_
  rintro x hh ⟨n, rfl, hn, X, hd⟩
  have R' := R1.ext (x6.trans X)
  have X' := x1.trans (x6.trans X)
  have no : n < l2 → degAt t n = false → (Value.bool false = .bool t.ok ∧ Ext h hh) := fun e hf => ⟨by rw [GTuning.ok, all_false (f := degAt t) (by rw [e2]; exact e) hf, Bool.and_false], X'⟩
  refine brd (fun hc => ?_) fun hc => ⟨by rw [GTuning.ok, hb, ho, e, h0, all_true fun i hi => hd i (by omega)]; rfl, X'⟩
  have next : degAt t n = true → ((∃ m : Nat, ((⟨g, 0, none⟩ : Addr), b2, l2, c2, (l2 : Int), IntKind.i64.wrap ((n : Int) + 1)) = (⟨g, 0, none⟩, b2, l2, c2, (l2 : Int), (m : Int)) ∧ m ≤ l2 ∧ Ext h6 hh ∧ ∀ i, i < m → degAt t i = true) ∧ ((l2 : Int) - IntKind.i64.wrap ((n : Int) + 1)).toNat < ((l2 : Int) - n).toNat) := fun hn1 =>
    ⟨⟨n + 1, by rw [wrap64_succ (by omega)], by omega, X, fun i hi => by
      by_cases e : i = n
      · subst e; exact hn1
      · exact hd i (by omega)⟩, by rw [wrap64_succ (by omega)]; omega⟩
  refine (S2.ext X).idx (by decide) (by omega) (by omega) fun p Rp => Rp.oF1 fun y hy => R'.oF fun z hz => ?_
  rw [ord_eq hy hz]
  refine brN (fun k => no (by omega) (by rw [degAt, show flt .f32 t.Degrees[n]! t.Octave = false from k, Bool.false_and])) fun k2 => brd (fun h0 => ?_) fun h0 => ?_
  · rw [wrap_pred (by omega) (by omega)]
    refine R'.oL fun b3 l3 c3 S3 => ?_
    have e3 := S3.len
    refine S3.idx (by decide) (by omega) (by omega) fun p Rp => Rp.oF1 fun z hz => ?_
    rw [ord_eq hy hz]
    have en : (n == 0) = false := by simp; omega
    refine brN (fun k => no (by omega) (by rw [degAt, en, Bool.false_or, show fgt .f32 t.Degrees[n]! t.Degrees[n - 1]! = false from k, Bool.and_false])) fun k1 => next ?_
    rw [degAt, show flt .f32 t.Degrees[n]! t.Octave = true from k2, show fgt .f32 t.Degrees[n]! t.Degrees[n - 1]! = true from k1, Bool.or_true]; rfl
  · obtain rfl : n = 0 := by omega
    refine next ?_
    rw [degAt, show flt .f32 t.Degrees[0]! t.Octave = true from k2]; rfl
theorem l08Instrument_c {q : Addr} {x : GInstrument} (R : RdP rInstrument h q x) : CALL prg f_spec_l08Instrument #[.pointer (some q)] (fun u h' => u = .bool x.ok ∧ Ext h h') h := by
  refine spec_l08Instrument.call (R.oS1 fun hs => goE (Ext.refl h) (l08Name_c _ hs _) fun h1 x1 => as_b (brN (fun hn => ⟨by rw [GInstrument.ok, hn]; rfl, x1⟩) fun hn => (R.ext x1).oF fun y hy => goE x1 (between_c hy c1 _) fun h2 x2 => as_b (brN (fun hb => ⟨by rw [GInstrument.ok, hb]; simp, x2⟩) fun hb => ?_)))
  have R2 := R.ext x2
  have k : x.ok = if x.Kind = 1 then inside x.A 0 1056964608 && place x.C else if x.Kind = 2 then place x.A && (feq .f32 x.C 0 || feq .f32 x.C 1065353216) else if x.Kind = 3 then place x.A && fin x.C else false := by rw [GInstrument.ok, hn, hb]; rfl
  refine R2.oI (br (fun e1 => ?_) fun e1 => br (fun e2 => ?_) fun e2 => br (fun e3 => ?_) fun e3 => ?_)
  · rw [if_pos (by simpa using e1)] at k
    refine R2.oF fun y hy => goE x2 (between_c hy c05 _) fun h3 x3 => as_b (br (fun d => ?_) fun d => ⟨by rw [k, d]; rfl, x3⟩)
    exact (R.ext x3).oF fun y hy => goE x3 (below_c hy _) fun h4 x4 => as_b ⟨by rw [k, d]; rfl, x4⟩
  · rw [if_neg (by simpa using e1), if_pos (by simpa using e2)] at k
    refine R2.oF fun y hy => goE x2 (below_c hy _) fun h3 x3 => as_b (br (fun d => ?_) fun d => ⟨by rw [k, d]; rfl, x3⟩)
    refine (R.ext x3).oF fun y hy => ?_
    rw [ord_eq hy fw0]
    refine br (fun d2 => ⟨by rw [k, d, show feq .f32 x.C 0 = true from d2]; rfl, x3⟩) fun d2 => (R.ext x3).oF fun y hy => ?_
    rw [ord_eq hy c1]
    exact ⟨by rw [k, d, show feq .f32 x.C 0 = false from d2]; rfl, x3⟩
  · rw [if_neg (by simpa using e1), if_neg (by simpa using e2), if_pos (by simpa using e3)] at k
    refine R2.oF fun y hy => goE x2 (below_c hy _) fun h3 x3 => as_b (br (fun d => ?_) fun d => ⟨by rw [k, d]; rfl, x3⟩)
    exact (R.ext x3).oF fun y hy => goE x3 (l01Finite_c hy _) fun h4 x4 => as_b ⟨by rw [k, d]; rfl, x4⟩
  · rw [if_neg (by simpa using e1), if_neg (by simpa using e2), if_neg (by simpa using e3)] at k
    exact ⟨by rw [k], x2⟩
theorem ValidInstrument_c {cs : Array Value} {x : GInstrument} (R0 : rInstrument.rd h cs.toList x) : CALL prg f_impl_ValidInstrument #[.agg cs] (fun u h' => u = .bool x.ok ∧ Ext h h') h := by
  refine impl_ValidInstrument.call (alcR R0 fun g h0 x0 R => R.oS2 fun hs => goE (Ext.refl h0) (isName_c _ hs _) fun h1 x1 => as_b (brN (fun hn => ⟨by rw [GInstrument.ok, hn]; rfl, x0.trans x1⟩) fun hn => (R.ext x1).oF2 fun y hy => goE x1 (inside_c hy fw0 c1 _) fun h2 x2 => as_b (brN (fun hb => ⟨by rw [GInstrument.ok, hb]; simp, x0.trans x2⟩) fun hb => ?_)))
  have R2 := R.ext x2
  have k : x.ok = if x.Kind = 1 then inside x.A 0 1056964608 && place x.C else if x.Kind = 2 then place x.A && (feq .f32 x.C 0 || feq .f32 x.C 1065353216) else if x.Kind = 3 then place x.A && fin x.C else false := by rw [GInstrument.ok, hn, hb]; rfl
  refine R2.oI (br (fun e1 => ?_) fun e1 => br (fun e2 => ?_) fun e2 => br (fun e3 => ?_) fun e3 => ?_)
  · rw [if_pos (by simpa using e1)] at k
    refine R2.oF fun y hy => goE x2 (inside_c hy fw0 c05 _) fun h3 x3 => as_b (br (fun d => ?_) fun d => ⟨by rw [k, d]; rfl, x0.trans x3⟩)
    exact (R.ext x3).oF fun y hy => goE x3 (isPlace_c hy _) fun h4 x4 => as_b ⟨by rw [k, d]; rfl, x0.trans x4⟩
  · rw [if_neg (by simpa using e1), if_pos (by simpa using e2)] at k
    refine R2.oF fun y hy => goE x2 (isKeep_c hy _) fun h3 x3 => as_b (br (fun d => ?_) fun d => ⟨by rw [k, d]; rfl, x0.trans x3⟩)
    refine (R.ext x3).oF fun y hy => ?_
    rw [ord_eq hy fw0]
    refine br (fun d2 => ⟨by rw [k, d, show feq .f32 x.C 0 = true from d2]; rfl, x0.trans x3⟩) fun d2 => (R.ext x3).oF fun y hy => ?_
    rw [ord_eq hy c1]
    exact ⟨by rw [k, d, show feq .f32 x.C 0 = false from d2]; rfl, x0.trans x3⟩
  · rw [if_neg (by simpa using e1), if_neg (by simpa using e2), if_pos (by simpa using e3)] at k
    refine R2.oF fun y hy => goE x2 (isKeep_c hy _) fun h3 x3 => as_b (br (fun d => ?_) fun d => ⟨by rw [k, d]; rfl, x0.trans x3⟩)
    exact (R.ext x3).oF fun y hy => goE x3 (isFinite_c hy _) fun h4 x4 => as_b ⟨by rw [k, d]; rfl, x0.trans x4⟩
  · rw [if_neg (by simpa using e1), if_neg (by simpa using e2), if_neg (by simpa using e3)] at k
    exact ⟨by rw [k], x0.trans x2⟩
end
end Go.Sx
