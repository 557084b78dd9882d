/- What functions of this seat's program compute, told in words (a predicate over heaps for each), and the proofs that the words are no more than the code's own weakest precondition. -/
import Derived.Test.YtnhcoeogejgidabGreatDoorTab
import Derived.Test.YtnhcoeogejgidabGreatDoorLm22
import Derived.Test.YtnhcoeogejgidabGreatDoorLr3
import Derived.Test.YtnhcoeogejgidabGreatDoorLg
import Derived.Test.YtnhcoeogejgidabGreatDoorLp2
import Derived.Test.YtnhcoeogejgidabGreatDoorLp5
import Derived.Test.YtnhcoeogejgidabGreatDoorTabE
namespace Go.Sx
open Go.Proofs
set_option linter.unusedVariables false
set_option maxRecDepth 100000

def laws_eqTuning.S (a_0 : Array Value) (b_1 : Array Value) (Post : Value → Heap → Prop) (h : Heap) : Prop :=
    ALC a_0 T_impl_Tuning (fun g1 h2 =>
    ALC b_1 T_impl_Tuning (fun g3 h4 =>
    oF .f32 (cell h4 ⟨g1, 0, none⟩) fun r5 =>
    FFC .f32 r5 .f64 fun r6 =>
    oF .f32 (cell h4 ⟨g3, 0, none⟩) fun r7 =>
    FFC .f32 r7 .f64 fun r8 =>
    CALL prg f_laws_sameFloat #[.float .f64 r6, .float .f64 r8] (fun q9 h10 =>
    asB q9 fun b11 =>
    BIF (!b11) (
    Post (.bool false) h10) (
    oF .f32 (cell h10 ⟨g1, 1, none⟩) fun r12 =>
    FFC .f32 r12 .f64 fun r13 =>
    oF .f32 (cell h10 ⟨g3, 1, none⟩) fun r14 =>
    FFC .f32 r14 .f64 fun r15 =>
    CALL prg f_laws_sameFloat #[.float .f64 r13, .float .f64 r15] (fun q16 h17 =>
    asB q16 fun b18 =>
    BIF (!b18) (
    Post (.bool false) h17) (
    oL (cell h17 ⟨g1, 2, none⟩) fun l19b l19l l19c =>
    oL (cell h17 ⟨g3, 2, none⟩) fun l20b l20l l20c =>
    CALL prg f_laws_eqFloat32S #[.slice l19b l19l l19c, .slice l20b l20l l20c] (fun q21 h22 =>
    asB q21 fun b23 =>
    BIF (!b23) (
    Post (.bool false) h22) (
    Post (.bool true) h22)) h17)) h10)) h4) h2) h
noncomputable def laws_eqTuning.code : Code := (Tryz.f27.body).getD .skip
theorem laws_eqTuning.call {a_0 : Array Value} {b_1 : Array Value} {Post : Value → Heap → Prop} {h : Heap} (H : laws_eqTuning.S a_0 b_1 Post h) : CALL prg f_laws_eqTuning #[.agg a_0, .agg b_1] Post h :=
  fn_call tau_ok mixed (c := laws_eqTuning.code) (Λ := lookL []) Tryz.func27 (by kernel_rfl) (by kernel_rfl)
    (Rq.free (by kernel_rfl))
    (Eq.mp (by kernel_rfl) H)

def laws_eqInstrument.S (a_0 : Array Value) (b_1 : Array Value) (Post : Value → Heap → Prop) (h : Heap) : Prop :=
    ALC a_0 T_impl_Instrument (fun g1 h2 =>
    ALC b_1 T_impl_Instrument (fun g3 h4 =>
    oS (cell h4 ⟨g1, 0, none⟩) fun s5 =>
    oS (cell h4 ⟨g3, 0, none⟩) fun s6 =>
    BIF (!(ByteArray.toList s5 == ByteArray.toList s6)) (
    Post (.bool false) h4) (
    oI .i64 (cell h4 ⟨g1, 1, none⟩) fun n7 =>
    oI .i64 (cell h4 ⟨g3, 1, none⟩) fun n8 =>
    BIF (n7 != n8) (
    Post (.bool false) h4) (
    oF .f32 (cell h4 ⟨g1, 2, none⟩) fun r9 =>
    FFC .f32 r9 .f64 fun r10 =>
    oF .f32 (cell h4 ⟨g3, 2, none⟩) fun r11 =>
    FFC .f32 r11 .f64 fun r12 =>
    CALL prg f_laws_sameFloat #[.float .f64 r10, .float .f64 r12] (fun q13 h14 =>
    asB q13 fun b15 =>
    BIF (!b15) (
    Post (.bool false) h14) (
    oF .f32 (cell h14 ⟨g1, 3, none⟩) fun r16 =>
    FFC .f32 r16 .f64 fun r17 =>
    oF .f32 (cell h14 ⟨g3, 3, none⟩) fun r18 =>
    FFC .f32 r18 .f64 fun r19 =>
    CALL prg f_laws_sameFloat #[.float .f64 r17, .float .f64 r19] (fun q20 h21 =>
    asB q20 fun b22 =>
    BIF (!b22) (
    Post (.bool false) h21) (
    oF .f32 (cell h21 ⟨g1, 4, none⟩) fun r23 =>
    FFC .f32 r23 .f64 fun r24 =>
    oF .f32 (cell h21 ⟨g3, 4, none⟩) fun r25 =>
    FFC .f32 r25 .f64 fun r26 =>
    CALL prg f_laws_sameFloat #[.float .f64 r24, .float .f64 r26] (fun q27 h28 =>
    asB q27 fun b29 =>
    BIF (!b29) (
    Post (.bool false) h28) (
    Post (.bool true) h28)) h21)) h14)) h4))) h2) h
noncomputable def laws_eqInstrument.code : Code := (Tryz.f66.body).getD .skip
theorem laws_eqInstrument.call {a_0 : Array Value} {b_1 : Array Value} {Post : Value → Heap → Prop} {h : Heap} (H : laws_eqInstrument.S a_0 b_1 Post h) : CALL prg f_laws_eqInstrument #[.agg a_0, .agg b_1] Post h :=
  fn_call tau_ok mixed (c := laws_eqInstrument.code) (Λ := lookL []) Tryz.func66 (by kernel_rfl) (by kernel_rfl)
    (Rq.free (by kernel_rfl))
    (Eq.mp (by kernel_rfl) H)

def laws_eqInstrumentS.B4 (Post : Value → Heap → Prop) (N4 : (Option Addr × Nat × Nat × Option Addr × Nat × Nat × Int) → Heap → Prop) : Option Addr × Nat × Nat × Option Addr × Nat × Nat × Int → Heap → Prop
  | (a_0b, a_0l, a_0c, b_1b, b_1l, b_1c, i_5), h =>
    BIF ((decide (i_5 < (a_0l : Int)))) (
    IDXS a_0b i_5 a_0l fun p7 =>
    LDA 5 h ((Addr.add p7 ((Int.toNat i_5) * 5))) fun a8 =>
    IDXS b_1b i_5 b_1l fun p9 =>
    LDA 5 h ((Addr.add p9 ((Int.toNat i_5) * 5))) fun a10 =>
    CALL prg f_laws_eqInstrument #[.agg a8, .agg a10] (fun q11 h12 =>
    asB q11 fun b13 =>
    BIF (!b13) (
    Post (.bool false) h12) (
    N4 (a_0b, a_0l, a_0c, b_1b, b_1l, b_1c, ((IntKind.i64.wrap (i_5 + (1 : Int))))) h12)) h) (
    Post (.bool true) h)
def laws_eqInstrumentS.g4 (fr : Frame) : Option Addr × Nat × Nat × Option Addr × Nat × Nat × Int := ((gLb (lget fr 0)), (gLl (lget fr 0)), (gLc (lget fr 0)), (gLb (lget fr 1)), (gLl (lget fr 1)), (gLc (lget fr 1)), (gI (lget fr 5)))
def laws_eqInstrumentS.l4 (Post : Value → Heap → Prop) : Frame → Heap → Prop := fun fr h => GRD (shape (kds 27 [(0, .l), (1, .l), (5, .i .i64)]) fr) (LOOP (laws_eqInstrumentS.B4 Post) (laws_eqInstrumentS.g4 fr) h)
def laws_eqInstrumentS.S (a_0b : Option Addr) (a_0l a_0c : Nat) (b_1b : Option Addr) (b_1l b_1c : Nat) (Post : Value → Heap → Prop) (h : Heap) : Prop :=
    BIF ((a_0l : Int) != (b_1l : Int)) (
    Post (.bool false) h) (
    LOOP (laws_eqInstrumentS.B4 Post) (a_0b, a_0l, a_0c, b_1b, b_1l, b_1c, (0 : Int)) h)
noncomputable def laws_eqInstrumentS.code : Code := (Tryz.f28.body).getD .skip
theorem laws_eqInstrumentS.call {a_0b : Option Addr} {a_0l a_0c : Nat} {b_1b : Option Addr} {b_1l b_1c : Nat} {Post : Value → Heap → Prop} {h : Heap} (H : laws_eqInstrumentS.S a_0b a_0l a_0c b_1b b_1l b_1c Post h) : CALL prg f_laws_eqInstrumentS #[.slice a_0b a_0l a_0c, .slice b_1b b_1l b_1c] Post h :=
  fn_call tau_ok mixed (c := laws_eqInstrumentS.code) (Λ := lookL [(1000004, laws_eqInstrumentS.l4 Post)]) Tryz.func28 (by kernel_rfl) (by kernel_rfl)
    (Rq.seq (by kernel_rfl) (Rq.free (by kernel_rfl)) (Rq.seq (by kernel_rfl) (Rq.free (by kernel_rfl)) (Rq.seq (by kernel_rfl) (Rq.seq (by kernel_rfl) (Rq.free (by kernel_rfl)) (Rq.block (Rq.loop (laws_eqInstrumentS.l4 Post) (by kernel_rfl) (segL (g := laws_eqInstrumentS.g4) tau_ok mixed (Λ := fun N4 => lookL []) (fun _ _ _ => by kernel_rfl) (fun N4 => (Rq.free (by kernel_rfl))))))) (Rq.free (by kernel_rfl)))))
    (Eq.mp (by kernel_rfl) H)

def laws_eqEvent.S (a_0 : Array Value) (b_1 : Array Value) (Post : Value → Heap → Prop) (h : Heap) : Prop :=
    ALC a_0 T_impl_Event (fun g1 h2 =>
    ALC b_1 T_impl_Event (fun g3 h4 =>
    oI .i64 (cell h4 ⟨g1, 0, none⟩) fun n5 =>
    oI .i64 (cell h4 ⟨g3, 0, none⟩) fun n6 =>
    BIF (n5 != n6) (
    Post (.bool false) h4) (
    oI .i64 (cell h4 ⟨g1, 1, none⟩) fun n7 =>
    oI .i64 (cell h4 ⟨g3, 1, none⟩) fun n8 =>
    BIF (n7 != n8) (
    Post (.bool false) h4) (
    oI .i64 (cell h4 ⟨g1, 2, none⟩) fun n9 =>
    oI .i64 (cell h4 ⟨g3, 2, none⟩) fun n10 =>
    BIF (n9 != n10) (
    Post (.bool false) h4) (
    oI .i64 (cell h4 ⟨g1, 3, none⟩) fun n11 =>
    oI .i64 (cell h4 ⟨g3, 3, none⟩) fun n12 =>
    BIF (n11 != n12) (
    Post (.bool false) h4) (
    oI .i64 (cell h4 ⟨g1, 4, none⟩) fun n13 =>
    oI .i64 (cell h4 ⟨g3, 4, none⟩) fun n14 =>
    BIF (n13 != n14) (
    Post (.bool false) h4) (
    oF .f32 (cell h4 ⟨g1, 5, none⟩) fun r15 =>
    FFC .f32 r15 .f64 fun r16 =>
    oF .f32 (cell h4 ⟨g3, 5, none⟩) fun r17 =>
    FFC .f32 r17 .f64 fun r18 =>
    CALL prg f_laws_sameFloat #[.float .f64 r16, .float .f64 r18] (fun q19 h20 =>
    asB q19 fun b21 =>
    BIF (!b21) (
    Post (.bool false) h20) (
    Post (.bool true) h20)) h4)))))) h2) h
noncomputable def laws_eqEvent.code : Code := (Tryz.f67.body).getD .skip
theorem laws_eqEvent.call {a_0 : Array Value} {b_1 : Array Value} {Post : Value → Heap → Prop} {h : Heap} (H : laws_eqEvent.S a_0 b_1 Post h) : CALL prg f_laws_eqEvent #[.agg a_0, .agg b_1] Post h :=
  fn_call tau_ok mixed (c := laws_eqEvent.code) (Λ := lookL []) Tryz.func67 (by kernel_rfl) (by kernel_rfl)
    (Rq.free (by kernel_rfl))
    (Eq.mp (by kernel_rfl) H)

def laws_eqEventS.B4 (Post : Value → Heap → Prop) (N4 : (Option Addr × Nat × Nat × Option Addr × Nat × Nat × Int) → Heap → Prop) : Option Addr × Nat × Nat × Option Addr × Nat × Nat × Int → Heap → Prop
  | (a_0b, a_0l, a_0c, b_1b, b_1l, b_1c, i_5), h =>
    BIF ((decide (i_5 < (a_0l : Int)))) (
    IDXS a_0b i_5 a_0l fun p7 =>
    LDA 6 h ((Addr.add p7 ((Int.toNat i_5) * 6))) fun a8 =>
    IDXS b_1b i_5 b_1l fun p9 =>
    LDA 6 h ((Addr.add p9 ((Int.toNat i_5) * 6))) fun a10 =>
    CALL prg f_laws_eqEvent #[.agg a8, .agg a10] (fun q11 h12 =>
    asB q11 fun b13 =>
    BIF (!b13) (
    Post (.bool false) h12) (
    N4 (a_0b, a_0l, a_0c, b_1b, b_1l, b_1c, ((IntKind.i64.wrap (i_5 + (1 : Int))))) h12)) h) (
    Post (.bool true) h)
def laws_eqEventS.g4 (fr : Frame) : Option Addr × Nat × Nat × Option Addr × Nat × Nat × Int := ((gLb (lget fr 0)), (gLl (lget fr 0)), (gLc (lget fr 0)), (gLb (lget fr 1)), (gLl (lget fr 1)), (gLc (lget fr 1)), (gI (lget fr 5)))
def laws_eqEventS.l4 (Post : Value → Heap → Prop) : Frame → Heap → Prop := fun fr h => GRD (shape (kds 27 [(0, .l), (1, .l), (5, .i .i64)]) fr) (LOOP (laws_eqEventS.B4 Post) (laws_eqEventS.g4 fr) h)
def laws_eqEventS.S (a_0b : Option Addr) (a_0l a_0c : Nat) (b_1b : Option Addr) (b_1l b_1c : Nat) (Post : Value → Heap → Prop) (h : Heap) : Prop :=
    BIF ((a_0l : Int) != (b_1l : Int)) (
    Post (.bool false) h) (
    LOOP (laws_eqEventS.B4 Post) (a_0b, a_0l, a_0c, b_1b, b_1l, b_1c, (0 : Int)) h)
noncomputable def laws_eqEventS.code : Code := (Tryz.f29.body).getD .skip
theorem laws_eqEventS.call {a_0b : Option Addr} {a_0l a_0c : Nat} {b_1b : Option Addr} {b_1l b_1c : Nat} {Post : Value → Heap → Prop} {h : Heap} (H : laws_eqEventS.S a_0b a_0l a_0c b_1b b_1l b_1c Post h) : CALL prg f_laws_eqEventS #[.slice a_0b a_0l a_0c, .slice b_1b b_1l b_1c] Post h :=
  fn_call tau_ok mixed (c := laws_eqEventS.code) (Λ := lookL [(1000004, laws_eqEventS.l4 Post)]) Tryz.func29 (by kernel_rfl) (by kernel_rfl)
    (Rq.seq (by kernel_rfl) (Rq.free (by kernel_rfl)) (Rq.seq (by kernel_rfl) (Rq.free (by kernel_rfl)) (Rq.seq (by kernel_rfl) (Rq.seq (by kernel_rfl) (Rq.free (by kernel_rfl)) (Rq.block (Rq.loop (laws_eqEventS.l4 Post) (by kernel_rfl) (segL (g := laws_eqEventS.g4) tau_ok mixed (Λ := fun N4 => lookL []) (fun _ _ _ => by kernel_rfl) (fun N4 => (Rq.free (by kernel_rfl))))))) (Rq.free (by kernel_rfl)))))
    (Eq.mp (by kernel_rfl) H)

def laws_eqScore.S (a_0 : Array Value) (b_1 : Array Value) (Post : Value → Heap → Prop) (h : Heap) : Prop :=
    ALC a_0 T_impl_Score (fun g1 h2 =>
    ALC b_1 T_impl_Score (fun g3 h4 =>
    oF .f32 (cell h4 ⟨g1, 0, none⟩) fun r5 =>
    FFC .f32 r5 .f64 fun r6 =>
    oF .f32 (cell h4 ⟨g3, 0, none⟩) fun r7 =>
    FFC .f32 r7 .f64 fun r8 =>
    CALL prg f_laws_sameFloat #[.float .f64 r6, .float .f64 r8] (fun q9 h10 =>
    asB q9 fun b11 =>
    BIF (!b11) (
    Post (.bool false) h10) (
    LDA 3 h10 ⟨g1, 1, none⟩ fun a12 =>
    LDA 3 h10 ⟨g3, 1, none⟩ fun a13 =>
    CALL prg f_laws_eqTuning #[.agg a12, .agg a13] (fun q14 h15 =>
    asB q14 fun b16 =>
    BIF (!b16) (
    Post (.bool false) h15) (
    oL (cell h15 ⟨g1, 4, none⟩) fun l17b l17l l17c =>
    oL (cell h15 ⟨g3, 4, none⟩) fun l18b l18l l18c =>
    CALL prg f_laws_eqInstrumentS #[.slice l17b l17l l17c, .slice l18b l18l l18c] (fun q19 h20 =>
    asB q19 fun b21 =>
    BIF (!b21) (
    Post (.bool false) h20) (
    oL (cell h20 ⟨g1, 5, none⟩) fun l22b l22l l22c =>
    oL (cell h20 ⟨g3, 5, none⟩) fun l23b l23l l23c =>
    CALL prg f_laws_eqEventS #[.slice l22b l22l l22c, .slice l23b l23l l23c] (fun q24 h25 =>
    asB q24 fun b26 =>
    BIF (!b26) (
    Post (.bool false) h25) (
    Post (.bool true) h25)) h20)) h15)) h10)) h4) h2) h
noncomputable def laws_eqScore.code : Code := (Tryz.f7.body).getD .skip
theorem laws_eqScore.call {a_0 : Array Value} {b_1 : Array Value} {Post : Value → Heap → Prop} {h : Heap} (H : laws_eqScore.S a_0 b_1 Post h) : CALL prg f_laws_eqScore #[.agg a_0, .agg b_1] Post h :=
  fn_call tau_ok mixed (c := laws_eqScore.code) (Λ := lookL []) Tryz.func7 (by kernel_rfl) (by kernel_rfl)
    (Rq.free (by kernel_rfl))
    (Eq.mp (by kernel_rfl) H)

end Go.Sx
/- The laws' helpers over scores, strings, bows, voices and players: what they compute. -/
set_option linter.unusedVariables false
set_option linter.unusedSimpArgs false
namespace Go.Sx
open Go.Proofs
set_option maxRecDepth 100000

section
variable {h : Heap}
theorem eq_Tuning_c {ca cb : Array Value} {x : GTuning} (Ra : rTuning.rd h ca.toList x) (Rb : rTuning.rd h cb.toList x) : CALL prg f_laws_eqTuning #[.agg ca, .agg cb] (fun u h' => u = .bool true ∧ Ext h h') h := by
  refine laws_eqTuning.call (alcR Ra fun g1 h1 x1 A => alcR (rTuning.ext x1 Rb) fun g2 h2 x2 B => ?_)
  have A := A.ext x2
  have X := x1.trans x2
  refine A.oF2 fun y hy => ffc_wide hy fun r1 k1 => B.oF2 fun z hz => ffc_wide hz fun r2 k2 => goX (sameW_c k1 k2 _) fun h' x' => as_b (br_f rfl ?_)
  have A := A.ext x'
  have B := B.ext x'
  have X := X.trans x'
  refine A.oF2 fun y hy => ffc_wide hy fun r1 k1 => B.oF2 fun z hz => ffc_wide hz fun r2 k2 => goX (sameW_c k1 k2 _) fun h' x' => as_b (br_f rfl ?_)
  have A := A.ext x'
  have B := B.ext x'
  have X := X.trans x'
  refine A.oL2 fun b1 l1 c1 S1 => B.oL2 fun b2 l2 c2 S2 => goX (eq_Float32S_c S1 S2) fun h' x' => as_b (br_f rfl ?_)
  have A := A.ext x'
  have B := B.ext x'
  have X := X.trans x'
  exact ⟨rfl, X⟩
def w_Tuning (x : GTuning) : Nat := w_Float32S x.Degrees
theorem eq_Instrument_c {ca cb : Array Value} {x : GInstrument} (Ra : rInstrument.rd h ca.toList x) (Rb : rInstrument.rd h cb.toList x) : CALL prg f_laws_eqInstrument #[.agg ca, .agg cb] (fun u h' => u = .bool true ∧ Ext h h') h := by
  refine laws_eqInstrument.call (alcR Ra fun g1 h1 x1 A => alcR (rInstrument.ext x1 Rb) fun g2 h2 x2 B => ?_)
  have A := A.ext x2
  have X := x1.trans x2
  refine A.oS2 fun _ => B.oS2 fun _ => br_f (by simp) ?_
  refine A.oI2 (B.oI2 (br_f (by simp) ?_))
  refine A.oF2 fun y hy => ffc_wide hy fun r1 k1 => B.oF2 fun z hz => ffc_wide hz fun r2 k2 => goX (sameW_c k1 k2 _) fun h' x' => as_b (br_f rfl ?_)
  have A := A.ext x'
  have B := B.ext x'
  have X := X.trans x'
  refine A.oF2 fun y hy => ffc_wide hy fun r1 k1 => B.oF2 fun z hz => ffc_wide hz fun r2 k2 => goX (sameW_c k1 k2 _) fun h' x' => as_b (br_f rfl ?_)
  have A := A.ext x'
  have B := B.ext x'
  have X := X.trans x'
  refine A.oF2 fun y hy => ffc_wide hy fun r1 k1 => B.oF2 fun z hz => ffc_wide hz fun r2 k2 => goX (sameW_c k1 k2 _) fun h' x' => as_b (br_f rfl ?_)
  have A := A.ext x'
  have B := B.ext x'
  have X := X.trans x'
  exact ⟨rfl, X⟩
def w_Instrument (x : GInstrument) : Nat := x.Name.size
theorem szp_Instrument : 0 < rInstrument.sz := by decide
def w_InstrumentS (xs : List GInstrument) : Nat := xs.length + nL w_Instrument xs
theorem eq_InstrumentS_c {b1 b2 : Option Addr} {l1 c1 l2 c2 : Nat} {xs : List GInstrument} (S1 : SlR rInstrument h b1 l1 c1 xs) (S2 : SlR rInstrument h b2 l2 c2 xs) : CALL prg f_laws_eqInstrumentS #[.slice b1 l1 c1, .slice b2 l2 c2] (fun u h' => u = .bool true ∧ Ext h h') h := by
  have e1 := S1.len
  have e2 := S2.len
  have h2 := S1.2.1
  have h3 := S1.2.2.1
  have := maxLen_lt
  obtain rfl : l1 = l2 := by omega
  refine laws_eqInstrumentS.call (br_f (by simp) ?_)
  refine loop (fun x hh => ∃ n : Nat, x = (b1, l1, c1, b2, l1, c2, (n : Int)) ∧ n ≤ l1 ∧ Ext h hh) (fun x => (l1 - x.2.2.2.2.2.2).toNat) ⟨0, rfl, by omega, Ext.refl _⟩ ?_
  rintro x hh ⟨n, rfl, hn, X⟩
  refine brd (fun hc => ?_) fun hc => ⟨rfl, X⟩
  refine (S1.ext X).idx szp_Instrument (by omega) (by omega) fun a Ra => Ra.lda1 rfl fun ca R1 => (S2.ext X).idx szp_Instrument (by omega) (by omega) fun a' Rb => Rb.lda1 rfl fun cb R2 => goX (eq_Instrument_c R1 R2) fun h' x' => as_b (br_f rfl ?_)
  rw [wrap64_succ (by omega)]
  exact ⟨⟨n + 1, rfl, by omega, X.trans x'⟩, by show _ < _; simp; omega⟩
theorem eq_Event_c {ca cb : Array Value} {x : GEvent} (Ra : rEvent.rd h ca.toList x) (Rb : rEvent.rd h cb.toList x) : CALL prg f_laws_eqEvent #[.agg ca, .agg cb] (fun u h' => u = .bool true ∧ Ext h h') h := by
  refine laws_eqEvent.call (alcR Ra fun g1 h1 x1 A => alcR (rEvent.ext x1 Rb) fun g2 h2 x2 B => ?_)
  have A := A.ext x2
  have X := x1.trans x2
  refine A.oI2 (B.oI2 (br_f (by simp) ?_))
  refine A.oI2 (B.oI2 (br_f (by simp) ?_))
  refine A.oI2 (B.oI2 (br_f (by simp) ?_))
  refine A.oI2 (B.oI2 (br_f (by simp) ?_))
  refine A.oI2 (B.oI2 (br_f (by simp) ?_))
  refine A.oF2 fun y hy => ffc_wide hy fun r1 k1 => B.oF2 fun z hz => ffc_wide hz fun r2 k2 => goX (sameW_c k1 k2 _) fun h' x' => as_b (br_f rfl ?_)
  have A := A.ext x'
  have B := B.ext x'
  have X := X.trans x'
  exact ⟨rfl, X⟩
theorem sz_pos_Event : 0 < rEvent.sz := by decide
def w_EventS (xs : List GEvent) : Nat := xs.length
theorem eq_EventS_c {b1 b2 : Option Addr} {l1 c1 l2 c2 : Nat} {xs : List GEvent} (S1 : SlR rEvent h b1 l1 c1 xs) (S2 : SlR rEvent h b2 l2 c2 xs) : CALL prg f_laws_eqEventS #[.slice b1 l1 c1, .slice b2 l2 c2] (fun u h' => u = .bool true ∧ Ext h h') h := by
  have e1 := S1.len
  have e2 := S2.len
  have h2 := S1.2.1
  have h3 := S1.2.2.1
  have := maxLen_lt
  obtain rfl : l1 = l2 := by omega
  refine laws_eqEventS.call (br_f (by simp) ?_)
  refine loop (fun x hh => ∃ n : Nat, x = (b1, l1, c1, b2, l1, c2, (n : Int)) ∧ n ≤ l1 ∧ Ext h hh) (fun x => (l1 - x.2.2.2.2.2.2).toNat) ⟨0, rfl, by omega, Ext.refl _⟩ ?_
  rintro x hh ⟨n, rfl, hn, X⟩
  refine brd (fun hc => ?_) fun hc => ⟨rfl, X⟩
  refine (S1.ext X).idx sz_pos_Event (by omega) (by omega) fun a Ra => Ra.lda1 rfl fun ca R1 => (S2.ext X).idx sz_pos_Event (by omega) (by omega) fun a' Rb => Rb.lda1 rfl fun cb R2 => goX (eq_Event_c R1 R2) fun h' x' => as_b (br_f rfl ?_)
  rw [wrap64_succ (by omega)]
  exact ⟨⟨n + 1, rfl, by omega, X.trans x'⟩, by show _ < _; simp; omega⟩
theorem eq_Score_c {ca cb : Array Value} {x : GScore} (Ra : rScore.rd h ca.toList x) (Rb : rScore.rd h cb.toList x) : CALL prg f_laws_eqScore #[.agg ca, .agg cb] (fun u h' => u = .bool true ∧ Ext h h') h := by
  refine laws_eqScore.call (alcR Ra fun g1 h1 x1 A => alcR (rScore.ext x1 Rb) fun g2 h2 x2 B => ?_)
  have A := A.ext x2
  have X := x1.trans x2
  refine A.oF2 fun y hy => ffc_wide hy fun r1 k1 => B.oF2 fun z hz => ffc_wide hz fun r2 k2 => goX (sameW_c k1 k2 _) fun h' x' => as_b (br_f rfl ?_)
  have A := A.ext x'
  have B := B.ext x'
  have X := X.trans x'
  refine A.lda2 foc_Score_Tuning rfl fun c1 R1 => B.lda2 foc_Score_Tuning rfl fun c2 R2 => goX (eq_Tuning_c R1 R2) fun h' x' => as_b (br_f rfl ?_)
  have A := A.ext x'
  have B := B.ext x'
  have X := X.trans x'
  refine A.oL2 fun b1 l1 c1 S1 => B.oL2 fun b2 l2 c2 S2 => goX (eq_InstrumentS_c S1 S2) fun h' x' => as_b (br_f rfl ?_)
  have A := A.ext x'
  have B := B.ext x'
  have X := X.trans x'
  refine A.oL2 fun b1 l1 c1 S1 => B.oL2 fun b2 l2 c2 S2 => goX (eq_EventS_c S1 S2) fun h' x' => as_b (br_f rfl ?_)
  have A := A.ext x'
  have B := B.ext x'
  have X := X.trans x'
  exact ⟨rfl, X⟩
def w_Score (x : GScore) : Nat := w_Tuning x.Tuning + w_InstrumentS x.Instruments + w_EventS x.Events
end
end Go.Sx
/- What the laws have in common: values marked and compared among others. -/
set_option linter.unusedVariables false
set_option linter.unusedSimpArgs false
namespace Go.Sx
open Go.Proofs
set_option maxRecDepth 100000

theorem PairR.go {α : Type} {r : Rep α} {P : Program} {f : FuncId} {args : Array Value} {a : α} {code : Int} {hb h : Heap} {L : List Blk} {K : Value → Heap → Prop} (M : Mem hb h L) (c : CALL P f args (fun u h' => PairR r h h' u a code) h)
    (H : ∀ h' cs B, Mem hb h' (B ++ L) → r.ow B cs.toList a → cs.size = r.sz → K (.tuple ⟨[.agg cs, .int .i64 code]⟩) h') : CALL P f args K h :=
  c.mono fun u h' ⟨cs, B, e, O, N⟩ => by subst e; exact H h' cs B (M.join N) O (by simpa using r.olen O)
/-- A value marked, its blocks among the others. -/
theorem markM {α : Type} {r : Rep α} {P : Program} {f : FuncId} {args : Array Value} {b : α} {v : Value} {hb h : Heap} {L : List Blk} {cs : Array Value} {K : Value → Heap → Prop}
    (c : CALL P f args (fun u h' => u = v ∧ ∃ B', r.ow B' cs.toList b ∧ Mem hb h' (B' ++ L)) h) (H : ∀ h' B', Mem hb h' (B' ++ L) → r.ow B' cs.toList b → K v h') : CALL P f args K h :=
  c.mono fun u h' ⟨e, B', O, N⟩ => by subst e; exact H h' B' N O
theorem eqB {a : Int} {p q : Prop} (H : q) : BIF (a != a) p q := by
  rw [show (a != a) = false by simp]; exact H
theorem bne_br {b : Bool} {p q : Prop} (hb : b = true) (H : q) : BIF (!b) p q := by
  subst hb; exact H
theorem ge_br {a : Int} {p q : Prop} (h : 0 ≤ a) (H : q) : BIF (decide (a < 0)) p q := by
  rw [show decide (a < 0) = false by simp; omega]; exact H
end Go.Sx
