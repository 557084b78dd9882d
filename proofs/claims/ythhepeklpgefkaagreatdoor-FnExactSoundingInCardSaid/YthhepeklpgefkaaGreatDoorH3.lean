/- What functions of this seat's program compute, told in words (a predicate over heaps for each), and the proofs that the words are no more than the code's own weakest precondition. -/
import Derived.Test.YthhepeklpgefkaaGreatDoorTab
namespace Go.Sx
open Go.Proofs
set_option linter.unusedVariables false
set_option maxRecDepth 100000

def laws_szRingS.B5 (Post : Value → Heap → Prop) (N5 : (Option Addr × Nat × Nat × Int × Int) → Heap → Prop) : Option Addr × Nat × Nat × Int × Int → Heap → Prop
  | (a_0b, a_0l, a_0c, left_1, i_5), h =>
    BIF ((decide (i_5 < (a_0l : Int)))) (
    IDXS a_0b i_5 a_0l fun p5 =>
    LDA 2 h ((Addr.add p5 ((Int.toNat i_5) * 2))) fun a6 =>
    CALL prg f_laws_szRing #[.agg a6, .int .i64 left_1] (fun q7 h8 =>
    asI .i64 q7 fun n9 =>
    BIF ((decide (n9 < (0 : Int)))) (
    Post (.int .i64 (-1 : Int)) h8) (
    N5 (a_0b, a_0l, a_0c, n9, ((IntKind.i64.wrap (i_5 + (1 : Int))))) h8)) h) (
    Post (.int .i64 left_1) h)
def laws_szRingS.g5 (fr : Frame) : Option Addr × Nat × Nat × Int × Int := ((gLb (lget fr 0)), (gLl (lget fr 0)), (gLc (lget fr 0)), (gI (lget fr 1)), (gI (lget fr 5)))
def laws_szRingS.l5 (Post : Value → Heap → Prop) : Frame → Heap → Prop := fun fr h => GRD (shape (kds 27 [(0, .l), (1, .i .i64), (5, .i .i64)]) fr) (LOOP (laws_szRingS.B5 Post) (laws_szRingS.g5 fr) h)
def laws_szRingS.S (a_0b : Option Addr) (a_0l a_0c : Nat) (left_1 : Int) (Post : Value → Heap → Prop) (h : Heap) : Prop :=
    BIF ((decide ((IntKind.i64.wrap (left_1 - (a_0l : Int))) < (0 : Int)))) (
    Post (.int .i64 (-1 : Int)) h) (
    LOOP (laws_szRingS.B5 Post) (a_0b, a_0l, a_0c, ((IntKind.i64.wrap (left_1 - (a_0l : Int)))), (0 : Int)) h)
noncomputable def laws_szRingS.code : Code := (Tryz.f314.body).getD .skip
theorem laws_szRingS.call {a_0b : Option Addr} {a_0l a_0c : Nat} {left_1 : Int} {Post : Value → Heap → Prop} {h : Heap} (H : laws_szRingS.S a_0b a_0l a_0c left_1 Post h) : CALL prg f_laws_szRingS #[.slice a_0b a_0l a_0c, .int .i64 left_1] Post h :=
  fn_call tau_ok mixed (c := laws_szRingS.code) (Λ := lookL [(1000005, laws_szRingS.l5 Post)]) Tryz.func314 (by kernel_rfl) (by kernel_rfl)
    (Rq.seq (by kernel_rfl) (Rq.free (by kernel_rfl)) (Rq.seq (by kernel_rfl) (Rq.free (by kernel_rfl)) (Rq.seq (by kernel_rfl) (Rq.free (by kernel_rfl)) (Rq.seq (by kernel_rfl) (Rq.seq (by kernel_rfl) (Rq.free (by kernel_rfl)) (Rq.block (Rq.loop (laws_szRingS.l5 Post) (by kernel_rfl) (segL (g := laws_szRingS.g5) tau_ok mixed (Λ := fun N5 => lookL []) (fun _ _ _ => by kernel_rfl) (fun N5 => (Rq.free (by kernel_rfl))))))) (Rq.free (by kernel_rfl))))))
    (Eq.mp (by kernel_rfl) H)

def laws_toRingS.B3 (Post : Value → Heap → Prop) (N3 : (Option Addr × Nat × Nat × Option Addr × Nat × Nat × Int) → Heap → Prop) : Option Addr × Nat × Nat × Option Addr × Nat × Nat × Int → Heap → Prop
  | (a_0b, a_0l, a_0c, out_3b, out_3l, out_3c, i_4), h =>
    BIF ((decide (i_4 < (a_0l : Int)))) (
    IDXS a_0b i_4 a_0l fun p7 =>
    LDA 2 h ((Addr.add p7 ((Int.toNat i_4) * 2))) fun a8 =>
    CALL prg f_laws_toRing #[.agg a8] (fun q9 h10 =>
    asA q9 fun a11 =>
    IDXS out_3b i_4 out_3l fun p12 =>
    STA 2 h10 ((Addr.add p12 ((Int.toNat i_4) * 2))) a11 fun h13 =>
    N3 (a_0b, a_0l, a_0c, out_3b, out_3l, out_3c, ((IntKind.i64.wrap (i_4 + (1 : Int))))) h13) h) (
    Post (.slice out_3b out_3l out_3c) h)
def laws_toRingS.g3 (fr : Frame) : Option Addr × Nat × Nat × Option Addr × Nat × Nat × Int := ((gLb (lget fr 0)), (gLl (lget fr 0)), (gLc (lget fr 0)), (gLb (lget fr 3)), (gLl (lget fr 3)), (gLc (lget fr 3)), (gI (lget fr 4)))
def laws_toRingS.l3 (Post : Value → Heap → Prop) : Frame → Heap → Prop := fun fr h => GRD (shape (kds 23 [(0, .l), (3, .l), (4, .i .i64)]) fr) (LOOP (laws_toRingS.B3 Post) (laws_toRingS.g3 fr) h)
def laws_toRingS.S (a_0b : Option Addr) (a_0l a_0c : Nat) (Post : Value → Heap → Prop) (h : Heap) : Prop :=
    MKS ti_impl_Ring T_impl_Ring (a_0l : Int) (a_0l : Int) (fun g3 h4 =>
    LOOP (laws_toRingS.B3 Post) (a_0b, a_0l, a_0c, (some ⟨g3, 0, none⟩), a_0l, a_0l, (0 : Int)) h4) h
noncomputable def laws_toRingS.code : Code := (Tryz.f320.body).getD .skip
theorem laws_toRingS.call {a_0b : Option Addr} {a_0l a_0c : Nat} {Post : Value → Heap → Prop} {h : Heap} (H : laws_toRingS.S a_0b a_0l a_0c Post h) : CALL prg f_laws_toRingS #[.slice a_0b a_0l a_0c] Post h :=
  fn_call tau_ok mixed (c := laws_toRingS.code) (Λ := lookL [(1000003, laws_toRingS.l3 Post)]) Tryz.func320 (by kernel_rfl) (by kernel_rfl)
    (Rq.seq (by kernel_rfl) (Rq.free (by kernel_rfl)) (Rq.seq (by kernel_rfl) (Rq.free (by kernel_rfl)) (Rq.seq (by kernel_rfl) (Rq.seq (by kernel_rfl) (Rq.free (by kernel_rfl)) (Rq.block (Rq.loop (laws_toRingS.l3 Post) (by kernel_rfl) (segL (g := laws_toRingS.g3) tau_ok mixed (Λ := fun N3 => lookL []) (fun _ _ _ => by kernel_rfl) (fun N3 => (Rq.free (by kernel_rfl))))))) (Rq.free (by kernel_rfl)))))
    (Eq.mp (by kernel_rfl) H)

def laws_eqRingS.B4 (Post : Value → Heap → Prop) (N4 : (Option Addr × Nat × Nat × Option Addr × Nat × Nat × Int) → Heap → Prop) : Option Addr × Nat × Nat × Option Addr × Nat × Nat × Int → Heap → Prop
  | (a_0b, a_0l, a_0c, b_1b, b_1l, b_1c, i_5), h =>
    BIF ((decide (i_5 < (a_0l : Int)))) (
    IDXS a_0b i_5 a_0l fun p7 =>
    LDA 2 h ((Addr.add p7 ((Int.toNat i_5) * 2))) fun a8 =>
    IDXS b_1b i_5 b_1l fun p9 =>
    LDA 2 h ((Addr.add p9 ((Int.toNat i_5) * 2))) fun a10 =>
    CALL prg f_laws_eqRing #[.agg a8, .agg a10] (fun q11 h12 =>
    asB q11 fun b13 =>
    BIF (!b13) (
    Post (.bool false) h12) (
    N4 (a_0b, a_0l, a_0c, b_1b, b_1l, b_1c, ((IntKind.i64.wrap (i_5 + (1 : Int))))) h12)) h) (
    Post (.bool true) h)
def laws_eqRingS.g4 (fr : Frame) : Option Addr × Nat × Nat × Option Addr × Nat × Nat × Int := ((gLb (lget fr 0)), (gLl (lget fr 0)), (gLc (lget fr 0)), (gLb (lget fr 1)), (gLl (lget fr 1)), (gLc (lget fr 1)), (gI (lget fr 5)))
def laws_eqRingS.l4 (Post : Value → Heap → Prop) : Frame → Heap → Prop := fun fr h => GRD (shape (kds 27 [(0, .l), (1, .l), (5, .i .i64)]) fr) (LOOP (laws_eqRingS.B4 Post) (laws_eqRingS.g4 fr) h)
def laws_eqRingS.S (a_0b : Option Addr) (a_0l a_0c : Nat) (b_1b : Option Addr) (b_1l b_1c : Nat) (Post : Value → Heap → Prop) (h : Heap) : Prop :=
    BIF ((a_0l : Int) != (b_1l : Int)) (
    Post (.bool false) h) (
    LOOP (laws_eqRingS.B4 Post) (a_0b, a_0l, a_0c, b_1b, b_1l, b_1c, (0 : Int)) h)
noncomputable def laws_eqRingS.code : Code := (Tryz.f172.body).getD .skip
theorem laws_eqRingS.call {a_0b : Option Addr} {a_0l a_0c : Nat} {b_1b : Option Addr} {b_1l b_1c : Nat} {Post : Value → Heap → Prop} {h : Heap} (H : laws_eqRingS.S a_0b a_0l a_0c b_1b b_1l b_1c Post h) : CALL prg f_laws_eqRingS #[.slice a_0b a_0l a_0c, .slice b_1b b_1l b_1c] Post h :=
  fn_call tau_ok mixed (c := laws_eqRingS.code) (Λ := lookL [(1000004, laws_eqRingS.l4 Post)]) Tryz.func172 (by kernel_rfl) (by kernel_rfl)
    (Rq.seq (by kernel_rfl) (Rq.free (by kernel_rfl)) (Rq.seq (by kernel_rfl) (Rq.free (by kernel_rfl)) (Rq.seq (by kernel_rfl) (Rq.seq (by kernel_rfl) (Rq.free (by kernel_rfl)) (Rq.block (Rq.loop (laws_eqRingS.l4 Post) (by kernel_rfl) (segL (g := laws_eqRingS.g4) tau_ok mixed (Λ := fun N4 => lookL []) (fun _ _ _ => by kernel_rfl) (fun N4 => (Rq.free (by kernel_rfl))))))) (Rq.free (by kernel_rfl)))))
    (Eq.mp (by kernel_rfl) H)

def laws_markRingS.B2 (Post : Value → Heap → Prop) (N2 : (Option Addr × Nat × Nat × Int × Int) → Heap → Prop) : Option Addr × Nat × Nat × Int × Int → Heap → Prop
  | (a_0b, a_0l, a_0c, k_1, i_5), h =>
    BIF ((decide (i_5 < (a_0l : Int)))) (
    IDXS a_0b i_5 a_0l fun p3 =>
    oL (cell h ((Addr.add p3 ((Int.toNat i_5) * 2)))) fun l4b l4l l4c =>
    CALL prg f_laws_markFloat32S #[.slice l4b l4l l4c, .int .i64 k_1] (fun q5 h6 =>
    asI .i64 q5 fun n7 =>
    IDXS a_0b i_5 a_0l fun p8 =>
    ST1 h6 ((Addr.add ((Addr.add p8 ((Int.toNat i_5) * 2))) 1)) (.int .i64 n7) fun h9 =>
    N2 (a_0b, a_0l, a_0c, ((IntKind.i64.wrap (n7 + (1 : Int)))), ((IntKind.i64.wrap (i_5 + (1 : Int))))) h9) h) (
    Post (.int .i64 k_1) h)
def laws_markRingS.g2 (fr : Frame) : Option Addr × Nat × Nat × Int × Int := ((gLb (lget fr 0)), (gLl (lget fr 0)), (gLc (lget fr 0)), (gI (lget fr 1)), (gI (lget fr 5)))
def laws_markRingS.l2 (Post : Value → Heap → Prop) : Frame → Heap → Prop := fun fr h => GRD (shape (kds 27 [(0, .l), (1, .i .i64), (5, .i .i64)]) fr) (LOOP (laws_markRingS.B2 Post) (laws_markRingS.g2 fr) h)
def laws_markRingS.S (a_0b : Option Addr) (a_0l a_0c : Nat) (k_1 : Int) (Post : Value → Heap → Prop) (h : Heap) : Prop :=
    LOOP (laws_markRingS.B2 Post) (a_0b, a_0l, a_0c, k_1, (0 : Int)) h
noncomputable def laws_markRingS.code : Code := (Tryz.f142.body).getD .skip
theorem laws_markRingS.call {a_0b : Option Addr} {a_0l a_0c : Nat} {k_1 : Int} {Post : Value → Heap → Prop} {h : Heap} (H : laws_markRingS.S a_0b a_0l a_0c k_1 Post h) : CALL prg f_laws_markRingS #[.slice a_0b a_0l a_0c, .int .i64 k_1] Post h :=
  fn_call tau_ok mixed (c := laws_markRingS.code) (Λ := lookL [(1000002, laws_markRingS.l2 Post)]) Tryz.func142 (by kernel_rfl) (by kernel_rfl)
    (Rq.seq (by kernel_rfl) (Rq.free (by kernel_rfl)) (Rq.seq (by kernel_rfl) (Rq.seq (by kernel_rfl) (Rq.free (by kernel_rfl)) (Rq.block (Rq.loop (laws_markRingS.l2 Post) (by kernel_rfl) (segL (g := laws_markRingS.g2) tau_ok mixed (Λ := fun N2 => lookL []) (fun _ _ _ => by kernel_rfl) (fun N2 => (Rq.free (by kernel_rfl))))))) (Rq.free (by kernel_rfl))))
    (Eq.mp (by kernel_rfl) H)

def laws_szPipe.S (a_0 : Array Value) (left_1 : Int) (Post : Value → Heap → Prop) (h : Heap) : Prop :=
    ALC a_0 T_laws_Pipe (fun g1 h2 =>
    oL (cell h2 ⟨g1, 0, none⟩) fun l3b l3l l3c =>
    CALL prg f_laws_szRingS #[.slice l3b l3l l3c, .int .i64 left_1] (fun q4 h5 =>
    asI .i64 q4 fun n6 =>
    BIF ((decide (n6 < (0 : Int)))) (
    Post (.int .i64 (-1 : Int)) h5) (
    oL (cell h5 ⟨g1, 1, none⟩) fun l7b l7l l7c =>
    CALL prg f_laws_szRingS #[.slice l7b l7l l7c, .int .i64 n6] (fun q8 h9 =>
    asI .i64 q8 fun n10 =>
    BIF ((decide (n10 < (0 : Int)))) (
    Post (.int .i64 (-1 : Int)) h9) (
    oL (cell h9 ⟨g1, 2, none⟩) fun l11b l11l l11c =>
    CALL prg f_laws_szFloat32S #[.slice l11b l11l l11c, .int .i64 n10] (fun q12 h13 =>
    asI .i64 q12 fun n14 =>
    BIF ((decide (n14 < (0 : Int)))) (
    Post (.int .i64 (-1 : Int)) h13) (
    Post (.int .i64 n14) h13)) h9)) h5)) h2) h
noncomputable def laws_szPipe.code : Code := (Tryz.f245.body).getD .skip
theorem laws_szPipe.call {a_0 : Array Value} {left_1 : Int} {Post : Value → Heap → Prop} {h : Heap} (H : laws_szPipe.S a_0 left_1 Post h) : CALL prg f_laws_szPipe #[.agg a_0, .int .i64 left_1] Post h :=
  fn_call tau_ok mixed (c := laws_szPipe.code) (Λ := lookL []) Tryz.func245 (by kernel_rfl) (by kernel_rfl)
    (Rq.free (by kernel_rfl))
    (Eq.mp (by kernel_rfl) H)

def laws_toPipe.S (a_0 : Array Value) (Post : Value → Heap → Prop) (h : Heap) : Prop :=
    ALC a_0 T_laws_Pipe (fun g1 h2 =>
    ALC ⟨Z_impl_Pipe⟩ T_impl_Pipe (fun g3 h4 =>
    ALC ⟨Z_impl_Pipe⟩ T_impl_Pipe (fun g5 h6 =>
    oL (cell h6 ⟨g1, 0, none⟩) fun l7b l7l l7c =>
    CALL prg f_laws_toRingS #[.slice l7b l7l l7c] (fun q8 h9 =>
    asL q8 fun l10b l10l l10c =>
    ST1 h9 ⟨g5, 0, none⟩ (.slice l10b l10l l10c) fun h11 =>
    oL (cell h11 ⟨g1, 1, none⟩) fun l12b l12l l12c =>
    CALL prg f_laws_toRingS #[.slice l12b l12l l12c] (fun q13 h14 =>
    asL q13 fun l15b l15l l15c =>
    ST1 h14 ⟨g5, 1, none⟩ (.slice l15b l15l l15c) fun h16 =>
    oL (cell h16 ⟨g1, 2, none⟩) fun l17b l17l l17c =>
    CALL prg f_laws_toFloat32S #[.slice l17b l17l l17c] (fun q18 h19 =>
    asL q18 fun l20b l20l l20c =>
    ST1 h19 ⟨g5, 2, none⟩ (.slice l20b l20l l20c) fun h21 =>
    LDA 6 h21 ⟨g1, 3, none⟩ fun a22 =>
    CALL prg f_laws_toFilter #[.agg a22] (fun q23 h24 =>
    asA q23 fun a25 =>
    STA 6 h24 ⟨g5, 3, none⟩ a25 fun h26 =>
    oB (cell h26 ⟨g1, 9, none⟩) fun b27 =>
    ST1 h26 ⟨g5, 9, none⟩ (.bool b27) fun h28 =>
    oF .f32 (cell h28 ⟨g1, 10, none⟩) fun r29 =>
    ST1 h28 ⟨g5, 10, none⟩ (.float .f32 r29) fun h30 =>
    oF .f32 (cell h30 ⟨g1, 11, none⟩) fun r31 =>
    ST1 h30 ⟨g5, 11, none⟩ (.float .f32 r31) fun h32 =>
    oF .f32 (cell h32 ⟨g1, 12, none⟩) fun r33 =>
    ST1 h32 ⟨g5, 12, none⟩ (.float .f32 r33) fun h34 =>
    LDA 13 h34 ⟨g5, 0, none⟩ fun a35 =>
    STA 13 h34 ⟨g3, 0, none⟩ a35 fun h36 =>
    LDA 13 h36 ⟨g3, 0, none⟩ fun a37 =>
    Post (.agg a37) h36) h21) h16) h11) h6) h4) h2) h
noncomputable def laws_toPipe.code : Code := (Tryz.f253.body).getD .skip
theorem laws_toPipe.call {a_0 : Array Value} {Post : Value → Heap → Prop} {h : Heap} (H : laws_toPipe.S a_0 Post h) : CALL prg f_laws_toPipe #[.agg a_0] Post h :=
  fn_call tau_ok mixed (c := laws_toPipe.code) (Λ := lookL []) Tryz.func253 (by kernel_rfl) (by kernel_rfl)
    (Rq.free (by kernel_rfl))
    (Eq.mp (by kernel_rfl) H)

def laws_eqPipe.S (a_0 : Array Value) (b_1 : Array Value) (Post : Value → Heap → Prop) (h : Heap) : Prop :=
    ALC a_0 T_impl_Pipe (fun g1 h2 =>
    ALC b_1 T_impl_Pipe (fun g3 h4 =>
    oL (cell h4 ⟨g1, 0, none⟩) fun l5b l5l l5c =>
    oL (cell h4 ⟨g3, 0, none⟩) fun l6b l6l l6c =>
    CALL prg f_laws_eqRingS #[.slice l5b l5l l5c, .slice l6b l6l l6c] (fun q7 h8 =>
    asB q7 fun b9 =>
    BIF (!b9) (
    Post (.bool false) h8) (
    oL (cell h8 ⟨g1, 1, none⟩) fun l10b l10l l10c =>
    oL (cell h8 ⟨g3, 1, none⟩) fun l11b l11l l11c =>
    CALL prg f_laws_eqRingS #[.slice l10b l10l l10c, .slice l11b l11l l11c] (fun q12 h13 =>
    asB q12 fun b14 =>
    BIF (!b14) (
    Post (.bool false) h13) (
    oL (cell h13 ⟨g1, 2, none⟩) fun l15b l15l l15c =>
    oL (cell h13 ⟨g3, 2, none⟩) fun l16b l16l l16c =>
    CALL prg f_laws_eqFloat32S #[.slice l15b l15l l15c, .slice l16b l16l l16c] (fun q17 h18 =>
    asB q17 fun b19 =>
    BIF (!b19) (
    Post (.bool false) h18) (
    LDA 6 h18 ⟨g1, 3, none⟩ fun a20 =>
    LDA 6 h18 ⟨g3, 3, none⟩ fun a21 =>
    CALL prg f_laws_eqFilter #[.agg a20, .agg a21] (fun q22 h23 =>
    asB q22 fun b24 =>
    BIF (!b24) (
    Post (.bool false) h23) (
    oB (cell h23 ⟨g1, 9, none⟩) fun b25 =>
    oB (cell h23 ⟨g3, 9, none⟩) fun b26 =>
    BIF (!(b25 == b26)) (
    Post (.bool false) h23) (
    oF .f32 (cell h23 ⟨g1, 10, none⟩) fun r27 =>
    FFC .f32 r27 .f64 fun r28 =>
    oF .f32 (cell h23 ⟨g3, 10, none⟩) fun r29 =>
    FFC .f32 r29 .f64 fun r30 =>
    CALL prg f_laws_sameFloat #[.float .f64 r28, .float .f64 r30] (fun q31 h32 =>
    asB q31 fun b33 =>
    BIF (!b33) (
    Post (.bool false) h32) (
    oF .f32 (cell h32 ⟨g1, 11, none⟩) fun r34 =>
    FFC .f32 r34 .f64 fun r35 =>
    oF .f32 (cell h32 ⟨g3, 11, none⟩) fun r36 =>
    FFC .f32 r36 .f64 fun r37 =>
    CALL prg f_laws_sameFloat #[.float .f64 r35, .float .f64 r37] (fun q38 h39 =>
    asB q38 fun b40 =>
    BIF (!b40) (
    Post (.bool false) h39) (
    oF .f32 (cell h39 ⟨g1, 12, none⟩) fun r41 =>
    FFC .f32 r41 .f64 fun r42 =>
    oF .f32 (cell h39 ⟨g3, 12, none⟩) fun r43 =>
    FFC .f32 r43 .f64 fun r44 =>
    CALL prg f_laws_sameFloat #[.float .f64 r42, .float .f64 r44] (fun q45 h46 =>
    asB q45 fun b47 =>
    BIF (!b47) (
    Post (.bool false) h46) (
    Post (.bool true) h46)) h39)) h32)) h23))) h18)) h13)) h8)) h4) h2) h
noncomputable def laws_eqPipe.code : Code := (Tryz.f101.body).getD .skip
theorem laws_eqPipe.call {a_0 : Array Value} {b_1 : Array Value} {Post : Value → Heap → Prop} {h : Heap} (H : laws_eqPipe.S a_0 b_1 Post h) : CALL prg f_laws_eqPipe #[.agg a_0, .agg b_1] Post h :=
  fn_call tau_ok mixed (c := laws_eqPipe.code) (Λ := lookL []) Tryz.func101 (by kernel_rfl) (by kernel_rfl)
    (Rq.free (by kernel_rfl))
    (Eq.mp (by kernel_rfl) H)

end Go.Sx
