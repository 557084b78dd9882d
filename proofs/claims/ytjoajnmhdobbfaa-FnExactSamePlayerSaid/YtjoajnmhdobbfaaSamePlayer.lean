/- What functions of this seat's program compute, told in words (a predicate over heaps for each), and the proofs that the words are no more than the code's own weakest precondition. -/
import Derived.Test.YtjoajnmhdobbfaaTab
namespace Go.Sx
open Go.Proofs
set_option linter.unusedVariables false
set_option maxRecDepth 100000

def spec_SamePlayer.B4 (Post : Value → Heap → Prop) (N4 : (Addr × Addr × Int) → Heap → Prop) : Addr × Addr × Int → Heap → Prop
  | (p_2, q_3, i_5), h =>
    oL (cell h (Addr.add p_2 6)) fun l22b l22l l22c =>
    BIF ((decide (i_5 < (l22l : Int)))) (
    oL (cell h (Addr.add p_2 6)) fun l25b l25l l25c =>
    IDXS l25b i_5 l25l fun p26 =>
    oL (cell h (Addr.add q_3 6)) fun l27b l27l l27c =>
    IDXS l27b i_5 l27l fun p28 =>
    CALL prg f_spec_l09SameVoice #[.pointer (some ((Addr.add p26 ((Int.toNat i_5) * 45)))), .pointer (some ((Addr.add p28 ((Int.toNat i_5) * 45))))] (fun q29 h30 =>
    asB q29 fun b31 =>
    BIF (!b31) (
    Post (.bool false) h30) (
    N4 (p_2, q_3, ((IntKind.i64.wrap (i_5 + (1 : Int))))) h30)) h) (
    Post (.bool true) h)
def spec_SamePlayer.g4 (fr : Frame) : Addr × Addr × Int := ((gP (lget fr 2)), (gP (lget fr 3)), (gI (lget fr 5)))
def spec_SamePlayer.l4 (Post : Value → Heap → Prop) : Frame → Heap → Prop := fun fr h => GRD (shape (kds 59 [(2, .p), (3, .p), (5, .i .i64)]) fr) (LOOP (spec_SamePlayer.B4 Post) (spec_SamePlayer.g4 fr) h)
def spec_SamePlayer.J3 (Post : Value → Heap → Prop) (p_2 : Addr) (q_3 : Addr) (h : Heap) : Prop :=
    LOOP (spec_SamePlayer.B4 Post) (p_2, q_3, (0 : Int)) h
def spec_SamePlayer.j3 (Post : Value → Heap → Prop) : Frame → Heap → Prop := fun fr h => GRD (shape (kds 59 [(2, .p), (3, .p)]) fr) (spec_SamePlayer.J3 Post (gP (lget fr 2)) (gP (lget fr 3)) h)
def spec_SamePlayer.S (p_0 : Array Value) (q_1 : Array Value) (Post : Value → Heap → Prop) (h : Heap) : Prop :=
    ALC p_0 T_impl_Player (fun g1 h2 =>
    ALC q_1 T_impl_Player (fun g3 h4 =>
    LDA 6 h4 ⟨g1, 0, none⟩ fun a5 =>
    LDA 6 h4 ⟨g3, 0, none⟩ fun a6 =>
    CALL prg f_spec_SameScore #[.agg a5, .agg a6] (fun q7 h8 =>
    asB q7 fun b9 =>
    BIF (!b9) (
    Post (.bool false) h8) (
    oL (cell h8 ⟨g1, 6, none⟩) fun l10b l10l l10c =>
    oL (cell h8 ⟨g3, 6, none⟩) fun l13b l13l l13c =>
    BIF ((l10l : Int) != (l13l : Int)) (
    Post (.bool false) h8) (
    oI .i64 (cell h8 ⟨g1, 7, none⟩) fun n16 =>
    oI .i64 (cell h8 ⟨g3, 7, none⟩) fun n17 =>
    BIF (n16 != n17) (
    Post (.bool false) h8) (
    oI .i64 (cell h8 ⟨g1, 8, none⟩) fun n18 =>
    oI .i64 (cell h8 ⟨g3, 8, none⟩) fun n19 =>
    BIF (n18 != n19) (
    Post (.bool false) h8) (
    oI .i64 (cell h8 ⟨g1, 9, none⟩) fun n20 =>
    oI .i64 (cell h8 ⟨g3, 9, none⟩) fun n21 =>
    BIF (n20 != n21) (
    Post (.bool false) h8) (
    spec_SamePlayer.J3 Post ⟨g1, 0, none⟩ ⟨g3, 0, none⟩ h8)))))) h4) h2) h
noncomputable def spec_SamePlayer.code : Code := (Try.f26.body).getD .skip
theorem spec_SamePlayer.call {p_0 : Array Value} {q_1 : Array Value} {Post : Value → Heap → Prop} {h : Heap} (H : spec_SamePlayer.S p_0 q_1 Post h) : CALL prg f_spec_SamePlayer #[.agg p_0, .agg q_1] Post h :=
  fn_call tau_ok mixed (c := spec_SamePlayer.code) (Λ := lookL [(3, spec_SamePlayer.j3 Post), (1000004, spec_SamePlayer.l4 Post)]) Try.func26 (by kernel_rfl) (by kernel_rfl)
    (Rq.seq (by kernel_rfl) (Rq.free (by kernel_rfl)) (Rq.seqJ (spec_SamePlayer.j3 Post) (by kernel_rfl) (seg (fun _ _ => by kernel_rfl)) (Rq.free (by kernel_rfl))
(Rq.seq (by kernel_rfl) (Rq.seq (by kernel_rfl) (Rq.free (by kernel_rfl)) (Rq.block (Rq.loop (spec_SamePlayer.l4 Post) (by kernel_rfl) (segL (g := spec_SamePlayer.g4) tau_ok mixed (Λ := fun N4 => lookL []) (fun _ _ _ => by kernel_rfl) (fun N4 => (Rq.free (by kernel_rfl))))))) (Rq.free (by kernel_rfl)))))
    (Eq.mp (by kernel_rfl) H)

def impl_SamePlayer.S (p_0 : Array Value) (q_1 : Array Value) (Post : Value → Heap → Prop) (h : Heap) : Prop :=
    ALC p_0 T_impl_Player (fun g1 h2 =>
    ALC q_1 T_impl_Player (fun g3 h4 =>
    LDA 6 h4 ⟨g1, 0, none⟩ fun a5 =>
    LDA 6 h4 ⟨g3, 0, none⟩ fun a6 =>
    CALL prg f_impl_SameScore #[.agg a5, .agg a6] (fun q7 h8 =>
    asB q7 fun b9 =>
    BIF b9 (
    oL (cell h8 ⟨g1, 6, none⟩) fun l10b l10l l10c =>
    oL (cell h8 ⟨g3, 6, none⟩) fun l11b l11l l11c =>
    CALL prg f_slices_EqualFunc_sl_impl_Voice_sl_impl_Voice_impl_Voice_impl_Voice #[.slice l10b l10l l10c, .slice l11b l11l l11c, .func (.func 77) #[] #[]] (fun q12 h13 =>
    asB q12 fun b14 =>
    BIF b14 (
    oI .i64 (cell h13 ⟨g1, 7, none⟩) fun n15 =>
    oI .i64 (cell h13 ⟨g3, 7, none⟩) fun n16 =>
    BIF (n15 == n16) (
    oI .i64 (cell h13 ⟨g1, 8, none⟩) fun n17 =>
    oI .i64 (cell h13 ⟨g3, 8, none⟩) fun n18 =>
    BIF (n17 == n18) (
    oI .i64 (cell h13 ⟨g1, 9, none⟩) fun n19 =>
    oI .i64 (cell h13 ⟨g3, 9, none⟩) fun n20 =>
    Post (.bool (n19 == n20)) h13) (
    Post (.bool false) h13)) (
    Post (.bool false) h13)) (
    Post (.bool false) h13)) h8) (
    Post (.bool false) h8)) h4) h2) h
noncomputable def impl_SamePlayer.code : Code := (Try.f28.body).getD .skip
theorem impl_SamePlayer.call {p_0 : Array Value} {q_1 : Array Value} {Post : Value → Heap → Prop} {h : Heap} (H : impl_SamePlayer.S p_0 q_1 Post h) : CALL prg f_impl_SamePlayer #[.agg p_0, .agg q_1] Post h :=
  fn_call tau_ok mixed (c := impl_SamePlayer.code) (Λ := lookL []) Try.func28 (by kernel_rfl) (by kernel_rfl)
    (Rq.free (by kernel_rfl))
    (Eq.mp (by kernel_rfl) H)

def laws_FnExactSamePlayer.S (aP_0 : Array Value) (aQ_1 : Array Value) (Post : Value → Heap → Prop) (h : Heap) : Prop :=
    ALC aP_0 T_laws_Player (fun g1 h2 =>
    ALC aQ_1 T_laws_Player (fun g3 h4 =>
    LDA 10 h4 ⟨g1, 0, none⟩ fun a5 =>
    CALL prg f_laws_szPlayer #[.agg a5, .int .i64 (1048576 : Int)] (fun q6 h7 =>
    asI .i64 q6 fun n8 =>
    BIF ((decide (n8 < (0 : Int)))) (
    Post (.bool true) h7) (
    LDA 10 h7 ⟨g3, 0, none⟩ fun a9 =>
    CALL prg f_laws_szPlayer #[.agg a9, .int .i64 n8] (fun q10 h11 =>
    asI .i64 q10 fun n12 =>
    BIF ((decide (n12 < (0 : Int)))) (
    Post (.bool true) h11) (
    LDA 10 h11 ⟨g1, 0, none⟩ fun a13 =>
    LDA 10 h11 ⟨g3, 0, none⟩ fun a14 =>
    CALL prg f_laws_toPlayer #[.agg a13] (fun q15 h16 =>
    asA q15 fun a17 =>
    PIN h11 ⟨g3, 0, none⟩ 10 h16 <|
    CALL prg f_laws_toPlayer #[.agg a14] (fun q18 h19 =>
    asA q18 fun a20 =>
    CALL prg f_spec_SamePlayer #[.agg a17, .agg a20] (fun q21 h22 =>
    asB q21 fun b23 =>
    LDA 10 h22 ⟨g1, 0, none⟩ fun a24 =>
    CALL prg f_laws_toPlayer #[.agg a24] (fun q25 h26 =>
    asA q25 fun a27 =>
    ALC ⟨Z_impl_Player⟩ T_impl_Player (fun g28 h29 =>
    STA 10 h29 ⟨g28, 0, none⟩ a27 fun h30 =>
    LDA 10 h30 ⟨g3, 0, none⟩ fun a31 =>
    CALL prg f_laws_toPlayer #[.agg a31] (fun q32 h33 =>
    asA q32 fun a34 =>
    ALC ⟨Z_impl_Player⟩ T_impl_Player (fun g35 h36 =>
    STA 10 h36 ⟨g35, 0, none⟩ a34 fun h37 =>
    LDA 10 h37 ⟨g28, 0, none⟩ fun a38 =>
    LDA 10 h37 ⟨g35, 0, none⟩ fun a39 =>
    CALL prg f_impl_SamePlayer #[.agg a38, .agg a39] (fun q40 h41 =>
    asB q40 fun b42 =>
    BIF (!(b42 == b23)) (
    Post (.bool false) h41) (
    LDA 10 h41 ⟨g28, 0, none⟩ fun a43 =>
    LDA 10 h41 ⟨g1, 0, none⟩ fun a44 =>
    CALL prg f_laws_toPlayer #[.agg a44] (fun q45 h46 =>
    asA q45 fun a47 =>
    PIN h41 ⟨g28, 0, none⟩ 10 h46 <|
    CALL prg f_laws_eqPlayer #[.agg a43, .agg a47] (fun q48 h49 =>
    asB q48 fun b50 =>
    BIF (!b50) (
    Post (.bool false) h49) (
    LDA 10 h49 ⟨g35, 0, none⟩ fun a51 =>
    LDA 10 h49 ⟨g3, 0, none⟩ fun a52 =>
    CALL prg f_laws_toPlayer #[.agg a52] (fun q53 h54 =>
    asA q53 fun a55 =>
    PIN h49 ⟨g35, 0, none⟩ 10 h54 <|
    CALL prg f_laws_eqPlayer #[.agg a51, .agg a55] (fun q56 h57 =>
    asB q56 fun b58 =>
    BIF (!b58) (
    Post (.bool false) h57) (
    Post (.bool true) h57)) h54) h49)) h46) h41)) h37) h33) h30) h26) h22) h19) h16) h11)) h7)) h4) h2) h
noncomputable def laws_FnExactSamePlayer.code : Code := (Try.f5.body).getD .skip
theorem laws_FnExactSamePlayer.call {aP_0 : Array Value} {aQ_1 : Array Value} {Post : Value → Heap → Prop} {h : Heap} (H : laws_FnExactSamePlayer.S aP_0 aQ_1 Post h) : CALL prg f_laws_FnExactSamePlayer #[.agg aP_0, .agg aQ_1] Post h :=
  fn_call tau_ok mixed (c := laws_FnExactSamePlayer.code) (Λ := lookL []) Try.func5 (by kernel_rfl) (by kernel_rfl)
    (Rq.free (by kernel_rfl))
    (Eq.mp (by kernel_rfl) H)

end Go.Sx
