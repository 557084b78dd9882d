/- What functions of this seat's program compute, told in words (a predicate over heaps for each), and the proofs that the words are no more than the code's own weakest precondition. -/
import Derived.Test.YtnjbecdfoiiaoaaGreatDoorTab
namespace Go.Sx
open Go.Proofs
set_option linter.unusedVariables false
set_option maxRecDepth 100000

def impl_ValidScore.J11 (N7 : (Addr × Int × Value × Value × Value × Option Addr × Nat × Nat × Int × Int) → Heap → Prop) (Post : Value → Heap → Prop) (s_1 : Addr) (notes_3 : Int) (own_4 : Value) (stops_5 : Value) (compare_6 : Value) (e_8 : Addr) (t51b : Option Addr) (t51l : Nat) (t51c : Nat) (t52 : Int) (t53 : Int) (h : Heap) : Prop :=
    oI .i64 (cell h (Addr.add e_8 1)) fun n65 =>
    BIF (n65 == (1 : Int)) (
    oI .i64 (cell h (Addr.add e_8 2)) fun n66 =>
    SEMV prg (Instr.lookup T_map_int64_int64 own_4 (.int .i64 n66) true) (fun q67 h68 =>
    TUP2 q67 fun q69 q70 =>
    asI .i64 q69 fun n71 =>
    asB q70 fun b72 =>
    BIF (!b72) (
    Post (.bool false) h68) (
    oI .i64 (cell h68 e_8) fun n73 =>
    BIF (decide (n73 < n71)) (
    Post (.bool false) h68) (
    oI .i64 (cell h68 (Addr.add e_8 2)) fun n74 =>
    SEMV prg (Instr.lookup T_map_int64_bool stops_5 (.int .i64 n74) false) (fun q75 h76 =>
    asB q75 fun b77 =>
    BIF b77 (
    Post (.bool false) h76) (
    oI .i64 (cell h76 (Addr.add e_8 2)) fun n78 =>
    SEMN prg (do Instr.mapUpdate T_map_int64_bool stops_5 (.int .i64 n78) (.bool true); pure .skip) (fun q79 h80 =>
    N7 (s_1, notes_3, own_4, stops_5, compare_6, t51b, t51l, t51c, t52, ((IntKind.i64.wrap (t53 + (1 : Int))))) h80) h76)) h68))) h) (
    N7 (s_1, notes_3, own_4, stops_5, compare_6, t51b, t51l, t51c, t52, ((IntKind.i64.wrap (t53 + (1 : Int))))) h)
def impl_ValidScore.j11 (N7 : (Addr × Int × Value × Value × Value × Option Addr × Nat × Nat × Int × Int) → Heap → Prop) (Post : Value → Heap → Prop) : Frame → Heap → Prop := fun fr h => GRD (shape (kds 126 [(1, .p), (3, .i .i64), (4, .v), (5, .v), (6, .v), (8, .p), (51, .l), (52, .i .i64), (53, .i .i64)]) fr) (impl_ValidScore.J11 N7 Post (gP (lget fr 1)) (gI (lget fr 3)) (lget fr 4) (lget fr 5) (lget fr 6) (gP (lget fr 8)) (gLb (lget fr 51)) (gLl (lget fr 51)) (gLc (lget fr 51)) (gI (lget fr 52)) (gI (lget fr 53)) h)
def impl_ValidScore.B7 (Post : Value → Heap → Prop) (N7 : (Addr × Int × Value × Value × Value × Option Addr × Nat × Nat × Int × Int) → Heap → Prop) : Addr × Int × Value × Value × Value × Option Addr × Nat × Nat × Int × Int → Heap → Prop
  | (s_1, notes_3, own_4, stops_5, compare_6, t51b, t51l, t51c, t52, t53), h =>
    BIF (decide (t53 < t52)) (
    IDXS t51b t53 t51l fun p35 =>
    LDA 6 h ((Addr.add p35 ((Int.toNat t53) * 6))) fun a36 =>
    ALC ⟨Z_impl_Event⟩ T_impl_Event (fun g37 h38 =>
    STA 6 h38 ⟨g37, 0, none⟩ a36 fun h39 =>
    LDA 6 h39 ⟨g37, 0, none⟩ fun a40 =>
    oL (cell h39 (Addr.add s_1 4)) fun l41b l41l l41c =>
    CALL prg f_impl_length_impl_Instrument #[.slice l41b l41l l41c] (fun q42 h43 =>
    asI .i64 q42 fun n44 =>
    PIN h39 ⟨g37, 0, none⟩ 6 h43 <|
    CALL prg f_impl_isEvent #[.agg a40, .int .i64 n44] (fun q45 h46 =>
    asB q45 fun b47 =>
    BIF (!b47) (
    Post (.bool false) h46) (
    oI .i64 (cell h46 ⟨g37, 2, none⟩) fun n48 =>
    CALL prg f_impl_within #[.int .i64 n48, .int .i64 (0 : Int), .int .i64 ((IntKind.i64.wrap (notes_3 - (1 : Int))))] (fun q49 h50 =>
    asB q49 fun b51 =>
    BIF (!b51) (
    Post (.bool false) h50) (
    BIF ((decide ((0 : Int) < t53))) (
    oL (cell h50 (Addr.add s_1 5)) fun l52b l52l l52c =>
    IDXS l52b ((IntKind.i64.wrap (t53 - (1 : Int)))) l52l fun p53 =>
    LDA 6 h50 ((Addr.add p53 ((Int.toNat ((IntKind.i64.wrap (t53 - (1 : Int))))) * 6))) fun a54 =>
    LDA 6 h50 ⟨g37, 0, none⟩ fun a55 =>
    CALLD prg compare_6 #[.agg a54, .agg a55] (fun q56 h57 =>
    asI .i64 q56 fun n58 =>
    BIF ((decide ((0 : Int) ≤ n58))) (
    Post (.bool false) h57) (
    impl_ValidScore.J11 N7 Post s_1 notes_3 own_4 stops_5 compare_6 ⟨g37, 0, none⟩ t51b t51l t51c t52 t53 h57)) h50) (
    impl_ValidScore.J11 N7 Post s_1 notes_3 own_4 stops_5 compare_6 ⟨g37, 0, none⟩ t51b t51l t51c t52 t53 h50))) h46)) h43) h39) h) (
    SEMV prg (Builtin.len_ #[T_map_int64_int64] T_int #[own_4]) (fun q59 h60 =>
    asI .i64 q59 fun n61 =>
    BIF (n61 == notes_3) (
    SEMV prg (Builtin.len_ #[T_map_int64_bool] T_int #[stops_5]) (fun q62 h63 =>
    asI .i64 q62 fun n64 =>
    Post (.bool (n64 == notes_3)) h63) h60) (
    Post (.bool false) h60)) h)
def impl_ValidScore.g7 (fr : Frame) : Addr × Int × Value × Value × Value × Option Addr × Nat × Nat × Int × Int := ((gP (lget fr 1)), (gI (lget fr 3)), (lget fr 4), (lget fr 5), (lget fr 6), (gLb (lget fr 51)), (gLl (lget fr 51)), (gLc (lget fr 51)), (gI (lget fr 52)), (gI (lget fr 53)))
def impl_ValidScore.l7 (Post : Value → Heap → Prop) : Frame → Heap → Prop := fun fr h => GRD (shape (kds 126 [(1, .p), (3, .i .i64), (4, .v), (5, .v), (6, .v), (51, .l), (52, .i .i64), (53, .i .i64)]) fr) (LOOP (impl_ValidScore.B7 Post) (impl_ValidScore.g7 fr) h)
def impl_ValidScore.J3 (Post : Value → Heap → Prop) (s_1 : Addr) (h : Heap) : Prop :=
    oL (cell h (Addr.add s_1 5)) fun l21b l21l l21c =>
    CALL prg f_impl_length_impl_Event #[.slice l21b l21l l21c] (fun q22 h23 =>
    asI .i64 q22 fun n24 =>
    NZ (2 : Int) <|
    oL (cell h23 (Addr.add s_1 5)) fun l25b l25l l25c =>
    CALL prg f_impl_starts #[.slice l25b l25l l25c] (fun q26 h27 =>
    SEMV prg (Instr.makeMap T_map_int64_bool none) (fun q28 h29 =>
    CALL prg f_impl_compareEvents #[q26] (fun q30 h31 =>
    oL (cell h31 (Addr.add s_1 5)) fun l32b l32l l32c =>
    LOOP (impl_ValidScore.B7 Post) (s_1, ((IntKind.i64.wrap (Int.tdiv n24 (2 : Int)))), q26, q28, q30, l32b, l32l, l32c, (l32l : Int), (0 : Int)) h31) h29) h27) h23) h
def impl_ValidScore.j3 (Post : Value → Heap → Prop) : Frame → Heap → Prop := fun fr h => GRD (shape (kds 126 [(1, .p)]) fr) (impl_ValidScore.J3 Post (gP (lget fr 1)) h)
def impl_ValidScore.S (s_0 : Array Value) (Post : Value → Heap → Prop) (h : Heap) : Prop :=
    ALC s_0 T_impl_Score (fun g1 h2 =>
    oF .f32 (cell h2 ⟨g1, 0, none⟩) fun r3 =>
    CALL prg f_impl_isRate #[.float .f32 r3] (fun q4 h5 =>
    asB q4 fun b6 =>
    BIF (!b6) (
    Post (.bool false) h5) (
    LDA 3 h5 ⟨g1, 1, none⟩ fun a7 =>
    CALL prg f_impl_ValidTuning #[.agg a7] (fun q8 h9 =>
    asB q8 fun b10 =>
    BIF (!b10) (
    Post (.bool false) h9) (
    oL (cell h9 ⟨g1, 4, none⟩) fun l11b l11l l11c =>
    CALL prg f_impl_areInstruments #[.slice l11b l11l l11c] (fun q12 h13 =>
    asB q12 fun b14 =>
    BIF (!b14) (
    Post (.bool false) h13) (
    oL (cell h13 ⟨g1, 5, none⟩) fun l15b l15l l15c =>
    NZ (2 : Int) <|
    BIF (((Int.tmod (l15l : Int) (2 : Int)) != (0 : Int))) (
    Post (.bool false) h13) (
    oL (cell h13 ⟨g1, 5, none⟩) fun l18b l18l l18c =>
    BIF ((decide ((128 : Int) < (l18l : Int)))) (
    Post (.bool false) h13) (
    impl_ValidScore.J3 Post ⟨g1, 0, none⟩ h13)))) h9)) h5)) h2) h
noncomputable def impl_ValidScore.code : Code := (Tryz.f72.body).getD .skip
theorem impl_ValidScore.call {s_0 : Array Value} {Post : Value → Heap → Prop} {h : Heap} (H : impl_ValidScore.S s_0 Post h) : CALL prg f_impl_ValidScore #[.agg s_0] Post h :=
  fn_call tau_ok mixed (c := impl_ValidScore.code) (Λ := lookL [(3, impl_ValidScore.j3 Post), (1000007, impl_ValidScore.l7 Post)]) Tryz.func72 (by kernel_rfl) (by kernel_rfl)
    (Rq.seq (by kernel_rfl) (Rq.free (by kernel_rfl)) (Rq.seqJ (impl_ValidScore.j3 Post) (by kernel_rfl) (seg (fun _ _ => by kernel_rfl)) (Rq.free (by kernel_rfl))
(Rq.seq (by kernel_rfl) (Rq.free (by kernel_rfl)) (Rq.seq (by kernel_rfl) (Rq.free (by kernel_rfl)) (Rq.seq (by kernel_rfl) (Rq.free (by kernel_rfl)) (Rq.seq (by kernel_rfl) (Rq.seq (by kernel_rfl) (Rq.free (by kernel_rfl)) (Rq.block (Rq.loop (impl_ValidScore.l7 Post) (by kernel_rfl) (segL (g := impl_ValidScore.g7) tau_ok mixed (Λ := fun N7 => lookL [(11, impl_ValidScore.j11 N7 Post)]) (fun _ _ _ => by kernel_rfl) (fun N7 => (Rq.seq (by kernel_rfl) (Rq.free (by kernel_rfl)) (Rq.seq (by kernel_rfl) (Rq.free (by kernel_rfl)) (Rq.seq (by kernel_rfl) (Rq.block (Rq.seq (by kernel_rfl) (Rq.free (by kernel_rfl)) (Rq.seqJ (impl_ValidScore.j11 N7 Post) (by kernel_rfl) (seg (fun _ _ => by kernel_rfl)) (Rq.free (by kernel_rfl))
(Rq.free (by kernel_rfl))))) (Rq.free (by kernel_rfl)))))))))) (Rq.free (by kernel_rfl))))))))
    (Eq.mp (by kernel_rfl) H)

end Go.Sx
