/- What functions of this seat's program compute, told in words (a predicate over heaps for each), and the proofs that the words are no more than the code's own weakest precondition. -/
import Derived.Test.YtkgmfiloghhibaaGreatDoorTab
namespace Go.Sx
open Go.Proofs
set_option linter.unusedVariables false
set_option maxRecDepth 100000

def spec_l06Tail.S (tail_0 : Nat) (Post : Value → Heap → Prop) (h : Heap) : Prop :=
    BIF (FloatKind.f32.format.order tail_0 1065353216 == some .gt || FloatKind.f32.format.order tail_0 1065353216 == some .eq) (
    Post (.bool (FloatKind.f32.format.order tail_0 1232348160 == some .lt || FloatKind.f32.format.order tail_0 1232348160 == some .eq)) h) (
    Post (.bool false) h)
noncomputable def spec_l06Tail.code : Code := (Tryz.f180.body).getD .skip
theorem spec_l06Tail.call {tail_0 : Nat} {Post : Value → Heap → Prop} {h : Heap} (H : spec_l06Tail.S tail_0 Post h) : CALL prg f_spec_l06Tail #[.float .f32 tail_0] Post h :=
  fn_call tau_ok mixed (c := spec_l06Tail.code) (Λ := lookL []) Tryz.func180 (by kernel_rfl) (by kernel_rfl)
    (Rq.free (by kernel_rfl))
    (Eq.mp (by kernel_rfl) H)

def spec_l06Gain.S (length_0 : Int) (tail_1 : Nat) (Post : Value → Heap → Prop) (h : Heap) : Prop :=
    FOP .f64 (FloatKind.f64.format.mul 4619463459138379574 (FloatKind.f64.nearest length_0)) fun r1 =>
    FFC .f32 tail_1 .f64 fun r2 =>
    FOP .f64 (FloatKind.f64.format.div r1 r2) fun r3 =>
    BIF (FloatKind.f64.format.order r3 4607182418800017408 == some .gt) (
    Post (.float .f32 0) h) (
    FOP .f64 (FloatKind.f64.format.sub 4607182418800017408 r3) fun r4 =>
    FOP .f64 (FloatKind.f64.format.mul r3 r3) fun r5 =>
    FOP .f64 (FloatKind.f64.format.div r5 4611686018427387904) fun r6 =>
    FOP .f64 (FloatKind.f64.format.add r4 r6) fun r7 =>
    FFC .f64 r7 .f32 fun r8 =>
    Post (.float .f32 r8) h)
noncomputable def spec_l06Gain.code : Code := (Tryz.f182.body).getD .skip
theorem spec_l06Gain.call {length_0 : Int} {tail_1 : Nat} {Post : Value → Heap → Prop} {h : Heap} (H : spec_l06Gain.S length_0 tail_1 Post h) : CALL prg f_spec_l06Gain #[.int .i64 length_0, .float .f32 tail_1] Post h :=
  fn_call tau_ok mixed (c := spec_l06Gain.code) (Λ := lookL []) Tryz.func182 (by kernel_rfl) (by kernel_rfl)
    (Rq.free (by kernel_rfl))
    (Eq.mp (by kernel_rfl) H)

def spec_NewRoom.B12 (Post : Value → Heap → Prop) (N12 : (Nat × Nat × Addr × Addr × Addr × Int) → Heap → Prop) : Nat × Nat × Addr × Addr × Addr × Int → Heap → Prop
  | (tail_1, keep_2, lengths_4, t8, x_12, i_13), h =>
    BIF ((decide (i_13 < (4 : Int)))) (
    IDX i_13 4 <|
    oI .i64 (cell h ((Addr.add lengths_4 ((Int.toNat i_13) * 1)))) fun n31 =>
    CALL prg f_spec_l06Silence #[.int .i64 n31] (fun q32 h33 =>
    asA q32 fun a34 =>
    IDX i_13 4 <|
    STA 2 h33 ((Addr.add (Addr.add x_12 9) ((Int.toNat i_13) * 2))) a34 fun h35 =>
    CALL prg f_spec_OnePole #[.float .f32 keep_2] (fun q36 h37 =>
    asA q36 fun a38 =>
    IDX i_13 4 <|
    STA 6 h37 ((Addr.add (Addr.add x_12 17) ((Int.toNat i_13) * 6))) a38 fun h39 =>
    IDX i_13 4 <|
    oI .i64 (cell h39 ((Addr.add lengths_4 ((Int.toNat i_13) * 1)))) fun n40 =>
    CALL prg f_spec_l06Gain #[.int .i64 n40, .float .f32 tail_1] (fun q41 h42 =>
    asF .f32 q41 fun r43 =>
    IDX i_13 4 <|
    ST1 h42 ((Addr.add (Addr.add x_12 41) ((Int.toNat i_13) * 1))) (.float .f32 r43) fun h44 =>
    N12 (tail_1, keep_2, lengths_4, t8, x_12, ((IntKind.i64.wrap (i_13 + (1 : Int))))) h44) h39) h35) h) (
    LDA 47 h x_12 fun a45 =>
    STA 47 h t8 a45 fun h46 =>
    LDA 47 h46 t8 fun a47 =>
    Post (.tuple ⟨[.agg a47, .int .i64 (0 : Int)]⟩) h46)
def spec_NewRoom.g12 (fr : Frame) : Nat × Nat × Addr × Addr × Addr × Int := ((gF (lget fr 1)), (gF (lget fr 2)), (gP (lget fr 4)), (gP (lget fr 8)), (gP (lget fr 12)), (gI (lget fr 13)))
def spec_NewRoom.l12 (Post : Value → Heap → Prop) : Frame → Heap → Prop := fun fr h => GRD (shape (kds 78 [(1, .f .f32), (2, .f .f32), (4, .p), (8, .p), (12, .p), (13, .i .i64)]) fr) (LOOP (spec_NewRoom.B12 Post) (spec_NewRoom.g12 fr) h)
def spec_NewRoom.B3 (Post : Value → Heap → Prop) (N3 : (Nat × Nat × Nat × Addr × Addr × Bool × Int) → Heap → Prop) : Nat × Nat × Nat × Addr × Addr × Bool × Int → Heap → Prop
  | (tail_1, keep_2, wet_3, lengths_4, t8, ok_10, i_11), h =>
    BIF ((decide (i_11 < (4 : Int)))) (
    BIF ok_10 (
    IDX i_11 4 <|
    oI .i64 (cell h ((Addr.add lengths_4 ((Int.toNat i_11) * 1)))) fun n11 =>
    CALL prg f_spec_l00In #[.int .i64 n11, .int .i64 (1 : Int), .int .i64 (1024 : Int)] (fun q12 h13 =>
    asB q12 fun b14 =>
    N3 (tail_1, keep_2, wet_3, lengths_4, t8, b14, ((IntKind.i64.wrap (i_11 + (1 : Int))))) h13) h) (
    N3 (tail_1, keep_2, wet_3, lengths_4, t8, false, ((IntKind.i64.wrap (i_11 + (1 : Int))))) h)) (
    BIF (!ok_10) (
    STA 47 h t8 (⟨[.slice none 0 0, .int .i64 (0 : Int), .slice none 0 0, .slice none 0 0, .int .i64 (0 : Int), .float .f32 0, .slice none 0 0, .int .i64 (0 : Int), .float .f32 0, .slice none 0 0, .int .i64 (0 : Int), .slice none 0 0, .int .i64 (0 : Int), .slice none 0 0, .int .i64 (0 : Int), .slice none 0 0, .int .i64 (0 : Int), .int .i64 (0 : Int), .float .f32 0, .float .f32 0, .float .f32 0, .float .f32 0, .float .f32 0, .int .i64 (0 : Int), .float .f32 0, .float .f32 0, .float .f32 0, .float .f32 0, .float .f32 0, .int .i64 (0 : Int), .float .f32 0, .float .f32 0, .float .f32 0, .float .f32 0, .float .f32 0, .int .i64 (0 : Int), .float .f32 0, .float .f32 0, .float .f32 0, .float .f32 0, .float .f32 0, .float .f32 0, .float .f32 0, .float .f32 0, .float .f32 0, .float .f32 0, .float .f32 0]⟩ : Array Value) fun h15 =>
    LDA 47 h15 t8 fun a16 =>
    Post (.tuple ⟨[.agg a16, .int .i64 (2 : Int)]⟩) h15) (
    CALL prg f_spec_l06Silence #[.int .i64 (1 : Int)] (fun q17 h18 =>
    asA q17 fun a19 =>
    SIZ (Array.size a19) 2 <|
    ALC ⟨Z_impl_Room⟩ T_impl_Room (fun g20 h21 =>
    STA 47 h21 ⟨g20, 0, none⟩ ⟨(List.set (List.set (splice 0 2 a19 [.slice none 0 0, .int .i64 (0 : Int), .slice none 0 0, .slice none 0 0, .int .i64 (0 : Int), .float .f32 0, .slice none 0 0, .int .i64 (0 : Int), .float .f32 0, .slice none 0 0, .int .i64 (0 : Int), .slice none 0 0, .int .i64 (0 : Int), .slice none 0 0, .int .i64 (0 : Int), .slice none 0 0, .int .i64 (0 : Int), .int .i64 (0 : Int), .float .f32 0, .float .f32 0, .float .f32 0, .float .f32 0, .float .f32 0, .int .i64 (0 : Int), .float .f32 0, .float .f32 0, .float .f32 0, .float .f32 0, .float .f32 0, .int .i64 (0 : Int), .float .f32 0, .float .f32 0, .float .f32 0, .float .f32 0, .float .f32 0, .int .i64 (0 : Int), .float .f32 0, .float .f32 0, .float .f32 0, .float .f32 0, .float .f32 0, .float .f32 0, .float .f32 0, .float .f32 0, .float .f32 0, .float .f32 0, .float .f32 0]) 45 (.float .f32 1065353216)) 46 (.float .f32 wet_3))⟩ fun h22 =>
    CALL prg f_spec_l06Silence #[.int .i64 (3 : Int)] (fun q23 h24 =>
    asA q23 fun a25 =>
    SIZ (Array.size a25) 2 <|
    IDX (0 : Int) 2 <|
    STA 3 h24 ⟨g20, 3, none⟩ ⟨(List.set (splice 0 2 a25 [.slice none 0 0, .int .i64 (0 : Int), .float .f32 0]) 2 (.float .f32 1056964608))⟩ fun h26 =>
    CALL prg f_spec_l06Silence #[.int .i64 (5 : Int)] (fun q27 h28 =>
    asA q27 fun a29 =>
    SIZ (Array.size a29) 2 <|
    IDX (1 : Int) 2 <|
    STA 3 h28 ⟨g20, 6, none⟩ ⟨(List.set (splice 0 2 a29 [.slice none 0 0, .int .i64 (0 : Int), .float .f32 0]) 2 (.float .f32 1056964608))⟩ fun h30 =>
    LOOP (spec_NewRoom.B12 Post) (tail_1, keep_2, lengths_4, t8, ⟨g20, 0, none⟩, (0 : Int)) h30) h26) h22) h18) h))
def spec_NewRoom.g3 (fr : Frame) : Nat × Nat × Nat × Addr × Addr × Bool × Int := ((gF (lget fr 1)), (gF (lget fr 2)), (gF (lget fr 3)), (gP (lget fr 4)), (gP (lget fr 8)), (gB (lget fr 10)), (gI (lget fr 11)))
def spec_NewRoom.l3 (Post : Value → Heap → Prop) : Frame → Heap → Prop := fun fr h => GRD (shape (kds 78 [(1, .f .f32), (2, .f .f32), (3, .f .f32), (4, .p), (8, .p), (10, .b), (11, .i .i64)]) fr) (LOOP (spec_NewRoom.B3 Post) (spec_NewRoom.g3 fr) h)
def spec_NewRoom.J2 (Post : Value → Heap → Prop) (tail_1 : Nat) (keep_2 : Nat) (wet_3 : Nat) (lengths_4 : Addr) (t8 : Addr) (ok_10 : Bool) (h : Heap) : Prop :=
    LOOP (spec_NewRoom.B3 Post) (tail_1, keep_2, wet_3, lengths_4, t8, ok_10, (0 : Int)) h
def spec_NewRoom.j2 (Post : Value → Heap → Prop) : Frame → Heap → Prop := fun fr h => GRD (shape (kds 78 [(1, .f .f32), (2, .f .f32), (3, .f .f32), (4, .p), (8, .p), (10, .b)]) fr) (spec_NewRoom.J2 Post (gF (lget fr 1)) (gF (lget fr 2)) (gF (lget fr 3)) (gP (lget fr 4)) (gP (lget fr 8)) (gB (lget fr 10)) h)
def spec_NewRoom.S (lengths_0 : Array Value) (tail_1 : Nat) (keep_2 : Nat) (wet_3 : Nat) (Post : Value → Heap → Prop) (h : Heap) : Prop :=
    ALC lengths_0 T_4_int64 (fun g1 h2 =>
    ALC ⟨Z_impl_Room⟩ T_impl_Room (fun g3 h4 =>
    CALL prg f_spec_l06Tail #[.float .f32 tail_1] (fun q5 h6 =>
    asB q5 fun b7 =>
    BIF b7 (
    BIF (FloatKind.f32.format.order keep_2 0 == some .gt || FloatKind.f32.format.order keep_2 0 == some .eq) (
    BIF (FloatKind.f32.format.order keep_2 1065353216 == some .lt) (
    CALL prg f_spec_l01Finite #[.float .f32 wet_3] (fun q8 h9 =>
    asB q8 fun b10 =>
    spec_NewRoom.J2 Post tail_1 keep_2 wet_3 ⟨g1, 0, none⟩ ⟨g3, 0, none⟩ b10 h9) h6) (
    spec_NewRoom.J2 Post tail_1 keep_2 wet_3 ⟨g1, 0, none⟩ ⟨g3, 0, none⟩ false h6)) (
    spec_NewRoom.J2 Post tail_1 keep_2 wet_3 ⟨g1, 0, none⟩ ⟨g3, 0, none⟩ false h6)) (
    spec_NewRoom.J2 Post tail_1 keep_2 wet_3 ⟨g1, 0, none⟩ ⟨g3, 0, none⟩ false h6)) h4) h2) h
noncomputable def spec_NewRoom.code : Code := (Tryz.f125.body).getD .skip
theorem spec_NewRoom.call {lengths_0 : Array Value} {tail_1 : Nat} {keep_2 : Nat} {wet_3 : Nat} {Post : Value → Heap → Prop} {h : Heap} (H : spec_NewRoom.S lengths_0 tail_1 keep_2 wet_3 Post h) : CALL prg f_spec_NewRoom #[.agg lengths_0, .float .f32 tail_1, .float .f32 keep_2, .float .f32 wet_3] Post h :=
  fn_call tau_ok mixed (c := spec_NewRoom.code) (Λ := lookL [(2, spec_NewRoom.j2 Post), (1000003, spec_NewRoom.l3 Post), (1000012, spec_NewRoom.l12 Post)]) Tryz.func125 (by kernel_rfl) (by kernel_rfl)
    (Rq.seq (by kernel_rfl) (Rq.free (by kernel_rfl)) (Rq.seqJ (spec_NewRoom.j2 Post) (by kernel_rfl) (seg (fun _ _ => by kernel_rfl)) (Rq.free (by kernel_rfl))
(Rq.seq (by kernel_rfl) (Rq.seq (by kernel_rfl) (Rq.free (by kernel_rfl)) (Rq.block (Rq.loop (spec_NewRoom.l3 Post) (by kernel_rfl) (segL (g := spec_NewRoom.g3) tau_ok mixed (Λ := fun N3 => lookL []) (fun _ _ _ => by kernel_rfl) (fun N3 => (Rq.free (by kernel_rfl))))))) (Rq.seq (by kernel_rfl) (Rq.free (by kernel_rfl)) (Rq.seq (by kernel_rfl) (Rq.free (by kernel_rfl)) (Rq.seq (by kernel_rfl) (Rq.free (by kernel_rfl)) (Rq.seq (by kernel_rfl) (Rq.free (by kernel_rfl)) (Rq.seq (by kernel_rfl) (Rq.seq (by kernel_rfl) (Rq.free (by kernel_rfl)) (Rq.block (Rq.loop (spec_NewRoom.l12 Post) (by kernel_rfl) (segL (g := spec_NewRoom.g12) tau_ok mixed (Λ := fun N12 => lookL []) (fun _ _ _ => by kernel_rfl) (fun N12 => (Rq.free (by kernel_rfl))))))) (Rq.free (by kernel_rfl))))))))))
    (Eq.mp (by kernel_rfl) H)

def spec_l06Taps.B3 (Post : Value → Heap → Prop) (N3 : (Addr × Int × Option Addr × Nat × Nat × Int) → Heap → Prop) : Addr × Int × Option Addr × Nat × Nat × Int → Heap → Prop
  | (s_0, length_1, out_5b, out_5l, out_5c, i_6), h =>
    BIF ((decide ((0 : Int) < i_6))) (
    CALL prg f_spec_l00Max #[.int .i64 (1 : Int), .int .i64 length_1] (fun q6 h7 =>
    asI .i64 q6 fun n8 =>
    CALL prg f_p_spec_l00Src_pick #[.pointer (some s_0), .int .i64 n8] (fun q9 h10 =>
    asI .i64 q9 fun n11 =>
    CALL prg f_spec_l01Plain #[.pointer (some s_0)] (fun q12 h13 =>
    asF .f32 q12 fun r14 =>
    SIZ (Array.size (⟨[.int .i64 ((IntKind.i64.wrap ((1 : Int) + n11))), .float .f32 r14]⟩ : Array Value)) 2 <|
    ALC ⟨[.int .i64 ((IntKind.i64.wrap ((1 : Int) + n11))), .float .f32 r14]⟩ T_impl_Tap (fun g15 h16 =>
    SEMV prg (Builtin.append_ #[T_sl_impl_Tap, T_sl_impl_Tap] T_sl_impl_Tap #[.slice out_5b out_5l out_5c, .slice (some ⟨g15, 0, none⟩) 1 1]) (fun q17 h18 =>
    asL q17 fun l19b l19l l19c =>
    N3 (s_0, length_1, l19b, l19l, l19c, ((IntKind.i64.wrap (i_6 - (1 : Int))))) h18) h16) h13) h10) h7) h) (
    Post (.slice out_5b out_5l out_5c) h)
def spec_l06Taps.g3 (fr : Frame) : Addr × Int × Option Addr × Nat × Nat × Int := ((gP (lget fr 0)), (gI (lget fr 1)), (gLb (lget fr 5)), (gLl (lget fr 5)), (gLc (lget fr 5)), (gI (lget fr 6)))
def spec_l06Taps.l3 (Post : Value → Heap → Prop) : Frame → Heap → Prop := fun fr h => GRD (shape (kds 28 [(0, .p), (1, .i .i64), (5, .l), (6, .i .i64)]) fr) (LOOP (spec_l06Taps.B3 Post) (spec_l06Taps.g3 fr) h)
def spec_l06Taps.S (s_0 : Addr) (length_1 : Int) (Post : Value → Heap → Prop) (h : Heap) : Prop :=
    ALC ⟨[]⟩ T_impl_Tap (fun g1 h2 =>
    CALL prg f_p_spec_l00Src_pick #[.pointer (some s_0), .int .i64 (4 : Int)] (fun q3 h4 =>
    asI .i64 q3 fun n5 =>
    LOOP (spec_l06Taps.B3 Post) (s_0, length_1, (some ⟨g1, 0, none⟩), 0, 0, n5) h4) h2) h
noncomputable def spec_l06Taps.code : Code := (Tryz.f127.body).getD .skip
theorem spec_l06Taps.call {s_0 : Addr} {length_1 : Int} {Post : Value → Heap → Prop} {h : Heap} (H : spec_l06Taps.S s_0 length_1 Post h) : CALL prg f_spec_l06Taps #[.pointer (some s_0), .int .i64 length_1] Post h :=
  fn_call tau_ok mixed (c := spec_l06Taps.code) (Λ := lookL [(1000003, spec_l06Taps.l3 Post)]) Tryz.func127 (by kernel_rfl) (by kernel_rfl)
    (Rq.seq (by kernel_rfl) (Rq.free (by kernel_rfl)) (Rq.seq (by kernel_rfl) (Rq.free (by kernel_rfl)) (Rq.seq (by kernel_rfl) (Rq.seq (by kernel_rfl) (Rq.free (by kernel_rfl)) (Rq.block (Rq.loop (spec_l06Taps.l3 Post) (by kernel_rfl) (segL (g := spec_l06Taps.g3) tau_ok mixed (Λ := fun N3 => lookL []) (fun _ _ _ => by kernel_rfl) (fun N3 => (Rq.free (by kernel_rfl))))))) (Rq.free (by kernel_rfl)))))
    (Eq.mp (by kernel_rfl) H)

def spec_l06Drawn.B9 (Post : Value → Heap → Prop) (N9 : (Addr × Addr × Addr × Int) → Heap → Prop) : Addr × Addr × Addr × Int → Heap → Prop
  | (s_0, t2, x_6, k_9), h =>
    BIF ((decide ((0 : Int) < k_9))) (
    CALL prg f_spec_l01Plain #[.pointer (some s_0)] (fun q79 h80 =>
    asF .f32 q79 fun r81 =>
    CALL prg f_spec_l06Step #[.pointer (some x_6), .float .f32 r81] (fun q82 h83 =>
    asF .f32 q82 fun r84 =>
    N9 (s_0, t2, x_6, ((IntKind.i64.wrap (k_9 - (1 : Int))))) h83) h80) h) (
    LDA 47 h x_6 fun a85 =>
    STA 47 h t2 a85 fun h86 =>
    LDA 47 h86 t2 fun a87 =>
    Post (.agg a87) h86)
def spec_l06Drawn.g9 (fr : Frame) : Addr × Addr × Addr × Int := ((gP (lget fr 0)), (gP (lget fr 2)), (gP (lget fr 6)), (gI (lget fr 9)))
def spec_l06Drawn.l9 (Post : Value → Heap → Prop) : Frame → Heap → Prop := fun fr h => GRD (shape (kds 64 [(0, .p), (2, .p), (6, .p), (9, .i .i64)]) fr) (LOOP (spec_l06Drawn.B9 Post) (spec_l06Drawn.g9 fr) h)
def spec_l06Drawn.J8 (Post : Value → Heap → Prop) (s_0 : Addr) (t2 : Addr) (x_6 : Addr) (h : Heap) : Prop :=
    CALL prg f_p_spec_l00Src_pick #[.pointer (some s_0), .int .i64 (10 : Int)] (fun q76 h77 =>
    asI .i64 q76 fun n78 =>
    LOOP (spec_l06Drawn.B9 Post) (s_0, t2, x_6, n78) h77) h
def spec_l06Drawn.j8 (Post : Value → Heap → Prop) : Frame → Heap → Prop := fun fr h => GRD (shape (kds 64 [(0, .p), (2, .p), (6, .p)]) fr) (spec_l06Drawn.J8 Post (gP (lget fr 0)) (gP (lget fr 2)) (gP (lget fr 6)) h)
def spec_l06Drawn.J5 (Post : Value → Heap → Prop) (s_0 : Addr) (t2 : Addr) (x_6 : Addr) (h : Heap) : Prop :=
    CALL prg f_p_spec_l00Src_one #[.pointer (some s_0), .int .i64 (2 : Int)] (fun q59 h60 =>
    asB q59 fun b61 =>
    BIF b61 (
    CALL prg f_p_spec_l00Src_pick #[.pointer (some s_0), .int .i64 (6 : Int)] (fun q62 h63 =>
    asI .i64 q62 fun n64 =>
    LDA 47 h63 x_6 fun a65 =>
    CALL prg f_spec_l06Taps #[.pointer (some s_0), .int .i64 ((IntKind.i64.wrap ((1 : Int) + n64)))] (fun q66 h67 =>
    asL q66 fun l68b l68l l68c =>
    PIN h63 x_6 47 h67 <|
    CALL prg f_spec_WithTaps #[.agg a65, .int .i64 ((IntKind.i64.wrap ((1 : Int) + n64))), .slice l68b l68l l68c] (fun q69 h70 =>
    TUP2 q69 fun q71 q72 =>
    asA q71 fun a73 =>
    asI .i64 q72 fun n74 =>
    STA 47 h70 x_6 a73 fun h75 =>
    spec_l06Drawn.J8 Post s_0 t2 x_6 h75) h67) h63) h60) (
    spec_l06Drawn.J8 Post s_0 t2 x_6 h60)) h
def spec_l06Drawn.j5 (Post : Value → Heap → Prop) : Frame → Heap → Prop := fun fr h => GRD (shape (kds 64 [(0, .p), (2, .p), (6, .p)]) fr) (spec_l06Drawn.J5 Post (gP (lget fr 0)) (gP (lget fr 2)) (gP (lget fr 6)) h)
def spec_l06Drawn.S (s_0 : Addr) (Post : Value → Heap → Prop) (h : Heap) : Prop :=
    ALC ⟨Z_impl_Room⟩ T_impl_Room (fun g1 h2 =>
    CALL prg f_p_spec_l00Src_pick #[.pointer (some s_0), .int .i64 (5 : Int)] (fun q3 h4 =>
    asI .i64 q3 fun n5 =>
    CALL prg f_p_spec_l00Src_pick #[.pointer (some s_0), .int .i64 (6 : Int)] (fun q6 h7 =>
    asI .i64 q6 fun n8 =>
    CALL prg f_p_spec_l00Src_pick #[.pointer (some s_0), .int .i64 (7 : Int)] (fun q9 h10 =>
    asI .i64 q9 fun n11 =>
    CALL prg f_p_spec_l00Src_pick #[.pointer (some s_0), .int .i64 (8 : Int)] (fun q12 h13 =>
    asI .i64 q12 fun n14 =>
    ALC ⟨Z_4_int64⟩ T_4_int64 (fun g15 h16 =>
    STA 4 h16 ⟨g15, 0, none⟩ (⟨[.int .i64 ((IntKind.i64.wrap ((1 : Int) + n5))), .int .i64 ((IntKind.i64.wrap ((1 : Int) + n8))), .int .i64 ((IntKind.i64.wrap ((1 : Int) + n11))), .int .i64 ((IntKind.i64.wrap ((1 : Int) + n14)))]⟩ : Array Value) fun h17 =>
    CALL prg f_p_spec_l00Src_pick #[.pointer (some s_0), .int .i64 (200 : Int)] (fun q18 h19 =>
    asI .i64 q18 fun n20 =>
    CALL prg f_p_spec_l00Src_pick #[.pointer (some s_0), .int .i64 (8 : Int)] (fun q21 h22 =>
    asI .i64 q21 fun n23 =>
    FOP .f32 (FloatKind.f32.format.div (FloatKind.f32.nearest n23) 1090519040) fun r24 =>
    LDA 4 h22 ⟨g15, 0, none⟩ fun a25 =>
    (CALL prg f_spec_l01Plain #[.pointer (some s_0)] (fun q26 h27 =>
    asF .f32 q26 fun r28 =>
    PIN h22 ⟨g15, 0, none⟩ 4 h27 <|
    (CALL prg f_spec_NewRoom #[.agg a25, .float .f32 ((FloatKind.f32.nearest ((IntKind.i64.wrap ((10 : Int) + n20))))), .float .f32 r24, .float .f32 r28] (fun q29 h30 =>
    TUP2 q29 fun q31 q32 =>
    asA q31 fun a33 =>
    asI .i64 q32 fun n34 =>
    ALC ⟨Z_impl_Room⟩ T_impl_Room (fun g35 h36 =>
    PIN h22 ⟨g15, 0, none⟩ 4 h36 <|
    STA 47 h36 ⟨g35, 0, none⟩ a33 fun h37 =>
    spec_l06Drawn.J5 Post s_0 ⟨g1, 0, none⟩ ⟨g35, 0, none⟩ h37) h30) h27) ∧ (ALC ⟨Z_impl_Room⟩ T_impl_Room (fun g38 h39 =>
    PIN h22 ⟨g15, 0, none⟩ 4 h39 <|
    CALL prg f_spec_NewRoom #[.agg a25, .float .f32 ((FloatKind.f32.nearest ((IntKind.i64.wrap ((10 : Int) + n20))))), .float .f32 r24, .float .f32 r28] (fun q40 h41 =>
    TUP2 q40 fun q42 q43 =>
    asA q42 fun a44 =>
    asI .i64 q43 fun n45 =>
    STA 47 h41 ⟨g38, 0, none⟩ a44 fun h46 =>
    spec_l06Drawn.J5 Post s_0 ⟨g1, 0, none⟩ ⟨g38, 0, none⟩ h46) h39) h27)) h22) ∧ (ALC ⟨Z_impl_Room⟩ T_impl_Room (fun g47 h48 =>
    PIN h22 ⟨g15, 0, none⟩ 4 h48 <|
    CALL prg f_spec_l01Plain #[.pointer (some s_0)] (fun q49 h50 =>
    asF .f32 q49 fun r51 =>
    PIN h22 ⟨g15, 0, none⟩ 4 h50 <|
    CALL prg f_spec_NewRoom #[.agg a25, .float .f32 ((FloatKind.f32.nearest ((IntKind.i64.wrap ((10 : Int) + n20))))), .float .f32 r24, .float .f32 r51] (fun q52 h53 =>
    TUP2 q52 fun q54 q55 =>
    asA q54 fun a56 =>
    asI .i64 q55 fun n57 =>
    STA 47 h53 ⟨g47, 0, none⟩ a56 fun h58 =>
    spec_l06Drawn.J5 Post s_0 ⟨g1, 0, none⟩ ⟨g47, 0, none⟩ h58) h50) h48) h22)) h19) h17) h13) h10) h7) h4) h2) h
noncomputable def spec_l06Drawn.code : Code := (Tryz.f64.body).getD .skip
theorem spec_l06Drawn.call {s_0 : Addr} {Post : Value → Heap → Prop} {h : Heap} (H : spec_l06Drawn.S s_0 Post h) : CALL prg f_spec_l06Drawn #[.pointer (some s_0)] Post h :=
  fn_call tau_ok mixed (c := spec_l06Drawn.code) (Λ := lookL [(5, spec_l06Drawn.j5 Post), (8, spec_l06Drawn.j8 Post), (1000009, spec_l06Drawn.l9 Post)]) Tryz.func64 (by kernel_rfl) (by kernel_rfl)
    (Rq.seq (by kernel_rfl) (Rq.free (by kernel_rfl)) (Rq.seq (by kernel_rfl) (Rq.free (by kernel_rfl)) (Rq.seq (by kernel_rfl) (Rq.free (by kernel_rfl)) (Rq.seq (by kernel_rfl) (Rq.free (by kernel_rfl)) (Rq.seqJ (spec_l06Drawn.j5 Post) (by kernel_rfl) (seg (fun _ _ => by kernel_rfl)) (Rq.free (by kernel_rfl))
(Rq.seqJ (spec_l06Drawn.j8 Post) (by kernel_rfl) (seg (fun _ _ => by kernel_rfl)) (Rq.free (by kernel_rfl))
(Rq.seq (by kernel_rfl) (Rq.seq (by kernel_rfl) (Rq.free (by kernel_rfl)) (Rq.block (Rq.loop (spec_l06Drawn.l9 Post) (by kernel_rfl) (segL (g := spec_l06Drawn.g9) tau_ok mixed (Λ := fun N9 => lookL []) (fun _ _ _ => by kernel_rfl) (fun N9 => (Rq.free (by kernel_rfl))))))) (Rq.free (by kernel_rfl)))))))))
    (Eq.mp (by kernel_rfl) H)

def spec_P6Room.S (code_0b : Option Addr) (code_0l code_0c : Nat) (Post : Value → Heap → Prop) (h : Heap) : Prop :=
    ALC ⟨Z_impl_Room⟩ T_impl_Room (fun g1 h2 =>
    CALL prg f_spec_l00From #[.slice code_0b code_0l code_0c] (fun q3 h4 =>
    asP q3 fun p5 =>
    CALL prg f_spec_l06Drawn #[.pointer (some p5)] (fun q6 h7 =>
    asA q6 fun a8 =>
    STA 47 h7 ⟨g1, 0, none⟩ a8 fun h9 =>
    LDA 47 h9 ⟨g1, 0, none⟩ fun a10 =>
    Post (.agg a10) h9) h4) h2) h
noncomputable def spec_P6Room.code : Code := (Tryz.f17.body).getD .skip
theorem spec_P6Room.call {code_0b : Option Addr} {code_0l code_0c : Nat} {Post : Value → Heap → Prop} {h : Heap} (H : spec_P6Room.S code_0b code_0l code_0c Post h) : CALL prg f_spec_P6Room #[.slice code_0b code_0l code_0c] Post h :=
  fn_call tau_ok mixed (c := spec_P6Room.code) (Λ := lookL []) Tryz.func17 (by kernel_rfl) (by kernel_rfl)
    (Rq.free (by kernel_rfl))
    (Eq.mp (by kernel_rfl) H)

def impl_IsSilentRoom.S (x_0 : Array Value) (Post : Value → Heap → Prop) (h : Heap) : Prop :=
    ALC x_0 T_impl_Room (fun g1 h2 =>
    LDA 47 h2 ⟨g1, 0, none⟩ fun a3 =>
    CALL prg f_impl_ValidRoom #[.agg a3] (fun q4 h5 =>
    asB q4 fun b6 =>
    BIF (!b6) (
    Post (.tuple ⟨[.bool false, .int .i64 (1 : Int)]⟩) h5) (
    CALL prg f_p_impl_Room_rings #[.pointer (some ⟨g1, 0, none⟩)] (fun q7 h8 =>
    asL q7 fun l9b l9l l9c =>
    CALL prg f_impl_areQuiet #[.slice l9b l9l l9c] (fun q10 h11 =>
    asB q10 fun b12 =>
    BIF b12 (
    CALL prg f_p_impl_Room_isStill #[.pointer (some ⟨g1, 0, none⟩)] (fun q13 h14 =>
    asB q13 fun b15 =>
    Post (.tuple ⟨[.bool b15, .int .i64 (0 : Int)]⟩) h14) h11) (
    Post (.tuple ⟨[.bool false, .int .i64 (0 : Int)]⟩) h11)) h8) h5)) h2) h
noncomputable def impl_IsSilentRoom.code : Code := (Tryz.f31.body).getD .skip
theorem impl_IsSilentRoom.call {x_0 : Array Value} {Post : Value → Heap → Prop} {h : Heap} (H : impl_IsSilentRoom.S x_0 Post h) : CALL prg f_impl_IsSilentRoom #[.agg x_0] Post h :=
  fn_call tau_ok mixed (c := impl_IsSilentRoom.code) (Λ := lookL []) Tryz.func31 (by kernel_rfl) (by kernel_rfl)
    (Rq.free (by kernel_rfl))
    (Eq.mp (by kernel_rfl) H)

def spec_l06SameComb.S (a_0 : Addr) (b_1 : Addr) (Post : Value → Heap → Prop) (h : Heap) : Prop :=
    LDA 2 h a_0 fun a1 =>
    LDA 2 h b_1 fun a2 =>
    (SIZ (Array.size a1) 2 <|
    ALC ⟨(splice 0 2 a1 [.slice none 0 0, .int .i64 (0 : Int)])⟩ T_impl_Ring (fun g3 h4 =>
    PIN h b_1 2 h4 <|
    SIZ (Array.size a2) 2 <|
    ALC ⟨(splice 0 2 a2 [.slice none 0 0, .int .i64 (0 : Int)])⟩ T_impl_Ring (fun g5 h6 =>
    PIN h a_0 2 h6 <|
    CALL prg f_spec_l04SameRings #[.slice (some ⟨g3, 0, none⟩) 1 1, .slice (some ⟨g5, 0, none⟩) 1 1] (fun q7 h8 =>
    asB q7 fun b9 =>
    BIF b9 (
    oF .f32 (cell h8 (Addr.add a_0 2)) fun r10 =>
    oF .f32 (cell h8 (Addr.add b_1 2)) fun r11 =>
    CALL prg f_spec_l01Same #[.float .f32 r10, .float .f32 r11] (fun q12 h13 =>
    asB q12 fun b14 =>
    Post (.bool b14) h13) h8) (
    Post (.bool false) h8)) h6) h4) h) ∧ (SIZ (Array.size a2) 2 <|
    ALC ⟨(splice 0 2 a2 [.slice none 0 0, .int .i64 (0 : Int)])⟩ T_impl_Ring (fun g15 h16 =>
    PIN h a_0 2 h16 <|
    SIZ (Array.size a1) 2 <|
    ALC ⟨(splice 0 2 a1 [.slice none 0 0, .int .i64 (0 : Int)])⟩ T_impl_Ring (fun g17 h18 =>
    PIN h b_1 2 h18 <|
    CALL prg f_spec_l04SameRings #[.slice (some ⟨g17, 0, none⟩) 1 1, .slice (some ⟨g15, 0, none⟩) 1 1] (fun q19 h20 =>
    asB q19 fun b21 =>
    BIF b21 (
    oF .f32 (cell h20 (Addr.add a_0 2)) fun r22 =>
    oF .f32 (cell h20 (Addr.add b_1 2)) fun r23 =>
    CALL prg f_spec_l01Same #[.float .f32 r22, .float .f32 r23] (fun q24 h25 =>
    asB q24 fun b26 =>
    Post (.bool b26) h25) h20) (
    Post (.bool false) h20)) h18) h16) h)
noncomputable def spec_l06SameComb.code : Code := (Tryz.f150.body).getD .skip
theorem spec_l06SameComb.call {a_0 : Addr} {b_1 : Addr} {Post : Value → Heap → Prop} {h : Heap} (H : spec_l06SameComb.S a_0 b_1 Post h) : CALL prg f_spec_l06SameComb #[.pointer (some a_0), .pointer (some b_1)] Post h :=
  fn_call tau_ok mixed (c := spec_l06SameComb.code) (Λ := lookL []) Tryz.func150 (by kernel_rfl) (by kernel_rfl)
    (Rq.free (by kernel_rfl))
    (Eq.mp (by kernel_rfl) H)

def spec_l06Same.B9 (Post : Value → Heap → Prop) (N9 : (Addr × Addr × Int) → Heap → Prop) : Addr × Addr × Int → Heap → Prop
  | (x_0, y_1, i_6), h =>
    BIF ((decide (i_6 < (4 : Int)))) (
    IDX i_6 4 <|
    IDX i_6 4 <|
    CALL prg f_spec_l02Same #[.pointer (some ((Addr.add (Addr.add x_0 17) ((Int.toNat i_6) * 6)))), .pointer (some ((Addr.add (Addr.add y_1 17) ((Int.toNat i_6) * 6))))] (fun q77 h78 =>
    asB q77 fun b79 =>
    BIF (!b79) (
    Post (.bool false) h78) (
    IDX i_6 4 <|
    oF .f32 (cell h78 ((Addr.add (Addr.add x_0 41) ((Int.toNat i_6) * 1)))) fun r80 =>
    IDX i_6 4 <|
    oF .f32 (cell h78 ((Addr.add (Addr.add y_1 41) ((Int.toNat i_6) * 1)))) fun r81 =>
    CALL prg f_spec_l01Same #[.float .f32 r80, .float .f32 r81] (fun q82 h83 =>
    asB q82 fun b84 =>
    BIF (!b84) (
    Post (.bool false) h83) (
    N9 (x_0, y_1, ((IntKind.i64.wrap (i_6 + (1 : Int))))) h83)) h78)) h) (
    oF .f32 (cell h (Addr.add x_0 45)) fun r85 =>
    oF .f32 (cell h (Addr.add y_1 45)) fun r86 =>
    CALL prg f_spec_l01Same #[.float .f32 r85, .float .f32 r86] (fun q87 h88 =>
    asB q87 fun b89 =>
    BIF b89 (
    oF .f32 (cell h88 (Addr.add x_0 46)) fun r90 =>
    oF .f32 (cell h88 (Addr.add y_1 46)) fun r91 =>
    CALL prg f_spec_l01Same #[.float .f32 r90, .float .f32 r91] (fun q92 h93 =>
    asB q92 fun b94 =>
    Post (.bool b94) h93) h88) (
    Post (.bool false) h88)) h)
def spec_l06Same.g9 (fr : Frame) : Addr × Addr × Int := ((gP (lget fr 0)), (gP (lget fr 1)), (gI (lget fr 6)))
def spec_l06Same.l9 (Post : Value → Heap → Prop) : Frame → Heap → Prop := fun fr h => GRD (shape (kds 162 [(0, .p), (1, .p), (6, .i .i64)]) fr) (LOOP (spec_l06Same.B9 Post) (spec_l06Same.g9 fr) h)
def spec_l06Same.B4 (Post : Value → Heap → Prop) (N4 : (Addr × Addr × Int) → Heap → Prop) : Addr × Addr × Int → Heap → Prop
  | (x_0, y_1, i_5), h =>
    oL (cell h (Addr.add x_0 2)) fun l59b l59l l59c =>
    BIF ((decide (i_5 < (l59l : Int)))) (
    oL (cell h (Addr.add x_0 2)) fun l62b l62l l62c =>
    IDXS l62b i_5 l62l fun p63 =>
    oI .i64 (cell h ((Addr.add p63 ((Int.toNat i_5) * 2)))) fun n64 =>
    oL (cell h (Addr.add y_1 2)) fun l65b l65l l65c =>
    IDXS l65b i_5 l65l fun p66 =>
    oI .i64 (cell h ((Addr.add p66 ((Int.toNat i_5) * 2)))) fun n67 =>
    BIF (n64 != n67) (
    Post (.bool false) h) (
    oL (cell h (Addr.add x_0 2)) fun l68b l68l l68c =>
    IDXS l68b i_5 l68l fun p69 =>
    oF .f32 (cell h ((Addr.add ((Addr.add p69 ((Int.toNat i_5) * 2))) 1))) fun r70 =>
    oL (cell h (Addr.add y_1 2)) fun l71b l71l l71c =>
    IDXS l71b i_5 l71l fun p72 =>
    oF .f32 (cell h ((Addr.add ((Addr.add p72 ((Int.toNat i_5) * 2))) 1))) fun r73 =>
    CALL prg f_spec_l01Same #[.float .f32 r70, .float .f32 r73] (fun q74 h75 =>
    asB q74 fun b76 =>
    BIF (!b76) (
    Post (.bool false) h75) (
    N4 (x_0, y_1, ((IntKind.i64.wrap (i_5 + (1 : Int))))) h75)) h)) (
    LOOP (spec_l06Same.B9 Post) (x_0, y_1, (0 : Int)) h)
def spec_l06Same.g4 (fr : Frame) : Addr × Addr × Int := ((gP (lget fr 0)), (gP (lget fr 1)), (gI (lget fr 5)))
def spec_l06Same.l4 (Post : Value → Heap → Prop) : Frame → Heap → Prop := fun fr h => GRD (shape (kds 162 [(0, .p), (1, .p), (5, .i .i64)]) fr) (LOOP (spec_l06Same.B4 Post) (spec_l06Same.g4 fr) h)
def spec_l06Same.J3 (Post : Value → Heap → Prop) (x_0 : Addr) (y_1 : Addr) (h : Heap) : Prop :=
    LOOP (spec_l06Same.B4 Post) (x_0, y_1, (0 : Int)) h
def spec_l06Same.j3 (Post : Value → Heap → Prop) : Frame → Heap → Prop := fun fr h => GRD (shape (kds 162 [(0, .p), (1, .p)]) fr) (spec_l06Same.J3 Post (gP (lget fr 0)) (gP (lget fr 1)) h)
def spec_l06Same.S (x_0 : Addr) (y_1 : Addr) (Post : Value → Heap → Prop) (h : Heap) : Prop :=
    LDA 2 h x_0 fun a1 =>
    LDA 2 h y_1 fun a2 =>
    (SIZ (Array.size a1) 2 <|
    ALC ⟨(splice 0 2 a1 [.slice none 0 0, .int .i64 (0 : Int)])⟩ T_impl_Ring (fun g3 h4 =>
    PIN h y_1 2 h4 <|
    SIZ (Array.size a2) 2 <|
    ALC ⟨(splice 0 2 a2 [.slice none 0 0, .int .i64 (0 : Int)])⟩ T_impl_Ring (fun g5 h6 =>
    PIN h x_0 2 h6 <|
    CALL prg f_spec_l04SameRings #[.slice (some ⟨g3, 0, none⟩) 1 1, .slice (some ⟨g5, 0, none⟩) 1 1] (fun q7 h8 =>
    asB q7 fun b9 =>
    BIF (!b9) (
    Post (.bool false) h8) (
    oL (cell h8 (Addr.add x_0 2)) fun l10b l10l l10c =>
    oL (cell h8 (Addr.add y_1 2)) fun l13b l13l l13c =>
    BIF ((l10l : Int) != (l13l : Int)) (
    Post (.bool false) h8) (
    IDX (0 : Int) 2 <|
    IDX (0 : Int) 2 <|
    CALL prg f_spec_l06SameComb #[.pointer (some (Addr.add x_0 3)), .pointer (some (Addr.add y_1 3))] (fun q16 h17 =>
    asB q16 fun b18 =>
    BIF (!b18) (
    Post (.bool false) h17) (
    IDX (1 : Int) 2 <|
    IDX (1 : Int) 2 <|
    CALL prg f_spec_l06SameComb #[.pointer (some (Addr.add x_0 6)), .pointer (some (Addr.add y_1 6))] (fun q19 h20 =>
    asB q19 fun b21 =>
    BIF (!b21) (
    Post (.bool false) h20) (
    CALL prg f_spec_l06Loops #[.pointer (some x_0)] (fun q22 h23 =>
    asL q22 fun l24b l24l l24c =>
    CALL prg f_spec_l06Loops #[.pointer (some y_1)] (fun q25 h26 =>
    asL q25 fun l27b l27l l27c =>
    CALL prg f_spec_l04SameRings #[.slice l24b l24l l24c, .slice l27b l27l l27c] (fun q28 h29 =>
    asB q28 fun b30 =>
    BIF (!b30) (
    Post (.bool false) h29) (
    spec_l06Same.J3 Post x_0 y_1 h29)) h26) h23) h20)) h17)) h8))) h6) h4) h) ∧ (SIZ (Array.size a2) 2 <|
    ALC ⟨(splice 0 2 a2 [.slice none 0 0, .int .i64 (0 : Int)])⟩ T_impl_Ring (fun g31 h32 =>
    PIN h x_0 2 h32 <|
    SIZ (Array.size a1) 2 <|
    ALC ⟨(splice 0 2 a1 [.slice none 0 0, .int .i64 (0 : Int)])⟩ T_impl_Ring (fun g33 h34 =>
    PIN h y_1 2 h34 <|
    CALL prg f_spec_l04SameRings #[.slice (some ⟨g33, 0, none⟩) 1 1, .slice (some ⟨g31, 0, none⟩) 1 1] (fun q35 h36 =>
    asB q35 fun b37 =>
    BIF (!b37) (
    Post (.bool false) h36) (
    oL (cell h36 (Addr.add x_0 2)) fun l38b l38l l38c =>
    oL (cell h36 (Addr.add y_1 2)) fun l41b l41l l41c =>
    BIF ((l38l : Int) != (l41l : Int)) (
    Post (.bool false) h36) (
    IDX (0 : Int) 2 <|
    IDX (0 : Int) 2 <|
    CALL prg f_spec_l06SameComb #[.pointer (some (Addr.add x_0 3)), .pointer (some (Addr.add y_1 3))] (fun q44 h45 =>
    asB q44 fun b46 =>
    BIF (!b46) (
    Post (.bool false) h45) (
    IDX (1 : Int) 2 <|
    IDX (1 : Int) 2 <|
    CALL prg f_spec_l06SameComb #[.pointer (some (Addr.add x_0 6)), .pointer (some (Addr.add y_1 6))] (fun q47 h48 =>
    asB q47 fun b49 =>
    BIF (!b49) (
    Post (.bool false) h48) (
    CALL prg f_spec_l06Loops #[.pointer (some x_0)] (fun q50 h51 =>
    asL q50 fun l52b l52l l52c =>
    CALL prg f_spec_l06Loops #[.pointer (some y_1)] (fun q53 h54 =>
    asL q53 fun l55b l55l l55c =>
    CALL prg f_spec_l04SameRings #[.slice l52b l52l l52c, .slice l55b l55l l55c] (fun q56 h57 =>
    asB q56 fun b58 =>
    BIF (!b58) (
    Post (.bool false) h57) (
    spec_l06Same.J3 Post x_0 y_1 h57)) h54) h51) h48)) h45)) h36))) h34) h32) h)
noncomputable def spec_l06Same.code : Code := (Tryz.f74.body).getD .skip
theorem spec_l06Same.call {x_0 : Addr} {y_1 : Addr} {Post : Value → Heap → Prop} {h : Heap} (H : spec_l06Same.S x_0 y_1 Post h) : CALL prg f_spec_l06Same #[.pointer (some x_0), .pointer (some y_1)] Post h :=
  fn_call tau_ok mixed (c := spec_l06Same.code) (Λ := lookL [(3, spec_l06Same.j3 Post), (1000004, spec_l06Same.l4 Post), (1000009, spec_l06Same.l9 Post)]) Tryz.func74 (by kernel_rfl) (by kernel_rfl)
    (Rq.seq (by kernel_rfl) (Rq.free (by kernel_rfl)) (Rq.seqJ (spec_l06Same.j3 Post) (by kernel_rfl) (seg (fun _ _ => by kernel_rfl)) (Rq.free (by kernel_rfl))
(Rq.seq (by kernel_rfl) (Rq.seq (by kernel_rfl) (Rq.free (by kernel_rfl)) (Rq.block (Rq.loop (spec_l06Same.l4 Post) (by kernel_rfl) (segL (g := spec_l06Same.g4) tau_ok mixed (Λ := fun N4 => lookL []) (fun _ _ _ => by kernel_rfl) (fun N4 => (Rq.free (by kernel_rfl))))))) (Rq.seq (by kernel_rfl) (Rq.seq (by kernel_rfl) (Rq.free (by kernel_rfl)) (Rq.block (Rq.loop (spec_l06Same.l9 Post) (by kernel_rfl) (segL (g := spec_l06Same.g9) tau_ok mixed (Λ := fun N9 => lookL []) (fun _ _ _ => by kernel_rfl) (fun N9 => (Rq.free (by kernel_rfl))))))) (Rq.free (by kernel_rfl))))))
    (Eq.mp (by kernel_rfl) H)

def spec_SameRoom.S (x_0 : Array Value) (y_1 : Array Value) (Post : Value → Heap → Prop) (h : Heap) : Prop :=
    ALC x_0 T_impl_Room (fun g1 h2 =>
    ALC y_1 T_impl_Room (fun g3 h4 =>
    CALL prg f_spec_l06Same #[.pointer (some ⟨g1, 0, none⟩), .pointer (some ⟨g3, 0, none⟩)] (fun q5 h6 =>
    asB q5 fun b7 =>
    Post (.bool b7) h6) h4) h2) h
noncomputable def spec_SameRoom.code : Code := (Tryz.f23.body).getD .skip
theorem spec_SameRoom.call {x_0 : Array Value} {y_1 : Array Value} {Post : Value → Heap → Prop} {h : Heap} (H : spec_SameRoom.S x_0 y_1 Post h) : CALL prg f_spec_SameRoom #[.agg x_0, .agg y_1] Post h :=
  fn_call tau_ok mixed (c := spec_SameRoom.code) (Λ := lookL []) Tryz.func23 (by kernel_rfl) (by kernel_rfl)
    (Rq.free (by kernel_rfl))
    (Eq.mp (by kernel_rfl) H)

end Go.Sx
