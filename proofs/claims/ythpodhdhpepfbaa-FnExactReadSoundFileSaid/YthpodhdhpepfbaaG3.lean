/- What functions of this seat's program compute, told in words (a predicate over heaps for each), and the proofs that the words are no more than the code's own weakest precondition. -/
import Derived.Test.YthpodhdhpepfbaaTab
namespace Go.Sx
open Go.Proofs
set_option linter.unusedVariables false
set_option maxRecDepth 100000

/-! #### loop.example/g01173/laws.toByteS (function 16) -/
def laws_toByteS.B3 (Post : Value → Heap → Prop) (N3 : (Option Addr × Nat × Nat × Option Addr × Nat × Nat × Int) → Heap → Prop) : Option Addr × Nat × Nat × Option Addr × Nat × Nat × Int → Heap → Prop
  | (a_0b, a_0l, a_0c, out_3b, out_3l, out_3c, i_4), h =>
    BIF ((decide (i_4 < (a_0l : Int)))) (
    IDXS a_0b i_4 a_0l fun p7 =>
    oI .u8 (cell h ((Addr.add p7 ((Int.toNat i_4) * 1)))) fun n8 =>
    IDXS out_3b i_4 out_3l fun p9 =>
    ST1 h ((Addr.add p9 ((Int.toNat i_4) * 1))) (.int .u8 n8) fun h10 =>
    N3 (a_0b, a_0l, a_0c, out_3b, out_3l, out_3c, ((IntKind.i64.wrap (i_4 + (1 : Int))))) h10) (
    Post (.slice out_3b out_3l out_3c) h)
def laws_toByteS.g3 (fr : Frame) : Option Addr × Nat × Nat × Option Addr × Nat × Nat × Int := ((gLb (lget fr 0)), (gLl (lget fr 0)), (gLc (lget fr 0)), (gLb (lget fr 3)), (gLl (lget fr 3)), (gLc (lget fr 3)), (gI (lget fr 4)))
def laws_toByteS.l3 (Post : Value → Heap → Prop) : Frame → Heap → Prop := fun fr h => GRD (shape (kds 22 [(0, .l), (3, .l), (4, .i .i64)]) fr) (LOOP (laws_toByteS.B3 Post) (laws_toByteS.g3 fr) h)
def laws_toByteS.S (a_0b : Option Addr) (a_0l a_0c : Nat) (Post : Value → Heap → Prop) (h : Heap) : Prop :=
    MKS ti_uint8 T_uint8 (a_0l : Int) (a_0l : Int) (fun g3 h4 =>
    LOOP (laws_toByteS.B3 Post) (a_0b, a_0l, a_0c, (some ⟨g3, 0, none⟩), a_0l, a_0l, (0 : Int)) h4) h
noncomputable def laws_toByteS.code : Code := (Try.f16.body).getD .skip
theorem laws_toByteS.call {a_0b : Option Addr} {a_0l a_0c : Nat} {Post : Value → Heap → Prop} {h : Heap} (H : laws_toByteS.S a_0b a_0l a_0c Post h) : CALL prg f_laws_toByteS #[.slice a_0b a_0l a_0c] Post h :=
  fn_call tau_ok mixed (c := laws_toByteS.code) (Λ := lookL [(1000003, laws_toByteS.l3 Post)]) Try.func16 (by kernel_rfl) (by kernel_rfl)
    (Rq.seq (by kernel_rfl) (Rq.free (by kernel_rfl)) (Rq.seq (by kernel_rfl) (Rq.free (by kernel_rfl)) (Rq.seq (by kernel_rfl) (Rq.seq (by kernel_rfl) (Rq.free (by kernel_rfl)) (Rq.block (Rq.loop (laws_toByteS.l3 Post) (by kernel_rfl) (segL (g := laws_toByteS.g3) tau_ok mixed (Λ := fun N3 => lookL []) (fun _ _ _ => by kernel_rfl) (fun N3 => (Rq.free (by kernel_rfl))))))) (Rq.free (by kernel_rfl)))))
    (Eq.mp (by kernel_rfl) H)

/-! #### loop.example/g01173/spec.l10Long (function 43) -/
def spec_l10Long.S (data_0b : Option Addr) (data_0l data_0c : Nat) (Post : Value → Heap → Prop) (h : Heap) : Prop :=
    Post (.bool ((decide ((16400 : Int) < (data_0l : Int))))) h
noncomputable def spec_l10Long.code : Code := (Try.f43.body).getD .skip
theorem spec_l10Long.call {data_0b : Option Addr} {data_0l data_0c : Nat} {Post : Value → Heap → Prop} {h : Heap} (H : spec_l10Long.S data_0b data_0l data_0c Post h) : CALL prg f_spec_l10Long #[.slice data_0b data_0l data_0c] Post h :=
  fn_call tau_ok mixed (c := spec_l10Long.code) (Λ := lookL []) Try.func43 (by kernel_rfl) (by kernel_rfl)
    (Rq.free (by kernel_rfl))
    (Eq.mp (by kernel_rfl) H)

/-! #### loop.example/g01173/spec.l10Number (function 65) -/
def spec_l10Number.S (data_0b : Option Addr) (data_0l data_0c : Nat) (Post : Value → Heap → Prop) (h : Heap) : Prop :=
    IDXS data_0b (0 : Int) data_0l fun p1 =>
    oI .u8 (cell h p1) fun n2 =>
    IDXS data_0b (1 : Int) data_0l fun p3 =>
    oI .u8 (cell h (Addr.add p3 1)) fun n4 =>
    NN (8 : Int) <|
    IDXS data_0b (2 : Int) data_0l fun p5 =>
    oI .u8 (cell h (Addr.add p5 2)) fun n6 =>
    NN (16 : Int) <|
    IDXS data_0b (3 : Int) data_0l fun p7 =>
    oI .u8 (cell h (Addr.add p7 3)) fun n8 =>
    NN (24 : Int) <|
    Post (.int .u32 ((bitI .or .u32 ((bitI .or .u32 ((bitI .or .u32 (IntKind.u32.wrap n2) (shlI .u32 (IntKind.u32.wrap n4) (8 : Int)))) (shlI .u32 (IntKind.u32.wrap n6) (16 : Int)))) (shlI .u32 (IntKind.u32.wrap n8) (24 : Int))))) h
noncomputable def spec_l10Number.code : Code := (Try.f65.body).getD .skip
theorem spec_l10Number.call {data_0b : Option Addr} {data_0l data_0c : Nat} {Post : Value → Heap → Prop} {h : Heap} (H : spec_l10Number.S data_0b data_0l data_0c Post h) : CALL prg f_spec_l10Number #[.slice data_0b data_0l data_0c] Post h :=
  fn_call tau_ok mixed (c := spec_l10Number.code) (Λ := lookL []) Try.func65 (by kernel_rfl) (by kernel_rfl)
    (Rq.free (by kernel_rfl))
    (Eq.mp (by kernel_rfl) H)

/-! #### loop.example/g01173/spec.l10Width (function 50) -/
def spec_l10Width.S (kind_0 : Int) (Post : Value → Heap → Prop) (h : Heap) : Prop :=
    BIF (kind_0 == (1 : Int)) (
    Post (.int .i64 (2 : Int)) h) (
    BIF (kind_0 == (2 : Int)) (
    Post (.int .i64 (4 : Int)) h) (
    Post (.int .i64 (0 : Int)) h))
noncomputable def spec_l10Width.code : Code := (Try.f50.body).getD .skip
theorem spec_l10Width.call {kind_0 : Int} {Post : Value → Heap → Prop} {h : Heap} (H : spec_l10Width.S kind_0 Post h) : CALL prg f_spec_l10Width #[.int .i64 kind_0] Post h :=
  fn_call tau_ok mixed (c := spec_l10Width.code) (Λ := lookL []) Try.func50 (by kernel_rfl) (by kernel_rfl)
    (Rq.free (by kernel_rfl))
    (Eq.mp (by kernel_rfl) H)

/-! #### loop.example/g01173/spec.l10Rate (function 51) -/
def spec_l10Rate.S (rate_0 : Int) (Post : Value → Heap → Prop) (h : Heap) : Prop :=
    CALL prg f_spec_l00In #[.int .i64 rate_0, .int .i64 (1 : Int), .int .i64 (1000000 : Int)] (fun q1 h2 =>
    asB q1 fun b3 =>
    Post (.bool b3) h2) h
noncomputable def spec_l10Rate.code : Code := (Try.f51.body).getD .skip
theorem spec_l10Rate.call {rate_0 : Int} {Post : Value → Heap → Prop} {h : Heap} (H : spec_l10Rate.S rate_0 Post h) : CALL prg f_spec_l10Rate #[.int .i64 rate_0] Post h :=
  fn_call tau_ok mixed (c := spec_l10Rate.code) (Λ := lookL []) Try.func51 (by kernel_rfl) (by kernel_rfl)
    (Rq.free (by kernel_rfl))
    (Eq.mp (by kernel_rfl) H)

/-! #### loop.example/g01173/spec.l10Head (function 44) -/
def spec_l10Head.J3 (Post : Value → Heap → Prop) (data_0b : Option Addr) (data_0l : Nat) (data_0c : Nat) (h : Heap) : Prop :=
    IDXS data_0b (3 : Int) data_0l fun p6 =>
    oI .u8 (cell h (Addr.add p6 3)) fun n7 =>
    SLB (4 : Int) (data_0l : Int) (data_0c : Int) <|
    CALL prg f_spec_l10Number #[.slice (slA data_0b data_0c 4 1) (data_0l - 4) (data_0c - 4)] (fun q8 h9 =>
    asI .u32 q8 fun n10 =>
    SLB (8 : Int) (data_0l : Int) (data_0c : Int) <|
    CALL prg f_spec_l10Number #[.slice (slA data_0b data_0c 8 1) (data_0l - 8) (data_0c - 8)] (fun q11 h12 =>
    asI .u32 q11 fun n13 =>
    CALL prg f_spec_l10Width #[.int .i64 (IntKind.i64.wrap n7)] (fun q14 h15 =>
    asI .i64 q14 fun n16 =>
    BIF (n16 == (0 : Int)) (
    Post (.tuple ⟨[.int .i64 (0 : Int), .int .i64 (0 : Int), .int .i64 (0 : Int), .bool false]⟩) h15) (
    CALL prg f_spec_l10Rate #[.int .i64 (IntKind.i64.wrap n10)] (fun q17 h18 =>
    asB q17 fun b19 =>
    BIF (!b19) (
    Post (.tuple ⟨[.int .i64 (0 : Int), .int .i64 (0 : Int), .int .i64 (0 : Int), .bool false]⟩) h18) (
    BIF ((decide ((4096 : Int) < (IntKind.i64.wrap n13)))) (
    Post (.tuple ⟨[.int .i64 (0 : Int), .int .i64 (0 : Int), .int .i64 (0 : Int), .bool false]⟩) h18) (
    Post (.tuple ⟨[.int .i64 (IntKind.i64.wrap n7), .int .i64 (IntKind.i64.wrap n10), .int .i64 (IntKind.i64.wrap n13), .bool true]⟩) h18))) h15)) h12) h9) h
def spec_l10Head.j3 (Post : Value → Heap → Prop) : Frame → Heap → Prop := fun fr h => GRD (shape (kds 45 [(0, .l)]) fr) (spec_l10Head.J3 Post (gLb (lget fr 0)) (gLl (lget fr 0)) (gLc (lget fr 0)) h)
def spec_l10Head.S (data_0b : Option Addr) (data_0l data_0c : Nat) (Post : Value → Heap → Prop) (h : Heap) : Prop :=
    BIF ((decide ((data_0l : Int) < (12 : Int)))) (
    Post (.tuple ⟨[.int .i64 (0 : Int), .int .i64 (0 : Int), .int .i64 (0 : Int), .bool false]⟩) h) (
    SLB (0 : Int) (3 : Int) (data_0c : Int) <|
    SEMV prg (convert T_sl_uint8 T_string (.slice (slA data_0b data_0c 0 1) (3 - 0) (data_0c - 0))) (fun q3 h4 =>
    asS q3 fun s5 =>
    BIF ((!(ByteArray.toList s5 == ByteArray.toList (⟨#[83, 80, 70]⟩ : ByteArray)))) (
    Post (.tuple ⟨[.int .i64 (0 : Int), .int .i64 (0 : Int), .int .i64 (0 : Int), .bool false]⟩) h4) (
    spec_l10Head.J3 Post data_0b data_0l data_0c h4)) h)
noncomputable def spec_l10Head.code : Code := (Try.f44.body).getD .skip
theorem spec_l10Head.call {data_0b : Option Addr} {data_0l data_0c : Nat} {Post : Value → Heap → Prop} {h : Heap} (H : spec_l10Head.S data_0b data_0l data_0c Post h) : CALL prg f_spec_l10Head #[.slice data_0b data_0l data_0c] Post h :=
  fn_call tau_ok mixed (c := spec_l10Head.code) (Λ := lookL [(3, spec_l10Head.j3 Post)]) Try.func44 (by kernel_rfl) (by kernel_rfl)
    (Rq.seq (by kernel_rfl) (Rq.free (by kernel_rfl)) (Rq.seqJ (spec_l10Head.j3 Post) (by kernel_rfl) (seg (fun _ _ => by kernel_rfl)) (Rq.free (by kernel_rfl))
(Rq.free (by kernel_rfl))))
    (Eq.mp (by kernel_rfl) H)

/-! #### loop.example/g01173/spec.l10Samples (function 45) -/
def spec_l10Samples.J6 (N4 : (Option Addr × Nat × Nat × Int × Int × Option Addr × Nat × Nat × Int × Int) → Heap → Prop) (Post : Value → Heap → Prop) (data_0b : Option Addr) (data_0l : Nat) (data_0c : Nat) (kind_1 : Int) (most_2 : Int) (out_7b : Option Addr) (out_7l : Nat) (out_7c : Nat) (w_8 : Int) (at_9 : Int) (h : Heap) : Prop :=
    BIF (kind_1 == (1 : Int)) (
    IDXS data_0b at_9 data_0l fun p10 =>
    oI .u8 (cell h ((Addr.add p10 ((Int.toNat at_9) * 1)))) fun n11 =>
    IDXS data_0b ((IntKind.i64.wrap (at_9 + (1 : Int)))) data_0l fun p12 =>
    oI .u8 (cell h ((Addr.add p12 ((Int.toNat ((IntKind.i64.wrap (at_9 + (1 : Int))))) * 1)))) fun n13 =>
    NN (8 : Int) <|
    FOP .f32 (FloatKind.f32.format.div ((FloatKind.f32.nearest ((IntKind.i16.wrap ((bitI .or .u16 (IntKind.u16.wrap n11) (shlI .u16 (IntKind.u16.wrap n13) (8 : Int)))))))) 1191182336) fun r14 =>
    ALC ⟨[.float .f32 r14]⟩ T_float32 (fun g15 h16 =>
    SEMV prg (Builtin.append_ #[T_sl_float32, T_sl_float32] T_sl_float32 #[.slice out_7b out_7l out_7c, .slice (some ⟨g15, 0, none⟩) 1 1]) (fun q17 h18 =>
    asL q17 fun l19b l19l l19c =>
    N4 (data_0b, data_0l, data_0c, kind_1, most_2, l19b, l19l, l19c, w_8, (IntKind.i64.wrap (at_9 + w_8))) h18) h16) h) (
    SLB at_9 (data_0l : Int) (data_0c : Int) <|
    CALL prg f_spec_l10Number #[.slice (slA data_0b data_0c (Int.toNat at_9) 1) (data_0l - (Int.toNat at_9)) (data_0c - (Int.toNat at_9))] (fun q20 h21 =>
    asI .u32 q20 fun n22 =>
    CALL prg f_math_Float32frombits #[.int .u32 n22] (fun q23 h24 =>
    asF .f32 q23 fun r25 =>
    ALC ⟨[.float .f32 r25]⟩ T_float32 (fun g26 h27 =>
    SEMV prg (Builtin.append_ #[T_sl_float32, T_sl_float32] T_sl_float32 #[.slice out_7b out_7l out_7c, .slice (some ⟨g26, 0, none⟩) 1 1]) (fun q28 h29 =>
    asL q28 fun l30b l30l l30c =>
    N4 (data_0b, data_0l, data_0c, kind_1, most_2, l30b, l30l, l30c, w_8, (IntKind.i64.wrap (at_9 + w_8))) h29) h27) h24) h21) h)
def spec_l10Samples.j6 (N4 : (Option Addr × Nat × Nat × Int × Int × Option Addr × Nat × Nat × Int × Int) → Heap → Prop) (Post : Value → Heap → Prop) : Frame → Heap → Prop := fun fr h => GRD (shape (kds 60 [(0, .l), (1, .i .i64), (2, .i .i64), (7, .l), (8, .i .i64), (9, .i .i64)]) fr) (spec_l10Samples.J6 N4 Post (gLb (lget fr 0)) (gLl (lget fr 0)) (gLc (lget fr 0)) (gI (lget fr 1)) (gI (lget fr 2)) (gLb (lget fr 7)) (gLl (lget fr 7)) (gLc (lget fr 7)) (gI (lget fr 8)) (gI (lget fr 9)) h)
def spec_l10Samples.B4 (Post : Value → Heap → Prop) (N4 : (Option Addr × Nat × Nat × Int × Int × Option Addr × Nat × Nat × Int × Int) → Heap → Prop) : Option Addr × Nat × Nat × Int × Int × Option Addr × Nat × Nat × Int × Int → Heap → Prop
  | (data_0b, data_0l, data_0c, kind_1, most_2, out_7b, out_7l, out_7c, w_8, at_9), h =>
    BIF ((decide ((IntKind.i64.wrap (at_9 + w_8)) ≤ (data_0l : Int)))) (
    BIF ((decide ((out_7l : Int) < most_2))) (
    spec_l10Samples.J6 N4 Post data_0b data_0l data_0c kind_1 most_2 out_7b out_7l out_7c w_8 at_9 h) (
    Post (.slice out_7b out_7l out_7c) h)) (
    Post (.slice out_7b out_7l out_7c) h)
def spec_l10Samples.g4 (fr : Frame) : Option Addr × Nat × Nat × Int × Int × Option Addr × Nat × Nat × Int × Int := ((gLb (lget fr 0)), (gLl (lget fr 0)), (gLc (lget fr 0)), (gI (lget fr 1)), (gI (lget fr 2)), (gLb (lget fr 7)), (gLl (lget fr 7)), (gLc (lget fr 7)), (gI (lget fr 8)), (gI (lget fr 9)))
def spec_l10Samples.l4 (Post : Value → Heap → Prop) : Frame → Heap → Prop := fun fr h => GRD (shape (kds 60 [(0, .l), (1, .i .i64), (2, .i .i64), (7, .l), (8, .i .i64), (9, .i .i64)]) fr) (LOOP (spec_l10Samples.B4 Post) (spec_l10Samples.g4 fr) h)
def spec_l10Samples.S (data_0b : Option Addr) (data_0l data_0c : Nat) (kind_1 : Int) (most_2 : Int) (Post : Value → Heap → Prop) (h : Heap) : Prop :=
    ALC ⟨[]⟩ T_float32 (fun g1 h2 =>
    CALL prg f_spec_l10Width #[.int .i64 kind_1] (fun q3 h4 =>
    asI .i64 q3 fun n5 =>
    LOOP (spec_l10Samples.B4 Post) (data_0b, data_0l, data_0c, kind_1, most_2, (some ⟨g1, 0, none⟩), 0, 0, n5, (12 : Int)) h4) h2) h
noncomputable def spec_l10Samples.code : Code := (Try.f45.body).getD .skip
theorem spec_l10Samples.call {data_0b : Option Addr} {data_0l data_0c : Nat} {kind_1 : Int} {most_2 : Int} {Post : Value → Heap → Prop} {h : Heap} (H : spec_l10Samples.S data_0b data_0l data_0c kind_1 most_2 Post h) : CALL prg f_spec_l10Samples #[.slice data_0b data_0l data_0c, .int .i64 kind_1, .int .i64 most_2] Post h :=
  fn_call tau_ok mixed (c := spec_l10Samples.code) (Λ := lookL [(1000004, spec_l10Samples.l4 Post)]) Try.func45 (by kernel_rfl) (by kernel_rfl)
    (Rq.seq (by kernel_rfl) (Rq.free (by kernel_rfl)) (Rq.seq (by kernel_rfl) (Rq.free (by kernel_rfl)) (Rq.seq (by kernel_rfl) (Rq.free (by kernel_rfl)) (Rq.seq (by kernel_rfl) (Rq.seq (by kernel_rfl) (Rq.free (by kernel_rfl)) (Rq.block (Rq.loop (spec_l10Samples.l4 Post) (by kernel_rfl) (segL (g := spec_l10Samples.g4) tau_ok mixed (Λ := fun N4 => lookL [(6, spec_l10Samples.j6 N4 Post)]) (fun _ _ _ => by kernel_rfl) (fun N4 => (Rq.seqJ (spec_l10Samples.j6 N4 Post) (by kernel_rfl) (seg (fun _ _ => by kernel_rfl)) (Rq.free (by kernel_rfl))
(Rq.free (by kernel_rfl)))))))) (Rq.free (by kernel_rfl))))))
    (Eq.mp (by kernel_rfl) H)

/-! #### loop.example/g01173/spec.TornSamples (function 15) -/
def spec_TornSamples.S (data_0b : Option Addr) (data_0l data_0c : Nat) (Post : Value → Heap → Prop) (h : Heap) : Prop :=
    CALL prg f_spec_l10Long #[.slice data_0b data_0l data_0c] (fun q1 h2 =>
    asB q1 fun b3 =>
    BIF b3 (
    ALC ⟨[]⟩ T_float32 (fun g4 h5 =>
    Post (.tuple ⟨[.slice (some ⟨g4, 0, none⟩) 0 0, .int .i64 (3 : Int)]⟩) h5) h2) (
    CALL prg f_spec_l10Head #[.slice data_0b data_0l data_0c] (fun q6 h7 =>
    TUP4 q6 fun q8 q9 q10 q11 =>
    asI .i64 q8 fun n12 =>
    asI .i64 q9 fun n13 =>
    asI .i64 q10 fun n14 =>
    asB q11 fun b15 =>
    BIF (!b15) (
    ALC ⟨[]⟩ T_float32 (fun g16 h17 =>
    Post (.tuple ⟨[.slice (some ⟨g16, 0, none⟩) 0 0, .int .i64 (5 : Int)]⟩) h17) h7) (
    CALL prg f_spec_l10Samples #[.slice data_0b data_0l data_0c, .int .i64 n12, .int .i64 n14] (fun q18 h19 =>
    asL q18 fun l20b l20l l20c =>
    Post (.tuple ⟨[.slice l20b l20l l20c, .int .i64 (0 : Int)]⟩) h19) h7)) h2)) h
noncomputable def spec_TornSamples.code : Code := (Try.f15.body).getD .skip
theorem spec_TornSamples.call {data_0b : Option Addr} {data_0l data_0c : Nat} {Post : Value → Heap → Prop} {h : Heap} (H : spec_TornSamples.S data_0b data_0l data_0c Post h) : CALL prg f_spec_TornSamples #[.slice data_0b data_0l data_0c] Post h :=
  fn_call tau_ok mixed (c := spec_TornSamples.code) (Λ := lookL []) Try.func15 (by kernel_rfl) (by kernel_rfl)
    (Rq.free (by kernel_rfl))
    (Eq.mp (by kernel_rfl) H)

/-! #### loop.example/g01173/impl.isLongFile (function 46) -/
def impl_isLongFile.S (data_0b : Option Addr) (data_0l data_0c : Nat) (Post : Value → Heap → Prop) (h : Heap) : Prop :=
    Post (.bool ((decide ((16400 : Int) < (data_0l : Int))))) h
noncomputable def impl_isLongFile.code : Code := (Try.f46.body).getD .skip
theorem impl_isLongFile.call {data_0b : Option Addr} {data_0l data_0c : Nat} {Post : Value → Heap → Prop} {h : Heap} (H : impl_isLongFile.S data_0b data_0l data_0c Post h) : CALL prg f_impl_isLongFile #[.slice data_0b data_0l data_0c] Post h :=
  fn_call tau_ok mixed (c := impl_isLongFile.code) (Λ := lookL []) Try.func46 (by kernel_rfl) (by kernel_rfl)
    (Rq.free (by kernel_rfl))
    (Eq.mp (by kernel_rfl) H)

/-! #### loop.example/g01173/impl.littleOf (function 67) -/
def impl_littleOf.B3 (Post : Value → Heap → Prop) (N3 : (Option Addr × Nat × Nat × Int × Int) → Heap → Prop) : Option Addr × Nat × Nat × Int × Int → Heap → Prop
  | (b_0b, b_0l, b_0c, n_3, i_4), h =>
    BIF ((decide ((0 : Int) ≤ i_4))) (
    NN (8 : Int) <|
    IDXS b_0b i_4 b_0l fun p3 =>
    oI .u8 (cell h ((Addr.add p3 ((Int.toNat i_4) * 1)))) fun n4 =>
    N3 (b_0b, b_0l, b_0c, ((bitI .or .u64 (shlI .u64 n_3 (8 : Int)) (IntKind.u64.wrap n4))), ((IntKind.i64.wrap (i_4 - (1 : Int))))) h) (
    Post (.int .u64 n_3) h)
def impl_littleOf.g3 (fr : Frame) : Option Addr × Nat × Nat × Int × Int := ((gLb (lget fr 0)), (gLl (lget fr 0)), (gLc (lget fr 0)), (gI (lget fr 3)), (gI (lget fr 4)))
def impl_littleOf.l3 (Post : Value → Heap → Prop) : Frame → Heap → Prop := fun fr h => GRD (shape (kds 21 [(0, .l), (3, .i .u64), (4, .i .i64)]) fr) (LOOP (impl_littleOf.B3 Post) (impl_littleOf.g3 fr) h)
def impl_littleOf.S (b_0b : Option Addr) (b_0l b_0c : Nat) (Post : Value → Heap → Prop) (h : Heap) : Prop :=
    LOOP (impl_littleOf.B3 Post) (b_0b, b_0l, b_0c, (0 : Int), ((IntKind.i64.wrap ((b_0l : Int) - (1 : Int))))) h
noncomputable def impl_littleOf.code : Code := (Try.f67.body).getD .skip
theorem impl_littleOf.call {b_0b : Option Addr} {b_0l b_0c : Nat} {Post : Value → Heap → Prop} {h : Heap} (H : impl_littleOf.S b_0b b_0l b_0c Post h) : CALL prg f_impl_littleOf #[.slice b_0b b_0l b_0c] Post h :=
  fn_call tau_ok mixed (c := impl_littleOf.code) (Λ := lookL [(1000003, impl_littleOf.l3 Post)]) Try.func67 (by kernel_rfl) (by kernel_rfl)
    (Rq.seq (by kernel_rfl) (Rq.free (by kernel_rfl)) (Rq.seq (by kernel_rfl) (Rq.free (by kernel_rfl)) (Rq.seq (by kernel_rfl) (Rq.seq (by kernel_rfl) (Rq.free (by kernel_rfl)) (Rq.block (Rq.loop (impl_littleOf.l3 Post) (by kernel_rfl) (segL (g := impl_littleOf.g3) tau_ok mixed (Λ := fun N3 => lookL []) (fun _ _ _ => by kernel_rfl) (fun N3 => (Rq.free (by kernel_rfl))))))) (Rq.free (by kernel_rfl)))))
    (Eq.mp (by kernel_rfl) H)

/-! #### loop.example/g01173/impl.isSoundKind (function 53) -/
def impl_isSoundKind.S (kind_0 : Int) (Post : Value → Heap → Prop) (h : Heap) : Prop :=
    CALL prg f_impl_within #[.int .i64 kind_0, .int .i64 (1 : Int), .int .i64 (2 : Int)] (fun q1 h2 =>
    asB q1 fun b3 =>
    Post (.bool b3) h2) h
noncomputable def impl_isSoundKind.code : Code := (Try.f53.body).getD .skip
theorem impl_isSoundKind.call {kind_0 : Int} {Post : Value → Heap → Prop} {h : Heap} (H : impl_isSoundKind.S kind_0 Post h) : CALL prg f_impl_isSoundKind #[.int .i64 kind_0] Post h :=
  fn_call tau_ok mixed (c := impl_isSoundKind.code) (Λ := lookL []) Try.func53 (by kernel_rfl) (by kernel_rfl)
    (Rq.free (by kernel_rfl))
    (Eq.mp (by kernel_rfl) H)

/-! #### loop.example/g01173/impl.soundHead (function 47) -/
def impl_soundHead.J3 (Post : Value → Heap → Prop) (data_0b : Option Addr) (data_0l : Nat) (data_0c : Nat) (h : Heap) : Prop :=
    IDXS data_0b (3 : Int) data_0l fun p6 =>
    oI .u8 (cell h (Addr.add p6 3)) fun n7 =>
    SLB (4 : Int) (8 : Int) (data_0c : Int) <|
    SLB (8 : Int) (12 : Int) (data_0c : Int) <|
    CALL prg f_impl_littleOf #[.slice (slA data_0b data_0c 4 1) (8 - 4) (data_0c - 4)] (fun q8 h9 =>
    asI .u64 q8 fun n10 =>
    PIN h (Addr.add p6 3) 1 h9 <|
    CALL prg f_impl_littleOf #[.slice (slA data_0b data_0c 8 1) (12 - 8) (data_0c - 8)] (fun q11 h12 =>
    asI .u64 q11 fun n13 =>
    PIN h (Addr.add p6 3) 1 h12 <|
    CALL prg f_impl_isSoundKind #[.int .i64 (IntKind.i64.wrap n7)] (fun q14 h15 =>
    asB q14 fun b16 =>
    BIF b16 (
    CALL prg f_impl_within #[.int .i64 (IntKind.i64.wrap n10), .int .i64 (1 : Int), .int .i64 (1000000 : Int)] (fun q17 h18 =>
    asB q17 fun b19 =>
    BIF b19 (
    Post (.tuple ⟨[.int .i64 (IntKind.i64.wrap n7), .int .i64 (IntKind.i64.wrap n10), .int .i64 (IntKind.i64.wrap n13), .bool ((decide ((IntKind.i64.wrap n13) ≤ (4096 : Int))))]⟩) h18) (
    Post (.tuple ⟨[.int .i64 (IntKind.i64.wrap n7), .int .i64 (IntKind.i64.wrap n10), .int .i64 (IntKind.i64.wrap n13), .bool false]⟩) h18)) h15) (
    Post (.tuple ⟨[.int .i64 (IntKind.i64.wrap n7), .int .i64 (IntKind.i64.wrap n10), .int .i64 (IntKind.i64.wrap n13), .bool false]⟩) h15)) h12) h9) h
def impl_soundHead.j3 (Post : Value → Heap → Prop) : Frame → Heap → Prop := fun fr h => GRD (shape (kds 43 [(0, .l)]) fr) (impl_soundHead.J3 Post (gLb (lget fr 0)) (gLl (lget fr 0)) (gLc (lget fr 0)) h)
def impl_soundHead.S (data_0b : Option Addr) (data_0l data_0c : Nat) (Post : Value → Heap → Prop) (h : Heap) : Prop :=
    BIF ((decide ((data_0l : Int) < (12 : Int)))) (
    Post (.tuple ⟨[.int .i64 (0 : Int), .int .i64 (0 : Int), .int .i64 (0 : Int), .bool false]⟩) h) (
    SLB (0 : Int) (3 : Int) (data_0c : Int) <|
    SEMV prg (convert T_sl_uint8 T_string (.slice (slA data_0b data_0c 0 1) (3 - 0) (data_0c - 0))) (fun q3 h4 =>
    asS q3 fun s5 =>
    BIF ((!(ByteArray.toList s5 == ByteArray.toList (⟨#[83, 80, 70]⟩ : ByteArray)))) (
    Post (.tuple ⟨[.int .i64 (0 : Int), .int .i64 (0 : Int), .int .i64 (0 : Int), .bool false]⟩) h4) (
    impl_soundHead.J3 Post data_0b data_0l data_0c h4)) h)
noncomputable def impl_soundHead.code : Code := (Try.f47.body).getD .skip
theorem impl_soundHead.call {data_0b : Option Addr} {data_0l data_0c : Nat} {Post : Value → Heap → Prop} {h : Heap} (H : impl_soundHead.S data_0b data_0l data_0c Post h) : CALL prg f_impl_soundHead #[.slice data_0b data_0l data_0c] Post h :=
  fn_call tau_ok mixed (c := impl_soundHead.code) (Λ := lookL [(3, impl_soundHead.j3 Post)]) Try.func47 (by kernel_rfl) (by kernel_rfl)
    (Rq.seq (by kernel_rfl) (Rq.free (by kernel_rfl)) (Rq.seqJ (impl_soundHead.j3 Post) (by kernel_rfl) (seg (fun _ _ => by kernel_rfl)) (Rq.free (by kernel_rfl))
(Rq.free (by kernel_rfl))))
    (Eq.mp (by kernel_rfl) H)

/-! #### loop.example/g01173/impl.sampleSize (function 55) -/
def impl_sampleSize.S (kind_0 : Int) (Post : Value → Heap → Prop) (h : Heap) : Prop :=
    Post (.int .i64 ((IntKind.i64.wrap ((2 : Int) * kind_0)))) h
noncomputable def impl_sampleSize.code : Code := (Try.f55.body).getD .skip
theorem impl_sampleSize.call {kind_0 : Int} {Post : Value → Heap → Prop} {h : Heap} (H : impl_sampleSize.S kind_0 Post h) : CALL prg f_impl_sampleSize #[.int .i64 kind_0] Post h :=
  fn_call tau_ok mixed (c := impl_sampleSize.code) (Λ := lookL []) Try.func55 (by kernel_rfl) (by kernel_rfl)
    (Rq.free (by kernel_rfl))
    (Eq.mp (by kernel_rfl) H)

/-! #### loop.example/g01173/impl.FromShort (function 33) -/
def impl_FromShort.S (n_0 : Int) (Post : Value → Heap → Prop) (h : Heap) : Prop :=
    FOP .f32 (FloatKind.f32.format.div (FloatKind.f32.nearest n_0) 1191182336) fun r1 =>
    Post (.float .f32 r1) h
noncomputable def impl_FromShort.code : Code := (Try.f33.body).getD .skip
theorem impl_FromShort.call {n_0 : Int} {Post : Value → Heap → Prop} {h : Heap} (H : impl_FromShort.S n_0 Post h) : CALL prg f_impl_FromShort #[.int .i16 n_0] Post h :=
  fn_call tau_ok mixed (c := impl_FromShort.code) (Λ := lookL []) Try.func33 (by kernel_rfl) (by kernel_rfl)
    (Rq.free (by kernel_rfl))
    (Eq.mp (by kernel_rfl) H)

/-! #### loop.example/g01173/impl.soundSamples (function 48) -/
def impl_soundSamples.J4 (N3 : (Int × Option Addr × Nat × Nat × Int × Int × Option Addr × Nat × Nat) → Heap → Prop) (Post : Value → Heap → Prop) (kind_0 : Int) (data_1b : Option Addr) (data_1l : Nat) (data_1c : Nat) (most_2 : Int) (size_7 : Int) (out_8b : Option Addr) (out_8l : Nat) (out_8c : Nat) (h : Heap) : Prop :=
    BIF (kind_0 == (1 : Int)) (
    SLB (0 : Int) (2 : Int) (data_1c : Int) <|
    CALL prg f_impl_littleOf #[.slice (slA data_1b data_1c 0 1) (2 - 0) (data_1c - 0)] (fun q8 h9 =>
    asI .u64 q8 fun n10 =>
    CALL prg f_impl_FromShort #[.int .i16 (IntKind.i16.wrap n10)] (fun q11 h12 =>
    asF .f32 q11 fun r13 =>
    ALC ⟨[.float .f32 r13]⟩ T_float32 (fun g14 h15 =>
    SEMV prg (Builtin.append_ #[T_sl_float32, T_sl_float32] T_sl_float32 #[.slice out_8b out_8l out_8c, .slice (some ⟨g14, 0, none⟩) 1 1]) (fun q16 h17 =>
    asL q16 fun l18b l18l l18c =>
    SLB size_7 (data_1l : Int) (data_1c : Int) <|
    N3 (kind_0, (slA data_1b data_1c (Int.toNat size_7) 1), (data_1l - (Int.toNat size_7)), (data_1c - (Int.toNat size_7)), most_2, size_7, l18b, l18l, l18c) h17) h15) h12) h9) h) (
    SLB (0 : Int) (4 : Int) (data_1c : Int) <|
    CALL prg f_impl_littleOf #[.slice (slA data_1b data_1c 0 1) (4 - 0) (data_1c - 0)] (fun q19 h20 =>
    asI .u64 q19 fun n21 =>
    CALL prg f_math_Float32frombits #[.int .u32 (IntKind.u32.wrap n21)] (fun q22 h23 =>
    asF .f32 q22 fun r24 =>
    ALC ⟨[.float .f32 r24]⟩ T_float32 (fun g25 h26 =>
    SEMV prg (Builtin.append_ #[T_sl_float32, T_sl_float32] T_sl_float32 #[.slice out_8b out_8l out_8c, .slice (some ⟨g25, 0, none⟩) 1 1]) (fun q27 h28 =>
    asL q27 fun l29b l29l l29c =>
    SLB size_7 (data_1l : Int) (data_1c : Int) <|
    N3 (kind_0, (slA data_1b data_1c (Int.toNat size_7) 1), (data_1l - (Int.toNat size_7)), (data_1c - (Int.toNat size_7)), most_2, size_7, l29b, l29l, l29c) h28) h26) h23) h20) h)
def impl_soundSamples.j4 (N3 : (Int × Option Addr × Nat × Nat × Int × Int × Option Addr × Nat × Nat) → Heap → Prop) (Post : Value → Heap → Prop) : Frame → Heap → Prop := fun fr h => GRD (shape (kds 43 [(0, .i .i64), (1, .l), (2, .i .i64), (7, .i .i64), (8, .l)]) fr) (impl_soundSamples.J4 N3 Post (gI (lget fr 0)) (gLb (lget fr 1)) (gLl (lget fr 1)) (gLc (lget fr 1)) (gI (lget fr 2)) (gI (lget fr 7)) (gLb (lget fr 8)) (gLl (lget fr 8)) (gLc (lget fr 8)) h)
def impl_soundSamples.B3 (Post : Value → Heap → Prop) (N3 : (Int × Option Addr × Nat × Nat × Int × Int × Option Addr × Nat × Nat) → Heap → Prop) : Int × Option Addr × Nat × Nat × Int × Int × Option Addr × Nat × Nat → Heap → Prop
  | (kind_0, data_1b, data_1l, data_1c, most_2, size_7, out_8b, out_8l, out_8c), h =>
    BIF ((decide ((out_8l : Int) < most_2))) (
    BIF ((decide (size_7 ≤ (data_1l : Int)))) (
    impl_soundSamples.J4 N3 Post kind_0 data_1b data_1l data_1c most_2 size_7 out_8b out_8l out_8c h) (
    Post (.slice out_8b out_8l out_8c) h)) (
    Post (.slice out_8b out_8l out_8c) h)
def impl_soundSamples.g3 (fr : Frame) : Int × Option Addr × Nat × Nat × Int × Int × Option Addr × Nat × Nat := ((gI (lget fr 0)), (gLb (lget fr 1)), (gLl (lget fr 1)), (gLc (lget fr 1)), (gI (lget fr 2)), (gI (lget fr 7)), (gLb (lget fr 8)), (gLl (lget fr 8)), (gLc (lget fr 8)))
def impl_soundSamples.l3 (Post : Value → Heap → Prop) : Frame → Heap → Prop := fun fr h => GRD (shape (kds 43 [(0, .i .i64), (1, .l), (2, .i .i64), (7, .i .i64), (8, .l)]) fr) (LOOP (impl_soundSamples.B3 Post) (impl_soundSamples.g3 fr) h)
def impl_soundSamples.S (kind_0 : Int) (data_1b : Option Addr) (data_1l data_1c : Nat) (most_2 : Int) (Post : Value → Heap → Prop) (h : Heap) : Prop :=
    CALL prg f_impl_sampleSize #[.int .i64 kind_0] (fun q1 h2 =>
    asI .i64 q1 fun n3 =>
    LOOP (impl_soundSamples.B3 Post) (kind_0, data_1b, data_1l, data_1c, most_2, n3, none, 0, 0) h2) h
noncomputable def impl_soundSamples.code : Code := (Try.f48.body).getD .skip
theorem impl_soundSamples.call {kind_0 : Int} {data_1b : Option Addr} {data_1l data_1c : Nat} {most_2 : Int} {Post : Value → Heap → Prop} {h : Heap} (H : impl_soundSamples.S kind_0 data_1b data_1l data_1c most_2 Post h) : CALL prg f_impl_soundSamples #[.int .i64 kind_0, .slice data_1b data_1l data_1c, .int .i64 most_2] Post h :=
  fn_call tau_ok mixed (c := impl_soundSamples.code) (Λ := lookL [(1000003, impl_soundSamples.l3 Post)]) Try.func48 (by kernel_rfl) (by kernel_rfl)
    (Rq.seq (by kernel_rfl) (Rq.free (by kernel_rfl)) (Rq.seq (by kernel_rfl) (Rq.free (by kernel_rfl)) (Rq.seq (by kernel_rfl) (Rq.free (by kernel_rfl)) (Rq.seq (by kernel_rfl) (Rq.block (Rq.loop (impl_soundSamples.l3 Post) (by kernel_rfl) (segL (g := impl_soundSamples.g3) tau_ok mixed (Λ := fun N3 => lookL [(4, impl_soundSamples.j4 N3 Post)]) (fun _ _ _ => by kernel_rfl) (fun N3 => (Rq.seqJ (impl_soundSamples.j4 N3 Post) (by kernel_rfl) (seg (fun _ _ => by kernel_rfl)) (Rq.free (by kernel_rfl))
(Rq.free (by kernel_rfl))))))) (Rq.free (by kernel_rfl))))))
    (Eq.mp (by kernel_rfl) H)

/-! #### loop.example/g01173/impl.TornSamples (function 17) -/
def impl_TornSamples.S (data_0b : Option Addr) (data_0l data_0c : Nat) (Post : Value → Heap → Prop) (h : Heap) : Prop :=
    CALL prg f_impl_isLongFile #[.slice data_0b data_0l data_0c] (fun q1 h2 =>
    asB q1 fun b3 =>
    BIF b3 (
    Post (.tuple ⟨[.slice none 0 0, .int .i64 (3 : Int)]⟩) h2) (
    CALL prg f_impl_soundHead #[.slice data_0b data_0l data_0c] (fun q4 h5 =>
    TUP4 q4 fun q6 q7 q8 q9 =>
    asI .i64 q6 fun n10 =>
    asI .i64 q7 fun n11 =>
    asI .i64 q8 fun n12 =>
    asB q9 fun b13 =>
    BIF (!b13) (
    Post (.tuple ⟨[.slice none 0 0, .int .i64 (5 : Int)]⟩) h5) (
    SLB (12 : Int) (data_0l : Int) (data_0c : Int) <|
    CALL prg f_impl_soundSamples #[.int .i64 n10, .slice (slA data_0b data_0c 12 1) (data_0l - 12) (data_0c - 12), .int .i64 n12] (fun q14 h15 =>
    asL q14 fun l16b l16l l16c =>
    Post (.tuple ⟨[.slice l16b l16l l16c, .int .i64 (0 : Int)]⟩) h15) h5)) h2)) h
noncomputable def impl_TornSamples.code : Code := (Try.f17.body).getD .skip
theorem impl_TornSamples.call {data_0b : Option Addr} {data_0l data_0c : Nat} {Post : Value → Heap → Prop} {h : Heap} (H : impl_TornSamples.S data_0b data_0l data_0c Post h) : CALL prg f_impl_TornSamples #[.slice data_0b data_0l data_0c] Post h :=
  fn_call tau_ok mixed (c := impl_TornSamples.code) (Λ := lookL []) Try.func17 (by kernel_rfl) (by kernel_rfl)
    (Rq.free (by kernel_rfl))
    (Eq.mp (by kernel_rfl) H)

/-! #### loop.example/g01173/laws.sameFloat (function 49) -/
def laws_sameFloat.J4 (Post : Value → Heap → Prop) (a_0 : Nat) (b_1 : Nat) (t26 : Bool) (h : Heap) : Prop :=
    BIF t26 (
    FOP .f64 (FloatKind.f64.format.div 4607182418800017408 a_0) fun r1 =>
    FOP .f64 (FloatKind.f64.format.div 4607182418800017408 b_1) fun r2 =>
    Post (.bool ((FloatKind.f64.format.order r1 0 == some .gt) == (FloatKind.f64.format.order r2 0 == some .gt))) h) (
    Post (.bool (FloatKind.f64.format.order a_0 b_1 == some .eq)) h)
def laws_sameFloat.j4 (Post : Value → Heap → Prop) : Frame → Heap → Prop := fun fr h => GRD (shape (kds 37 [(0, .f .f64), (1, .f .f64), (26, .b)]) fr) (laws_sameFloat.J4 Post (gF (lget fr 0)) (gF (lget fr 1)) (gB (lget fr 26)) h)
def laws_sameFloat.J3 (Post : Value → Heap → Prop) (a_0 : Nat) (b_1 : Nat) (h : Heap) : Prop :=
    BIF (FloatKind.f64.format.order a_0 0 == some .eq) (
    laws_sameFloat.J4 Post a_0 b_1 (FloatKind.f64.format.order b_1 0 == some .eq) h) (
    laws_sameFloat.J4 Post a_0 b_1 false h)
def laws_sameFloat.j3 (Post : Value → Heap → Prop) : Frame → Heap → Prop := fun fr h => GRD (shape (kds 37 [(0, .f .f64), (1, .f .f64)]) fr) (laws_sameFloat.J3 Post (gF (lget fr 0)) (gF (lget fr 1)) h)
def laws_sameFloat.S (a_0 : Nat) (b_1 : Nat) (Post : Value → Heap → Prop) (h : Heap) : Prop :=
    BIF (FloatKind.f64.format.order a_0 a_0 != some .eq) (
    BIF (FloatKind.f64.format.order a_0 a_0 != some .eq) (
    Post (.bool (FloatKind.f64.format.order b_1 b_1 != some .eq)) h) (
    Post (.bool false) h)) (
    BIF (FloatKind.f64.format.order b_1 b_1 != some .eq) (
    BIF (FloatKind.f64.format.order a_0 a_0 != some .eq) (
    Post (.bool (FloatKind.f64.format.order b_1 b_1 != some .eq)) h) (
    Post (.bool false) h)) (
    laws_sameFloat.J3 Post a_0 b_1 h))
noncomputable def laws_sameFloat.code : Code := (Try.f49.body).getD .skip
theorem laws_sameFloat.call {a_0 : Nat} {b_1 : Nat} {Post : Value → Heap → Prop} {h : Heap} (H : laws_sameFloat.S a_0 b_1 Post h) : CALL prg f_laws_sameFloat #[.float .f64 a_0, .float .f64 b_1] Post h :=
  fn_call tau_ok mixed (c := laws_sameFloat.code) (Λ := lookL [(3, laws_sameFloat.j3 Post), (4, laws_sameFloat.j4 Post)]) Try.func49 (by kernel_rfl) (by kernel_rfl)
    (Rq.seq (by kernel_rfl) (Rq.free (by kernel_rfl)) (Rq.seqJ (laws_sameFloat.j3 Post) (by kernel_rfl) (seg (fun _ _ => by kernel_rfl)) (Rq.free (by kernel_rfl))
(Rq.seq (by kernel_rfl) (Rq.seqJ (laws_sameFloat.j4 Post) (by kernel_rfl) (seg (fun _ _ => by kernel_rfl)) (Rq.free (by kernel_rfl))
(Rq.free (by kernel_rfl))) (Rq.free (by kernel_rfl)))))
    (Eq.mp (by kernel_rfl) H)

/-! #### loop.example/g01173/laws.eqFloat32S (function 18) -/
def laws_eqFloat32S.B4 (Post : Value → Heap → Prop) (N4 : (Option Addr × Nat × Nat × Option Addr × Nat × Nat × Int) → Heap → Prop) : Option Addr × Nat × Nat × Option Addr × Nat × Nat × Int → Heap → Prop
  | (a_0b, a_0l, a_0c, b_1b, b_1l, b_1c, i_5), h =>
    BIF ((decide (i_5 < (a_0l : Int)))) (
    IDXS a_0b i_5 a_0l fun p7 =>
    oF .f32 (cell h ((Addr.add p7 ((Int.toNat i_5) * 1)))) fun r8 =>
    IDXS b_1b i_5 b_1l fun p9 =>
    oF .f32 (cell h ((Addr.add p9 ((Int.toNat i_5) * 1)))) fun r10 =>
    (FFC .f32 r8 .f64 fun r11 =>
    PIN h ((Addr.add p9 ((Int.toNat i_5) * 1))) 1 h <|
    FFC .f32 r10 .f64 fun r12 =>
    PIN h ((Addr.add p7 ((Int.toNat i_5) * 1))) 1 h <|
    CALL prg f_laws_sameFloat #[.float .f64 r11, .float .f64 r12] (fun q13 h14 =>
    asB q13 fun b15 =>
    BIF (!b15) (
    Post (.bool false) h14) (
    N4 (a_0b, a_0l, a_0c, b_1b, b_1l, b_1c, ((IntKind.i64.wrap (i_5 + (1 : Int))))) h14)) h) ∧ (FFC .f32 r10 .f64 fun r16 =>
    PIN h ((Addr.add p7 ((Int.toNat i_5) * 1))) 1 h <|
    FFC .f32 r8 .f64 fun r17 =>
    PIN h ((Addr.add p9 ((Int.toNat i_5) * 1))) 1 h <|
    CALL prg f_laws_sameFloat #[.float .f64 r17, .float .f64 r16] (fun q18 h19 =>
    asB q18 fun b20 =>
    BIF (!b20) (
    Post (.bool false) h19) (
    N4 (a_0b, a_0l, a_0c, b_1b, b_1l, b_1c, ((IntKind.i64.wrap (i_5 + (1 : Int))))) h19)) h)) (
    Post (.bool true) h)
def laws_eqFloat32S.g4 (fr : Frame) : Option Addr × Nat × Nat × Option Addr × Nat × Nat × Int := ((gLb (lget fr 0)), (gLl (lget fr 0)), (gLc (lget fr 0)), (gLb (lget fr 1)), (gLl (lget fr 1)), (gLc (lget fr 1)), (gI (lget fr 5)))
def laws_eqFloat32S.l4 (Post : Value → Heap → Prop) : Frame → Heap → Prop := fun fr h => GRD (shape (kds 29 [(0, .l), (1, .l), (5, .i .i64)]) fr) (LOOP (laws_eqFloat32S.B4 Post) (laws_eqFloat32S.g4 fr) h)
def laws_eqFloat32S.S (a_0b : Option Addr) (a_0l a_0c : Nat) (b_1b : Option Addr) (b_1l b_1c : Nat) (Post : Value → Heap → Prop) (h : Heap) : Prop :=
    BIF ((a_0l : Int) != (b_1l : Int)) (
    Post (.bool false) h) (
    LOOP (laws_eqFloat32S.B4 Post) (a_0b, a_0l, a_0c, b_1b, b_1l, b_1c, (0 : Int)) h)
noncomputable def laws_eqFloat32S.code : Code := (Try.f18.body).getD .skip
theorem laws_eqFloat32S.call {a_0b : Option Addr} {a_0l a_0c : Nat} {b_1b : Option Addr} {b_1l b_1c : Nat} {Post : Value → Heap → Prop} {h : Heap} (H : laws_eqFloat32S.S a_0b a_0l a_0c b_1b b_1l b_1c Post h) : CALL prg f_laws_eqFloat32S #[.slice a_0b a_0l a_0c, .slice b_1b b_1l b_1c] Post h :=
  fn_call tau_ok mixed (c := laws_eqFloat32S.code) (Λ := lookL [(1000004, laws_eqFloat32S.l4 Post)]) Try.func18 (by kernel_rfl) (by kernel_rfl)
    (Rq.seq (by kernel_rfl) (Rq.free (by kernel_rfl)) (Rq.seq (by kernel_rfl) (Rq.free (by kernel_rfl)) (Rq.seq (by kernel_rfl) (Rq.seq (by kernel_rfl) (Rq.free (by kernel_rfl)) (Rq.block (Rq.loop (laws_eqFloat32S.l4 Post) (by kernel_rfl) (segL (g := laws_eqFloat32S.g4) tau_ok mixed (Λ := fun N4 => lookL []) (fun _ _ _ => by kernel_rfl) (fun N4 => (Rq.free (by kernel_rfl))))))) (Rq.free (by kernel_rfl)))))
    (Eq.mp (by kernel_rfl) H)

/-! #### loop.example/g01173/laws.eqByteS (function 19) -/
def laws_eqByteS.B4 (Post : Value → Heap → Prop) (N4 : (Option Addr × Nat × Nat × Option Addr × Nat × Nat × Int) → Heap → Prop) : Option Addr × Nat × Nat × Option Addr × Nat × Nat × Int → Heap → Prop
  | (a_0b, a_0l, a_0c, b_1b, b_1l, b_1c, i_5), h =>
    BIF ((decide (i_5 < (a_0l : Int)))) (
    IDXS a_0b i_5 a_0l fun p7 =>
    oI .u8 (cell h ((Addr.add p7 ((Int.toNat i_5) * 1)))) fun n8 =>
    IDXS b_1b i_5 b_1l fun p9 =>
    oI .u8 (cell h ((Addr.add p9 ((Int.toNat i_5) * 1)))) fun n10 =>
    BIF (n8 != n10) (
    Post (.bool false) h) (
    N4 (a_0b, a_0l, a_0c, b_1b, b_1l, b_1c, ((IntKind.i64.wrap (i_5 + (1 : Int))))) h)) (
    Post (.bool true) h)
def laws_eqByteS.g4 (fr : Frame) : Option Addr × Nat × Nat × Option Addr × Nat × Nat × Int := ((gLb (lget fr 0)), (gLl (lget fr 0)), (gLc (lget fr 0)), (gLb (lget fr 1)), (gLl (lget fr 1)), (gLc (lget fr 1)), (gI (lget fr 5)))
def laws_eqByteS.l4 (Post : Value → Heap → Prop) : Frame → Heap → Prop := fun fr h => GRD (shape (kds 26 [(0, .l), (1, .l), (5, .i .i64)]) fr) (LOOP (laws_eqByteS.B4 Post) (laws_eqByteS.g4 fr) h)
def laws_eqByteS.S (a_0b : Option Addr) (a_0l a_0c : Nat) (b_1b : Option Addr) (b_1l b_1c : Nat) (Post : Value → Heap → Prop) (h : Heap) : Prop :=
    BIF ((a_0l : Int) != (b_1l : Int)) (
    Post (.bool false) h) (
    LOOP (laws_eqByteS.B4 Post) (a_0b, a_0l, a_0c, b_1b, b_1l, b_1c, (0 : Int)) h)
noncomputable def laws_eqByteS.code : Code := (Try.f19.body).getD .skip
theorem laws_eqByteS.call {a_0b : Option Addr} {a_0l a_0c : Nat} {b_1b : Option Addr} {b_1l b_1c : Nat} {Post : Value → Heap → Prop} {h : Heap} (H : laws_eqByteS.S a_0b a_0l a_0c b_1b b_1l b_1c Post h) : CALL prg f_laws_eqByteS #[.slice a_0b a_0l a_0c, .slice b_1b b_1l b_1c] Post h :=
  fn_call tau_ok mixed (c := laws_eqByteS.code) (Λ := lookL [(1000004, laws_eqByteS.l4 Post)]) Try.func19 (by kernel_rfl) (by kernel_rfl)
    (Rq.seq (by kernel_rfl) (Rq.free (by kernel_rfl)) (Rq.seq (by kernel_rfl) (Rq.free (by kernel_rfl)) (Rq.seq (by kernel_rfl) (Rq.seq (by kernel_rfl) (Rq.free (by kernel_rfl)) (Rq.block (Rq.loop (laws_eqByteS.l4 Post) (by kernel_rfl) (segL (g := laws_eqByteS.g4) tau_ok mixed (Λ := fun N4 => lookL []) (fun _ _ _ => by kernel_rfl) (fun N4 => (Rq.free (by kernel_rfl))))))) (Rq.free (by kernel_rfl)))))
    (Eq.mp (by kernel_rfl) H)

/-! #### loop.example/g01173/laws.markByteS (function 20) -/
def laws_markByteS.B2 (Post : Value → Heap → Prop) (N2 : (Option Addr × Nat × Nat × Int × Int) → Heap → Prop) : Option Addr × Nat × Nat × Int × Int → Heap → Prop
  | (a_0b, a_0l, a_0c, k_1, i_5), h =>
    BIF ((decide (i_5 < (a_0l : Int)))) (
    IDXS a_0b i_5 a_0l fun p3 =>
    ST1 h ((Addr.add p3 ((Int.toNat i_5) * 1))) (.int .u8 (IntKind.u8.wrap k_1)) fun h4 =>
    N2 (a_0b, a_0l, a_0c, ((IntKind.i64.wrap (k_1 + (1 : Int)))), ((IntKind.i64.wrap (i_5 + (1 : Int))))) h4) (
    Post (.int .i64 k_1) h)
def laws_markByteS.g2 (fr : Frame) : Option Addr × Nat × Nat × Int × Int := ((gLb (lget fr 0)), (gLl (lget fr 0)), (gLc (lget fr 0)), (gI (lget fr 1)), (gI (lget fr 5)))
def laws_markByteS.l2 (Post : Value → Heap → Prop) : Frame → Heap → Prop := fun fr h => GRD (shape (kds 20 [(0, .l), (1, .i .i64), (5, .i .i64)]) fr) (LOOP (laws_markByteS.B2 Post) (laws_markByteS.g2 fr) h)
def laws_markByteS.S (a_0b : Option Addr) (a_0l a_0c : Nat) (k_1 : Int) (Post : Value → Heap → Prop) (h : Heap) : Prop :=
    LOOP (laws_markByteS.B2 Post) (a_0b, a_0l, a_0c, k_1, (0 : Int)) h
noncomputable def laws_markByteS.code : Code := (Try.f20.body).getD .skip
theorem laws_markByteS.call {a_0b : Option Addr} {a_0l a_0c : Nat} {k_1 : Int} {Post : Value → Heap → Prop} {h : Heap} (H : laws_markByteS.S a_0b a_0l a_0c k_1 Post h) : CALL prg f_laws_markByteS #[.slice a_0b a_0l a_0c, .int .i64 k_1] Post h :=
  fn_call tau_ok mixed (c := laws_markByteS.code) (Λ := lookL [(1000002, laws_markByteS.l2 Post)]) Try.func20 (by kernel_rfl) (by kernel_rfl)
    (Rq.seq (by kernel_rfl) (Rq.free (by kernel_rfl)) (Rq.seq (by kernel_rfl) (Rq.seq (by kernel_rfl) (Rq.free (by kernel_rfl)) (Rq.block (Rq.loop (laws_markByteS.l2 Post) (by kernel_rfl) (segL (g := laws_markByteS.g2) tau_ok mixed (Λ := fun N2 => lookL []) (fun _ _ _ => by kernel_rfl) (fun N2 => (Rq.free (by kernel_rfl))))))) (Rq.free (by kernel_rfl))))
    (Eq.mp (by kernel_rfl) H)

/-! #### loop.example/g01173/laws.markFloat32S (function 21) -/
def laws_markFloat32S.B2 (Post : Value → Heap → Prop) (N2 : (Option Addr × Nat × Nat × Int × Int) → Heap → Prop) : Option Addr × Nat × Nat × Int × Int → Heap → Prop
  | (a_0b, a_0l, a_0c, k_1, i_5), h =>
    BIF ((decide (i_5 < (a_0l : Int)))) (
    IDXS a_0b i_5 a_0l fun p3 =>
    ST1 h ((Addr.add p3 ((Int.toNat i_5) * 1))) (.float .f32 (FloatKind.f32.nearest k_1)) fun h4 =>
    N2 (a_0b, a_0l, a_0c, ((IntKind.i64.wrap (k_1 + (1 : Int)))), ((IntKind.i64.wrap (i_5 + (1 : Int))))) h4) (
    Post (.int .i64 k_1) h)
def laws_markFloat32S.g2 (fr : Frame) : Option Addr × Nat × Nat × Int × Int := ((gLb (lget fr 0)), (gLl (lget fr 0)), (gLc (lget fr 0)), (gI (lget fr 1)), (gI (lget fr 5)))
def laws_markFloat32S.l2 (Post : Value → Heap → Prop) : Frame → Heap → Prop := fun fr h => GRD (shape (kds 20 [(0, .l), (1, .i .i64), (5, .i .i64)]) fr) (LOOP (laws_markFloat32S.B2 Post) (laws_markFloat32S.g2 fr) h)
def laws_markFloat32S.S (a_0b : Option Addr) (a_0l a_0c : Nat) (k_1 : Int) (Post : Value → Heap → Prop) (h : Heap) : Prop :=
    LOOP (laws_markFloat32S.B2 Post) (a_0b, a_0l, a_0c, k_1, (0 : Int)) h
noncomputable def laws_markFloat32S.code : Code := (Try.f21.body).getD .skip
theorem laws_markFloat32S.call {a_0b : Option Addr} {a_0l a_0c : Nat} {k_1 : Int} {Post : Value → Heap → Prop} {h : Heap} (H : laws_markFloat32S.S a_0b a_0l a_0c k_1 Post h) : CALL prg f_laws_markFloat32S #[.slice a_0b a_0l a_0c, .int .i64 k_1] Post h :=
  fn_call tau_ok mixed (c := laws_markFloat32S.code) (Λ := lookL [(1000002, laws_markFloat32S.l2 Post)]) Try.func21 (by kernel_rfl) (by kernel_rfl)
    (Rq.seq (by kernel_rfl) (Rq.free (by kernel_rfl)) (Rq.seq (by kernel_rfl) (Rq.seq (by kernel_rfl) (Rq.free (by kernel_rfl)) (Rq.block (Rq.loop (laws_markFloat32S.l2 Post) (by kernel_rfl) (segL (g := laws_markFloat32S.g2) tau_ok mixed (Λ := fun N2 => lookL []) (fun _ _ _ => by kernel_rfl) (fun N2 => (Rq.free (by kernel_rfl))))))) (Rq.free (by kernel_rfl))))
    (Eq.mp (by kernel_rfl) H)

/-! #### loop.example/g01173/laws.heldFloat32S (function 22) -/
def laws_heldFloat32S.B2 (Post : Value → Heap → Prop) (N2 : (Option Addr × Nat × Nat × Int × Int) → Heap → Prop) : Option Addr × Nat × Nat × Int × Int → Heap → Prop
  | (a_0b, a_0l, a_0c, k_1, i_5), h =>
    BIF ((decide (i_5 < (a_0l : Int)))) (
    IDXS a_0b i_5 a_0l fun p3 =>
    oF .f32 (cell h ((Addr.add p3 ((Int.toNat i_5) * 1)))) fun r4 =>
    BIF (FloatKind.f32.format.order r4 (FloatKind.f32.nearest k_1) != some .eq) (
    Post (.int .i64 (-1 : Int)) h) (
    N2 (a_0b, a_0l, a_0c, ((IntKind.i64.wrap (k_1 + (1 : Int)))), ((IntKind.i64.wrap (i_5 + (1 : Int))))) h)) (
    Post (.int .i64 k_1) h)
def laws_heldFloat32S.g2 (fr : Frame) : Option Addr × Nat × Nat × Int × Int := ((gLb (lget fr 0)), (gLl (lget fr 0)), (gLc (lget fr 0)), (gI (lget fr 1)), (gI (lget fr 5)))
def laws_heldFloat32S.l2 (Post : Value → Heap → Prop) : Frame → Heap → Prop := fun fr h => GRD (shape (kds 22 [(0, .l), (1, .i .i64), (5, .i .i64)]) fr) (LOOP (laws_heldFloat32S.B2 Post) (laws_heldFloat32S.g2 fr) h)
def laws_heldFloat32S.S (a_0b : Option Addr) (a_0l a_0c : Nat) (k_1 : Int) (Post : Value → Heap → Prop) (h : Heap) : Prop :=
    LOOP (laws_heldFloat32S.B2 Post) (a_0b, a_0l, a_0c, k_1, (0 : Int)) h
noncomputable def laws_heldFloat32S.code : Code := (Try.f22.body).getD .skip
theorem laws_heldFloat32S.call {a_0b : Option Addr} {a_0l a_0c : Nat} {k_1 : Int} {Post : Value → Heap → Prop} {h : Heap} (H : laws_heldFloat32S.S a_0b a_0l a_0c k_1 Post h) : CALL prg f_laws_heldFloat32S #[.slice a_0b a_0l a_0c, .int .i64 k_1] Post h :=
  fn_call tau_ok mixed (c := laws_heldFloat32S.code) (Λ := lookL [(1000002, laws_heldFloat32S.l2 Post)]) Try.func22 (by kernel_rfl) (by kernel_rfl)
    (Rq.seq (by kernel_rfl) (Rq.free (by kernel_rfl)) (Rq.seq (by kernel_rfl) (Rq.seq (by kernel_rfl) (Rq.free (by kernel_rfl)) (Rq.block (Rq.loop (laws_heldFloat32S.l2 Post) (by kernel_rfl) (segL (g := laws_heldFloat32S.g2) tau_ok mixed (Λ := fun N2 => lookL []) (fun _ _ _ => by kernel_rfl) (fun N2 => (Rq.free (by kernel_rfl))))))) (Rq.free (by kernel_rfl))))
    (Eq.mp (by kernel_rfl) H)

/-! #### loop.example/g01173/laws.FnExactTornSamples (function 5) -/
def laws_FnExactTornSamples.J14 (Post : Value → Heap → Prop) (aData_0b : Option Addr) (aData_0l : Nat) (aData_0c : Nat) (w0_3b : Option Addr) (w0_3l : Nat) (w0_3c : Nat) (w1_4 : Int) (g0_6b : Option Addr) (g0_6l : Nat) (g0_6c : Nat) (h : Heap) : Prop :=
    CALL prg f_laws_markFloat32S #[.slice g0_6b g0_6l g0_6c, .int .i64 (1 : Int)] (fun q36 h37 =>
    asI .i64 q36 fun n38 =>
    CALL prg f_laws_heldFloat32S #[.slice g0_6b g0_6l g0_6c, .int .i64 (1 : Int)] (fun q39 h40 =>
    asI .i64 q39 fun n41 =>
    BIF ((decide (n41 < (0 : Int)))) (
    Post (.bool false) h40) (
    BIF (n41 != n38) (
    Post (.bool false) h40) (
    CALL prg f_laws_toByteS #[.slice aData_0b aData_0l aData_0c] (fun q42 h43 =>
    asL q42 fun l44b l44l l44c =>
    CALL prg f_impl_TornSamples #[.slice l44b l44l l44c] (fun q45 h46 =>
    TUP2 q45 fun q47 q48 =>
    asL q47 fun l49b l49l l49c =>
    asI .i64 q48 fun n50 =>
    CALL prg f_laws_eqFloat32S #[.slice l49b l49l l49c, .slice w0_3b w0_3l w0_3c] (fun q51 h52 =>
    asB q51 fun b53 =>
    BIF (!b53) (
    Post (.bool false) h52) (
    BIF (n50 != w1_4) (
    Post (.bool false) h52) (
    CALL prg f_laws_heldFloat32S #[.slice g0_6b g0_6l g0_6c, .int .i64 (1 : Int)] (fun q54 h55 =>
    asI .i64 q54 fun n56 =>
    BIF ((decide (n56 < (0 : Int)))) (
    Post (.bool false) h55) (
    BIF (n56 != n38) (
    Post (.bool false) h55) (
    Post (.bool true) h55))) h52))) h46) h43) h40))) h37) h
def laws_FnExactTornSamples.j14 (Post : Value → Heap → Prop) : Frame → Heap → Prop := fun fr h => GRD (shape (kds 93 [(0, .l), (3, .l), (4, .i .i64), (6, .l)]) fr) (laws_FnExactTornSamples.J14 Post (gLb (lget fr 0)) (gLl (lget fr 0)) (gLc (lget fr 0)) (gLb (lget fr 3)) (gLl (lget fr 3)) (gLc (lget fr 3)) (gI (lget fr 4)) (gLb (lget fr 6)) (gLl (lget fr 6)) (gLc (lget fr 6)) h)
def laws_FnExactTornSamples.J8 (Post : Value → Heap → Prop) (aData_0b : Option Addr) (aData_0l : Nat) (aData_0c : Nat) (w0_3b : Option Addr) (w0_3l : Nat) (w0_3c : Nat) (w1_4 : Int) (x0_5b : Option Addr) (x0_5l : Nat) (x0_5c : Nat) (g0_6b : Option Addr) (g0_6l : Nat) (g0_6c : Nat) (g1_7 : Int) (h : Heap) : Prop :=
    CALL prg f_laws_toByteS #[.slice aData_0b aData_0l aData_0c] (fun q24 h25 =>
    asL q24 fun l26b l26l l26c =>
    CALL prg f_laws_eqByteS #[.slice x0_5b x0_5l x0_5c, .slice l26b l26l l26c] (fun q27 h28 =>
    asB q27 fun b29 =>
    BIF (!b29) (
    Post (.bool false) h28) (
    CALL prg f_laws_markByteS #[.slice x0_5b x0_5l x0_5c, .int .i64 (1 : Int)] (fun q30 h31 =>
    asI .i64 q30 fun n32 =>
    BIF ((decide (n32 < (0 : Int)))) (
    Post (.bool false) h31) (
    CALL prg f_laws_eqFloat32S #[.slice g0_6b g0_6l g0_6c, .slice w0_3b w0_3l w0_3c] (fun q33 h34 =>
    asB q33 fun b35 =>
    BIF (!b35) (
    Post (.bool false) h34) (
    BIF (g1_7 != w1_4) (
    Post (.bool false) h34) (
    laws_FnExactTornSamples.J14 Post aData_0b aData_0l aData_0c w0_3b w0_3l w0_3c w1_4 g0_6b g0_6l g0_6c h34))) h31)) h28)) h25) h
def laws_FnExactTornSamples.j8 (Post : Value → Heap → Prop) : Frame → Heap → Prop := fun fr h => GRD (shape (kds 93 [(0, .l), (3, .l), (4, .i .i64), (5, .l), (6, .l), (7, .i .i64)]) fr) (laws_FnExactTornSamples.J8 Post (gLb (lget fr 0)) (gLl (lget fr 0)) (gLc (lget fr 0)) (gLb (lget fr 3)) (gLl (lget fr 3)) (gLc (lget fr 3)) (gI (lget fr 4)) (gLb (lget fr 5)) (gLl (lget fr 5)) (gLc (lget fr 5)) (gLb (lget fr 6)) (gLl (lget fr 6)) (gLc (lget fr 6)) (gI (lget fr 7)) h)
def laws_FnExactTornSamples.S (aData_0b : Option Addr) (aData_0l aData_0c : Nat) (Post : Value → Heap → Prop) (h : Heap) : Prop :=
    BIF ((decide ((1048576 : Int) < (aData_0l : Int)))) (
    Post (.bool true) h) (
    CALL prg f_laws_toByteS #[.slice aData_0b aData_0l aData_0c] (fun q3 h4 =>
    asL q3 fun l5b l5l l5c =>
    CALL prg f_spec_TornSamples #[.slice l5b l5l l5c] (fun q6 h7 =>
    TUP2 q6 fun q8 q9 =>
    asL q8 fun l10b l10l l10c =>
    asI .i64 q9 fun n11 =>
    CALL prg f_laws_toByteS #[.slice aData_0b aData_0l aData_0c] (fun q12 h13 =>
    asL q12 fun l14b l14l l14c =>
    CALL prg f_impl_TornSamples #[.slice l14b l14l l14c] (fun q15 h16 =>
    TUP2 q15 fun q17 q18 =>
    asL q17 fun l19b l19l l19c =>
    asI .i64 q18 fun n20 =>
    CALL prg f_laws_eqFloat32S #[.slice l19b l19l l19c, .slice l10b l10l l10c] (fun q21 h22 =>
    asB q21 fun b23 =>
    BIF (!b23) (
    Post (.bool false) h22) (
    BIF (n20 != n11) (
    Post (.bool false) h22) (
    laws_FnExactTornSamples.J8 Post aData_0b aData_0l aData_0c l10b l10l l10c n11 l14b l14l l14c l19b l19l l19c n20 h22))) h16) h13) h7) h4) h)
noncomputable def laws_FnExactTornSamples.code : Code := (Try.f5.body).getD .skip
theorem laws_FnExactTornSamples.call {aData_0b : Option Addr} {aData_0l aData_0c : Nat} {Post : Value → Heap → Prop} {h : Heap} (H : laws_FnExactTornSamples.S aData_0b aData_0l aData_0c Post h) : CALL prg f_laws_FnExactTornSamples #[.slice aData_0b aData_0l aData_0c] Post h :=
  fn_call tau_ok mixed (c := laws_FnExactTornSamples.code) (Λ := lookL [(8, laws_FnExactTornSamples.j8 Post), (14, laws_FnExactTornSamples.j14 Post)]) Try.func5 (by kernel_rfl) (by kernel_rfl)
    (Rq.seq (by kernel_rfl) (Rq.free (by kernel_rfl)) (Rq.seq (by kernel_rfl) (Rq.free (by kernel_rfl)) (Rq.seq (by kernel_rfl) (Rq.free (by kernel_rfl)) (Rq.seq (by kernel_rfl) (Rq.free (by kernel_rfl)) (Rq.seq (by kernel_rfl) (Rq.free (by kernel_rfl)) (Rq.seqJ (laws_FnExactTornSamples.j8 Post) (by kernel_rfl) (seg (fun _ _ => by kernel_rfl)) (Rq.free (by kernel_rfl))
(Rq.seq (by kernel_rfl) (Rq.free (by kernel_rfl)) (Rq.seq (by kernel_rfl) (Rq.free (by kernel_rfl)) (Rq.seq (by kernel_rfl) (Rq.free (by kernel_rfl)) (Rq.seqJ (laws_FnExactTornSamples.j14 Post) (by kernel_rfl) (seg (fun _ _ => by kernel_rfl)) (Rq.free (by kernel_rfl))
(Rq.free (by kernel_rfl))))))))))))
    (Eq.mp (by kernel_rfl) H)

end Go.Sx
