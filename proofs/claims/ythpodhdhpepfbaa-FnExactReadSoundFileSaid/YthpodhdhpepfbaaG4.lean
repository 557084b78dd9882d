/- What functions of this seat's program compute, told in words (a predicate over heaps for each), and the proofs that the words are no more than the code's own weakest precondition. -/
import Derived.Test.YthpodhdhpepfbaaTab
namespace Go.Sx
open Go.Proofs
set_option linter.unusedVariables false
set_option maxRecDepth 100000

/-! #### loop.example/g01173/laws.toFloat32S (function 24) -/
def laws_toFloat32S.B3 (Post : Value → Heap → Prop) (N3 : (Option Addr × Nat × Nat × Option Addr × Nat × Nat × Int) → Heap → Prop) : Option Addr × Nat × Nat × Option Addr × Nat × Nat × Int → Heap → Prop
  | (a_0b, a_0l, a_0c, out_3b, out_3l, out_3c, i_4), h =>
    BIF ((decide (i_4 < (a_0l : Int)))) (
    IDXS a_0b i_4 a_0l fun p7 =>
    oF .f32 (cell h ((Addr.add p7 ((Int.toNat i_4) * 1)))) fun r8 =>
    IDXS out_3b i_4 out_3l fun p9 =>
    ST1 h ((Addr.add p9 ((Int.toNat i_4) * 1))) (.float .f32 r8) fun h10 =>
    N3 (a_0b, a_0l, a_0c, out_3b, out_3l, out_3c, ((IntKind.i64.wrap (i_4 + (1 : Int))))) h10) (
    Post (.slice out_3b out_3l out_3c) h)
def laws_toFloat32S.g3 (fr : Frame) : Option Addr × Nat × Nat × Option Addr × Nat × Nat × Int := ((gLb (lget fr 0)), (gLl (lget fr 0)), (gLc (lget fr 0)), (gLb (lget fr 3)), (gLl (lget fr 3)), (gLc (lget fr 3)), (gI (lget fr 4)))
def laws_toFloat32S.l3 (Post : Value → Heap → Prop) : Frame → Heap → Prop := fun fr h => GRD (shape (kds 22 [(0, .l), (3, .l), (4, .i .i64)]) fr) (LOOP (laws_toFloat32S.B3 Post) (laws_toFloat32S.g3 fr) h)
def laws_toFloat32S.S (a_0b : Option Addr) (a_0l a_0c : Nat) (Post : Value → Heap → Prop) (h : Heap) : Prop :=
    MKS ti_float32 T_float32 (a_0l : Int) (a_0l : Int) (fun g3 h4 =>
    LOOP (laws_toFloat32S.B3 Post) (a_0b, a_0l, a_0c, (some ⟨g3, 0, none⟩), a_0l, a_0l, (0 : Int)) h4) h
noncomputable def laws_toFloat32S.code : Code := (Try.f24.body).getD .skip
theorem laws_toFloat32S.call {a_0b : Option Addr} {a_0l a_0c : Nat} {Post : Value → Heap → Prop} {h : Heap} (H : laws_toFloat32S.S a_0b a_0l a_0c Post h) : CALL prg f_laws_toFloat32S #[.slice a_0b a_0l a_0c] Post h :=
  fn_call tau_ok mixed (c := laws_toFloat32S.code) (Λ := lookL [(1000003, laws_toFloat32S.l3 Post)]) Try.func24 (by kernel_rfl) (by kernel_rfl)
    (Rq.seq (by kernel_rfl) (Rq.free (by kernel_rfl)) (Rq.seq (by kernel_rfl) (Rq.free (by kernel_rfl)) (Rq.seq (by kernel_rfl) (Rq.seq (by kernel_rfl) (Rq.free (by kernel_rfl)) (Rq.block (Rq.loop (laws_toFloat32S.l3 Post) (by kernel_rfl) (segL (g := laws_toFloat32S.g3) tau_ok mixed (Λ := fun N3 => lookL []) (fun _ _ _ => by kernel_rfl) (fun N3 => (Rq.free (by kernel_rfl))))))) (Rq.free (by kernel_rfl)))))
    (Eq.mp (by kernel_rfl) H)

/-! #### loop.example/g01173/spec.l10Four (function 68) -/
def spec_l10Four.S (out_0b : Option Addr) (out_0l out_0c : Nat) (x_1 : Int) (Post : Value → Heap → Prop) (h : Heap) : Prop :=
    NN (8 : Int) <|
    NN (16 : Int) <|
    NN (24 : Int) <|
    ALC ⟨[.int .u8 (IntKind.u8.wrap x_1), .int .u8 ((IntKind.u8.wrap (shrI .u32 x_1 (8 : Int)))), .int .u8 ((IntKind.u8.wrap (shrI .u32 x_1 (16 : Int)))), .int .u8 ((IntKind.u8.wrap (shrI .u32 x_1 (24 : Int))))]⟩ T_uint8 (fun g1 h2 =>
    SEMV prg (Builtin.append_ #[T_sl_uint8, T_sl_uint8] T_sl_uint8 #[.slice out_0b out_0l out_0c, .slice (some ⟨g1, 0, none⟩) 4 4]) (fun q3 h4 =>
    asL q3 fun l5b l5l l5c =>
    Post (.slice l5b l5l l5c) h4) h2) h
noncomputable def spec_l10Four.code : Code := (Try.f68.body).getD .skip
theorem spec_l10Four.call {out_0b : Option Addr} {out_0l out_0c : Nat} {x_1 : Int} {Post : Value → Heap → Prop} {h : Heap} (H : spec_l10Four.S out_0b out_0l out_0c x_1 Post h) : CALL prg f_spec_l10Four #[.slice out_0b out_0l out_0c, .int .u32 x_1] Post h :=
  fn_call tau_ok mixed (c := spec_l10Four.code) (Λ := lookL []) Try.func68 (by kernel_rfl) (by kernel_rfl)
    (Rq.free (by kernel_rfl))
    (Eq.mp (by kernel_rfl) H)

/-! #### loop.example/g01173/spec.l01Short (function 69) -/
def spec_l01Short.S (a_0 : Nat) (Post : Value → Heap → Prop) (h : Heap) : Prop :=
    FOP .f32 (FloatKind.f32.format.mul a_0 1191182336) fun r1 =>
    FFC .f32 r1 .f64 fun r2 =>
    CALL prg f_math_RoundToEven #[.float .f64 r2] (fun q3 h4 =>
    asF .f64 q3 fun r5 =>
    BIF (FloatKind.f64.format.order r5 r5 != some .eq) (
    Post (.int .i16 (0 : Int)) h4) (
    BIF (FloatKind.f64.format.order r5 4674736138332667904 == some .gt) (
    Post (.int .i16 (32767 : Int)) h4) (
    BIF (FloatKind.f64.format.order r5 13898108450065350656 == some .lt) (
    Post (.int .i16 (-32768 : Int)) h4) (
    FIC .f64 r5 .i16 fun n6 =>
    Post (.int .i16 n6) h4)))) h
noncomputable def spec_l01Short.code : Code := (Try.f69.body).getD .skip
theorem spec_l01Short.call {a_0 : Nat} {Post : Value → Heap → Prop} {h : Heap} (H : spec_l01Short.S a_0 Post h) : CALL prg f_spec_l01Short #[.float .f32 a_0] Post h :=
  fn_call tau_ok mixed (c := spec_l01Short.code) (Λ := lookL []) Try.func69 (by kernel_rfl) (by kernel_rfl)
    (Rq.free (by kernel_rfl))
    (Eq.mp (by kernel_rfl) H)

/-! #### loop.example/g01173/spec.l10Sum (function 70) -/
def spec_l10Sum.B3 (Post : Value → Heap → Prop) (N3 : (Option Addr × Nat × Nat × Int × Int) → Heap → Prop) : Option Addr × Nat × Nat × Int × Int → Heap → Prop
  | (data_0b, data_0l, data_0c, h_3, i_4), h =>
    BIF ((decide (i_4 < (data_0l : Int)))) (
    IDXS data_0b i_4 data_0l fun p3 =>
    oI .u8 (cell h ((Addr.add p3 ((Int.toNat i_4) * 1)))) fun n4 =>
    CALL prg f_spec_l10Mix #[.int .u32 h_3, .int .u32 (IntKind.u32.wrap n4)] (fun q5 h6 =>
    asI .u32 q5 fun n7 =>
    N3 (data_0b, data_0l, data_0c, n7, ((IntKind.i64.wrap (i_4 + (1 : Int))))) h6) h) (
    Post (.int .u32 h_3) h)
def spec_l10Sum.g3 (fr : Frame) : Option Addr × Nat × Nat × Int × Int := ((gLb (lget fr 0)), (gLl (lget fr 0)), (gLc (lget fr 0)), (gI (lget fr 3)), (gI (lget fr 4)))
def spec_l10Sum.l3 (Post : Value → Heap → Prop) : Frame → Heap → Prop := fun fr h => GRD (shape (kds 19 [(0, .l), (3, .i .u32), (4, .i .i64)]) fr) (LOOP (spec_l10Sum.B3 Post) (spec_l10Sum.g3 fr) h)
def spec_l10Sum.S (data_0b : Option Addr) (data_0l data_0c : Nat) (Post : Value → Heap → Prop) (h : Heap) : Prop :=
    LOOP (spec_l10Sum.B3 Post) (data_0b, data_0l, data_0c, (2166136261 : Int), (0 : Int)) h
noncomputable def spec_l10Sum.code : Code := (Try.f70.body).getD .skip
theorem spec_l10Sum.call {data_0b : Option Addr} {data_0l data_0c : Nat} {Post : Value → Heap → Prop} {h : Heap} (H : spec_l10Sum.S data_0b data_0l data_0c Post h) : CALL prg f_spec_l10Sum #[.slice data_0b data_0l data_0c] Post h :=
  fn_call tau_ok mixed (c := spec_l10Sum.code) (Λ := lookL [(1000003, spec_l10Sum.l3 Post)]) Try.func70 (by kernel_rfl) (by kernel_rfl)
    (Rq.seq (by kernel_rfl) (Rq.free (by kernel_rfl)) (Rq.seq (by kernel_rfl) (Rq.free (by kernel_rfl)) (Rq.seq (by kernel_rfl) (Rq.seq (by kernel_rfl) (Rq.free (by kernel_rfl)) (Rq.block (Rq.loop (spec_l10Sum.l3 Post) (by kernel_rfl) (segL (g := spec_l10Sum.g3) tau_ok mixed (Λ := fun N3 => lookL []) (fun _ _ _ => by kernel_rfl) (fun N3 => (Rq.free (by kernel_rfl))))))) (Rq.free (by kernel_rfl)))))
    (Eq.mp (by kernel_rfl) H)

/-! #### loop.example/g01173/spec.l10File (function 52) -/
def spec_l10File.B5 (Post : Value → Heap → Prop) (N5 : (Int × Option Addr × Nat × Nat × Option Addr × Nat × Nat × Int) → Heap → Prop) : Int × Option Addr × Nat × Nat × Option Addr × Nat × Nat × Int → Heap → Prop
  | (kind_0, samples_2b, samples_2l, samples_2c, out_7b, out_7l, out_7c, i_8), h =>
    BIF ((decide (i_8 < (samples_2l : Int)))) (
    BIF (kind_0 == (1 : Int)) (
    IDXS samples_2b i_8 samples_2l fun p21 =>
    oF .f32 (cell h ((Addr.add p21 ((Int.toNat i_8) * 1)))) fun r22 =>
    CALL prg f_spec_l01Short #[.float .f32 r22] (fun q23 h24 =>
    asI .i16 q23 fun n25 =>
    NN (8 : Int) <|
    ALC ⟨[.int .u8 (IntKind.u8.wrap (IntKind.u16.wrap n25)), .int .u8 ((IntKind.u8.wrap (shrI .u16 (IntKind.u16.wrap n25) (8 : Int))))]⟩ T_uint8 (fun g26 h27 =>
    SEMV prg (Builtin.append_ #[T_sl_uint8, T_sl_uint8] T_sl_uint8 #[.slice out_7b out_7l out_7c, .slice (some ⟨g26, 0, none⟩) 2 2]) (fun q28 h29 =>
    asL q28 fun l30b l30l l30c =>
    N5 (kind_0, samples_2b, samples_2l, samples_2c, l30b, l30l, l30c, ((IntKind.i64.wrap (i_8 + (1 : Int))))) h29) h27) h24) h) (
    IDXS samples_2b i_8 samples_2l fun p31 =>
    oF .f32 (cell h ((Addr.add p31 ((Int.toNat i_8) * 1)))) fun r32 =>
    CALL prg f_spec_l01Bits #[.float .f32 r32] (fun q33 h34 =>
    asI .u32 q33 fun n35 =>
    CALL prg f_spec_l10Four #[.slice out_7b out_7l out_7c, .int .u32 n35] (fun q36 h37 =>
    asL q36 fun l38b l38l l38c =>
    N5 (kind_0, samples_2b, samples_2l, samples_2c, l38b, l38l, l38c, ((IntKind.i64.wrap (i_8 + (1 : Int))))) h37) h34) h)) (
    CALL prg f_spec_l10Sum #[.slice out_7b out_7l out_7c] (fun q39 h40 =>
    asI .u32 q39 fun n41 =>
    CALL prg f_spec_l10Four #[.slice out_7b out_7l out_7c, .int .u32 n41] (fun q42 h43 =>
    asL q42 fun l44b l44l l44c =>
    Post (.slice l44b l44l l44c) h43) h40) h)
def spec_l10File.g5 (fr : Frame) : Int × Option Addr × Nat × Nat × Option Addr × Nat × Nat × Int := ((gI (lget fr 0)), (gLb (lget fr 2)), (gLl (lget fr 2)), (gLc (lget fr 2)), (gLb (lget fr 7)), (gLl (lget fr 7)), (gLc (lget fr 7)), (gI (lget fr 8)))
def spec_l10File.l5 (Post : Value → Heap → Prop) : Frame → Heap → Prop := fun fr h => GRD (shape (kds 58 [(0, .i .i64), (2, .l), (7, .l), (8, .i .i64)]) fr) (LOOP (spec_l10File.B5 Post) (spec_l10File.g5 fr) h)
def spec_l10File.S (kind_0 : Int) (rate_1 : Int) (samples_2b : Option Addr) (samples_2l samples_2c : Nat) (Post : Value → Heap → Prop) (h : Heap) : Prop :=
    ALC ⟨[.int .u8 (83 : Int), .int .u8 (80 : Int), .int .u8 (70 : Int)]⟩ T_uint8 (fun g1 h2 =>
    SEMV prg (convert T_sl_uint8 T_sl_uint8 (.slice (some ⟨g1, 0, none⟩) 3 3)) (fun q3 h4 =>
    asL q3 fun l5b l5l l5c =>
    ALC ⟨[.int .u8 (IntKind.u8.wrap kind_0)]⟩ T_uint8 (fun g6 h7 =>
    SEMV prg (Builtin.append_ #[T_sl_uint8, T_sl_uint8] T_sl_uint8 #[.slice l5b l5l l5c, .slice (some ⟨g6, 0, none⟩) 1 1]) (fun q8 h9 =>
    asL q8 fun l10b l10l l10c =>
    CALL prg f_spec_l10Four #[.slice l10b l10l l10c, .int .u32 (IntKind.u32.wrap rate_1)] (fun q11 h12 =>
    asL q11 fun l13b l13l l13c =>
    CALL prg f_spec_l10Four #[.slice l13b l13l l13c, .int .u32 (IntKind.u32.wrap (samples_2l : Int))] (fun q16 h17 =>
    asL q16 fun l18b l18l l18c =>
    LOOP (spec_l10File.B5 Post) (kind_0, samples_2b, samples_2l, samples_2c, l18b, l18l, l18c, (0 : Int)) h17) h12) h9) h7) h4) h2) h
noncomputable def spec_l10File.code : Code := (Try.f52.body).getD .skip
theorem spec_l10File.call {kind_0 : Int} {rate_1 : Int} {samples_2b : Option Addr} {samples_2l samples_2c : Nat} {Post : Value → Heap → Prop} {h : Heap} (H : spec_l10File.S kind_0 rate_1 samples_2b samples_2l samples_2c Post h) : CALL prg f_spec_l10File #[.int .i64 kind_0, .int .i64 rate_1, .slice samples_2b samples_2l samples_2c] Post h :=
  fn_call tau_ok mixed (c := spec_l10File.code) (Λ := lookL [(1000005, spec_l10File.l5 Post)]) Try.func52 (by kernel_rfl) (by kernel_rfl)
    (Rq.seq (by kernel_rfl) (Rq.free (by kernel_rfl)) (Rq.seq (by kernel_rfl) (Rq.free (by kernel_rfl)) (Rq.seq (by kernel_rfl) (Rq.free (by kernel_rfl)) (Rq.seq (by kernel_rfl) (Rq.free (by kernel_rfl)) (Rq.seq (by kernel_rfl) (Rq.seq (by kernel_rfl) (Rq.free (by kernel_rfl)) (Rq.block (Rq.loop (spec_l10File.l5 Post) (by kernel_rfl) (segL (g := spec_l10File.g5) tau_ok mixed (Λ := fun N5 => lookL []) (fun _ _ _ => by kernel_rfl) (fun N5 => (Rq.free (by kernel_rfl))))))) (Rq.free (by kernel_rfl)))))))
    (Eq.mp (by kernel_rfl) H)

/-! #### loop.example/g01173/spec.MakeSoundFile (function 23) -/
def spec_MakeSoundFile.S (kind_0 : Int) (rate_1 : Int) (samples_2b : Option Addr) (samples_2l samples_2c : Nat) (Post : Value → Heap → Prop) (h : Heap) : Prop :=
    BIF ((decide ((4096 : Int) < (samples_2l : Int)))) (
    ALC ⟨[]⟩ T_uint8 (fun g3 h4 =>
    Post (.tuple ⟨[.slice (some ⟨g3, 0, none⟩) 0 0, .int .i64 (3 : Int)]⟩) h4) h) (
    CALL prg f_spec_l10Width #[.int .i64 kind_0] (fun q5 h6 =>
    asI .i64 q5 fun n7 =>
    BIF (n7 == (0 : Int)) (
    ALC ⟨[]⟩ T_uint8 (fun g8 h9 =>
    Post (.tuple ⟨[.slice (some ⟨g8, 0, none⟩) 0 0, .int .i64 (2 : Int)]⟩) h9) h6) (
    CALL prg f_spec_l10Rate #[.int .i64 rate_1] (fun q10 h11 =>
    asB q10 fun b12 =>
    BIF (!b12) (
    ALC ⟨[]⟩ T_uint8 (fun g13 h14 =>
    Post (.tuple ⟨[.slice (some ⟨g13, 0, none⟩) 0 0, .int .i64 (2 : Int)]⟩) h14) h11) (
    CALL prg f_spec_l10File #[.int .i64 kind_0, .int .i64 rate_1, .slice samples_2b samples_2l samples_2c] (fun q15 h16 =>
    asL q15 fun l17b l17l l17c =>
    Post (.tuple ⟨[.slice l17b l17l l17c, .int .i64 (0 : Int)]⟩) h16) h11)) h6)) h)
noncomputable def spec_MakeSoundFile.code : Code := (Try.f23.body).getD .skip
theorem spec_MakeSoundFile.call {kind_0 : Int} {rate_1 : Int} {samples_2b : Option Addr} {samples_2l samples_2c : Nat} {Post : Value → Heap → Prop} {h : Heap} (H : spec_MakeSoundFile.S kind_0 rate_1 samples_2b samples_2l samples_2c Post h) : CALL prg f_spec_MakeSoundFile #[.int .i64 kind_0, .int .i64 rate_1, .slice samples_2b samples_2l samples_2c] Post h :=
  fn_call tau_ok mixed (c := spec_MakeSoundFile.code) (Λ := lookL []) Try.func23 (by kernel_rfl) (by kernel_rfl)
    (Rq.free (by kernel_rfl))
    (Eq.mp (by kernel_rfl) H)

/-! #### loop.example/g01173/impl.littleBytes (function 71) -/
def impl_littleBytes.B3 (Post : Value → Heap → Prop) (N3 : (Int × Option Addr × Nat × Nat × Int × Int) → Heap → Prop) : Int × Option Addr × Nat × Nat × Int × Int → Heap → Prop
  | (n_0, out_5b, out_5l, out_5c, t6, t7), h =>
    BIF (decide (t7 < t6)) (
    ALC ⟨[.int .u8 (IntKind.u8.wrap n_0)]⟩ T_uint8 (fun g1 h2 =>
    SEMV prg (Builtin.append_ #[T_sl_uint8, T_sl_uint8] T_sl_uint8 #[.slice out_5b out_5l out_5c, .slice (some ⟨g1, 0, none⟩) 1 1]) (fun q3 h4 =>
    asL q3 fun l5b l5l l5c =>
    NN (8 : Int) <|
    N3 ((shrI .u64 n_0 (8 : Int)), l5b, l5l, l5c, t6, ((IntKind.i64.wrap (t7 + (1 : Int))))) h4) h2) h) (
    Post (.slice out_5b out_5l out_5c) h)
def impl_littleBytes.g3 (fr : Frame) : Int × Option Addr × Nat × Nat × Int × Int := ((gI (lget fr 0)), (gLb (lget fr 5)), (gLl (lget fr 5)), (gLc (lget fr 5)), (gI (lget fr 6)), (gI (lget fr 7)))
def impl_littleBytes.l3 (Post : Value → Heap → Prop) : Frame → Heap → Prop := fun fr h => GRD (shape (kds 18 [(0, .i .u64), (5, .l), (6, .i .i64), (7, .i .i64)]) fr) (LOOP (impl_littleBytes.B3 Post) (impl_littleBytes.g3 fr) h)
def impl_littleBytes.S (n_0 : Int) (size_1 : Int) (Post : Value → Heap → Prop) (h : Heap) : Prop :=
    LOOP (impl_littleBytes.B3 Post) (n_0, none, 0, 0, size_1, (0 : Int)) h
noncomputable def impl_littleBytes.code : Code := (Try.f71.body).getD .skip
theorem impl_littleBytes.call {n_0 : Int} {size_1 : Int} {Post : Value → Heap → Prop} {h : Heap} (H : impl_littleBytes.S n_0 size_1 Post h) : CALL prg f_impl_littleBytes #[.int .u64 n_0, .int .i64 size_1] Post h :=
  fn_call tau_ok mixed (c := impl_littleBytes.code) (Λ := lookL [(1000003, impl_littleBytes.l3 Post)]) Try.func71 (by kernel_rfl) (by kernel_rfl)
    (Rq.seq (by kernel_rfl) (Rq.free (by kernel_rfl)) (Rq.seq (by kernel_rfl) (Rq.free (by kernel_rfl)) (Rq.seq (by kernel_rfl) (Rq.seq (by kernel_rfl) (Rq.free (by kernel_rfl)) (Rq.block (Rq.loop (impl_littleBytes.l3 Post) (by kernel_rfl) (segL (g := impl_littleBytes.g3) tau_ok mixed (Λ := fun N3 => lookL []) (fun _ _ _ => by kernel_rfl) (fun N3 => (Rq.free (by kernel_rfl))))))) (Rq.free (by kernel_rfl)))))
    (Eq.mp (by kernel_rfl) H)

/-! #### loop.example/g01173/impl.ToShort (function 34) -/
def impl_ToShort.S (a_0 : Nat) (Post : Value → Heap → Prop) (h : Heap) : Prop :=
    FFC .f32 a_0 .f64 fun r1 =>
    FOP .f64 (FloatKind.f64.format.mul r1 4674736413210574848) fun r2 =>
    CALL prg f_math_RoundToEven #[.float .f64 r2] (fun q3 h4 =>
    asF .f64 q3 fun r5 =>
    BIF (FloatKind.f64.format.order r5 r5 != some .eq) (
    Post (.int .i16 (0 : Int)) h4) (
    BIF (FloatKind.f64.format.order r5 4674736138332667904 == some .gt) (
    Post (.int .i16 (32767 : Int)) h4) (
    BIF (FloatKind.f64.format.order r5 13898108450065350656 == some .lt) (
    Post (.int .i16 (-32768 : Int)) h4) (
    FIC .f64 r5 .i16 fun n6 =>
    Post (.int .i16 n6) h4)))) h
noncomputable def impl_ToShort.code : Code := (Try.f34.body).getD .skip
theorem impl_ToShort.call {a_0 : Nat} {Post : Value → Heap → Prop} {h : Heap} (H : impl_ToShort.S a_0 Post h) : CALL prg f_impl_ToShort #[.float .f32 a_0] Post h :=
  fn_call tau_ok mixed (c := impl_ToShort.code) (Λ := lookL []) Try.func34 (by kernel_rfl) (by kernel_rfl)
    (Rq.free (by kernel_rfl))
    (Eq.mp (by kernel_rfl) H)

/-! #### loop.example/g01173/impl.checkOfBytes[[]byte] (function 72) -/
def impl_checkOfBytes_sl_byte.B3 (Post : Value → Heap → Prop) (N3 : (Option Addr × Nat × Nat × Int × Int × Int) → Heap → Prop) : Option Addr × Nat × Nat × Int × Int × Int → Heap → Prop
  | (data_0b, data_0l, data_0c, check_3, t6, t7), h =>
    BIF (decide (t7 < t6)) (
    IDXS data_0b t7 data_0l fun p3 =>
    oI .u8 (cell h ((Addr.add p3 ((Int.toNat t7) * 1)))) fun n4 =>
    CALL prg f_impl_checked #[.int .u32 check_3, .int .u32 (IntKind.u32.wrap n4)] (fun q5 h6 =>
    asI .u32 q5 fun n7 =>
    N3 (data_0b, data_0l, data_0c, n7, t6, ((IntKind.i64.wrap (t7 + (1 : Int))))) h6) h) (
    Post (.int .u32 check_3) h)
def impl_checkOfBytes_sl_byte.g3 (fr : Frame) : Option Addr × Nat × Nat × Int × Int × Int := ((gLb (lget fr 0)), (gLl (lget fr 0)), (gLc (lget fr 0)), (gI (lget fr 3)), (gI (lget fr 6)), (gI (lget fr 7)))
def impl_checkOfBytes_sl_byte.l3 (Post : Value → Heap → Prop) : Frame → Heap → Prop := fun fr h => GRD (shape (kds 19 [(0, .l), (3, .i .u32), (6, .i .i64), (7, .i .i64)]) fr) (LOOP (impl_checkOfBytes_sl_byte.B3 Post) (impl_checkOfBytes_sl_byte.g3 fr) h)
def impl_checkOfBytes_sl_byte.S (data_0b : Option Addr) (data_0l data_0c : Nat) (Post : Value → Heap → Prop) (h : Heap) : Prop :=
    LOOP (impl_checkOfBytes_sl_byte.B3 Post) (data_0b, data_0l, data_0c, (2166136261 : Int), (data_0l : Int), (0 : Int)) h
noncomputable def impl_checkOfBytes_sl_byte.code : Code := (Try.f72.body).getD .skip
theorem impl_checkOfBytes_sl_byte.call {data_0b : Option Addr} {data_0l data_0c : Nat} {Post : Value → Heap → Prop} {h : Heap} (H : impl_checkOfBytes_sl_byte.S data_0b data_0l data_0c Post h) : CALL prg f_impl_checkOfBytes_sl_byte #[.slice data_0b data_0l data_0c] Post h :=
  fn_call tau_ok mixed (c := impl_checkOfBytes_sl_byte.code) (Λ := lookL [(1000003, impl_checkOfBytes_sl_byte.l3 Post)]) Try.func72 (by kernel_rfl) (by kernel_rfl)
    (Rq.seq (by kernel_rfl) (Rq.free (by kernel_rfl)) (Rq.seq (by kernel_rfl) (Rq.free (by kernel_rfl)) (Rq.seq (by kernel_rfl) (Rq.seq (by kernel_rfl) (Rq.free (by kernel_rfl)) (Rq.block (Rq.loop (impl_checkOfBytes_sl_byte.l3 Post) (by kernel_rfl) (segL (g := impl_checkOfBytes_sl_byte.g3) tau_ok mixed (Λ := fun N3 => lookL []) (fun _ _ _ => by kernel_rfl) (fun N3 => (Rq.free (by kernel_rfl))))))) (Rq.free (by kernel_rfl)))))
    (Eq.mp (by kernel_rfl) H)

/-! #### loop.example/g01173/impl.soundFile (function 54) -/
def impl_soundFile.B5 (Post : Value → Heap → Prop) (N5 : (Int × Option Addr × Nat × Nat × Option Addr × Nat × Nat × Int × Int) → Heap → Prop) : Int × Option Addr × Nat × Nat × Option Addr × Nat × Nat × Int × Int → Heap → Prop
  | (kind_0, out_7b, out_7l, out_7c, t27b, t27l, t27c, t28, t29), h =>
    BIF (decide (t29 < t28)) (
    IDXS t27b t29 t27l fun p27 =>
    oF .f32 (cell h ((Addr.add p27 ((Int.toNat t29) * 1)))) fun r28 =>
    BIF (kind_0 == (1 : Int)) (
    CALL prg f_impl_ToShort #[.float .f32 r28] (fun q29 h30 =>
    asI .i16 q29 fun n31 =>
    CALL prg f_impl_littleBytes #[.int .u64 (IntKind.u64.wrap (IntKind.u16.wrap n31)), .int .i64 (2 : Int)] (fun q32 h33 =>
    asL q32 fun l34b l34l l34c =>
    SEMV prg (Builtin.append_ #[T_sl_uint8, T_sl_uint8] T_sl_uint8 #[.slice out_7b out_7l out_7c, .slice l34b l34l l34c]) (fun q35 h36 =>
    asL q35 fun l37b l37l l37c =>
    N5 (kind_0, l37b, l37l, l37c, t27b, t27l, t27c, t28, ((IntKind.i64.wrap (t29 + (1 : Int))))) h36) h33) h30) h) (
    CALL prg f_impl_bitsOf #[.float .f32 r28] (fun q38 h39 =>
    asI .u32 q38 fun n40 =>
    CALL prg f_impl_littleBytes #[.int .u64 (IntKind.u64.wrap n40), .int .i64 (4 : Int)] (fun q41 h42 =>
    asL q41 fun l43b l43l l43c =>
    SEMV prg (Builtin.append_ #[T_sl_uint8, T_sl_uint8] T_sl_uint8 #[.slice out_7b out_7l out_7c, .slice l43b l43l l43c]) (fun q44 h45 =>
    asL q44 fun l46b l46l l46c =>
    N5 (kind_0, l46b, l46l, l46c, t27b, t27l, t27c, t28, ((IntKind.i64.wrap (t29 + (1 : Int))))) h45) h42) h39) h)) (
    CALL prg f_impl_checkOfBytes_sl_byte #[.slice out_7b out_7l out_7c] (fun q47 h48 =>
    asI .u32 q47 fun n49 =>
    CALL prg f_impl_littleBytes #[.int .u64 (IntKind.u64.wrap n49), .int .i64 (4 : Int)] (fun q50 h51 =>
    asL q50 fun l52b l52l l52c =>
    SEMV prg (Builtin.append_ #[T_sl_uint8, T_sl_uint8] T_sl_uint8 #[.slice out_7b out_7l out_7c, .slice l52b l52l l52c]) (fun q53 h54 =>
    asL q53 fun l55b l55l l55c =>
    Post (.slice l55b l55l l55c) h54) h51) h48) h)
def impl_soundFile.g5 (fr : Frame) : Int × Option Addr × Nat × Nat × Option Addr × Nat × Nat × Int × Int := ((gI (lget fr 0)), (gLb (lget fr 7)), (gLl (lget fr 7)), (gLc (lget fr 7)), (gLb (lget fr 27)), (gLl (lget fr 27)), (gLc (lget fr 27)), (gI (lget fr 28)), (gI (lget fr 29)))
def impl_soundFile.l5 (Post : Value → Heap → Prop) : Frame → Heap → Prop := fun fr h => GRD (shape (kds 55 [(0, .i .i64), (7, .l), (27, .l), (28, .i .i64), (29, .i .i64)]) fr) (LOOP (impl_soundFile.B5 Post) (impl_soundFile.g5 fr) h)
def impl_soundFile.S (kind_0 : Int) (rate_1 : Int) (samples_2b : Option Addr) (samples_2l samples_2c : Nat) (Post : Value → Heap → Prop) (h : Heap) : Prop :=
    ALC ⟨[.int .u8 (83 : Int), .int .u8 (80 : Int), .int .u8 (70 : Int)]⟩ T_uint8 (fun g1 h2 =>
    SEMV prg (convert T_sl_uint8 T_sl_uint8 (.slice (some ⟨g1, 0, none⟩) 3 3)) (fun q3 h4 =>
    asL q3 fun l5b l5l l5c =>
    ALC ⟨[.int .u8 (IntKind.u8.wrap kind_0)]⟩ T_uint8 (fun g6 h7 =>
    SEMV prg (Builtin.append_ #[T_sl_uint8, T_sl_uint8] T_sl_uint8 #[.slice l5b l5l l5c, .slice (some ⟨g6, 0, none⟩) 1 1]) (fun q8 h9 =>
    asL q8 fun l10b l10l l10c =>
    CALL prg f_impl_littleBytes #[.int .u64 (IntKind.u64.wrap rate_1), .int .i64 (4 : Int)] (fun q11 h12 =>
    asL q11 fun l13b l13l l13c =>
    SEMV prg (Builtin.append_ #[T_sl_uint8, T_sl_uint8] T_sl_uint8 #[.slice l10b l10l l10c, .slice l13b l13l l13c]) (fun q14 h15 =>
    asL q14 fun l16b l16l l16c =>
    CALL prg f_impl_littleBytes #[.int .u64 (IntKind.u64.wrap (samples_2l : Int)), .int .i64 (4 : Int)] (fun q19 h20 =>
    asL q19 fun l21b l21l l21c =>
    SEMV prg (Builtin.append_ #[T_sl_uint8, T_sl_uint8] T_sl_uint8 #[.slice l16b l16l l16c, .slice l21b l21l l21c]) (fun q22 h23 =>
    asL q22 fun l24b l24l l24c =>
    LOOP (impl_soundFile.B5 Post) (kind_0, l24b, l24l, l24c, samples_2b, samples_2l, samples_2c, (samples_2l : Int), (0 : Int)) h23) h20) h15) h12) h9) h7) h4) h2) h
noncomputable def impl_soundFile.code : Code := (Try.f54.body).getD .skip
theorem impl_soundFile.call {kind_0 : Int} {rate_1 : Int} {samples_2b : Option Addr} {samples_2l samples_2c : Nat} {Post : Value → Heap → Prop} {h : Heap} (H : impl_soundFile.S kind_0 rate_1 samples_2b samples_2l samples_2c Post h) : CALL prg f_impl_soundFile #[.int .i64 kind_0, .int .i64 rate_1, .slice samples_2b samples_2l samples_2c] Post h :=
  fn_call tau_ok mixed (c := impl_soundFile.code) (Λ := lookL [(1000005, impl_soundFile.l5 Post)]) Try.func54 (by kernel_rfl) (by kernel_rfl)
    (Rq.seq (by kernel_rfl) (Rq.free (by kernel_rfl)) (Rq.seq (by kernel_rfl) (Rq.free (by kernel_rfl)) (Rq.seq (by kernel_rfl) (Rq.free (by kernel_rfl)) (Rq.seq (by kernel_rfl) (Rq.free (by kernel_rfl)) (Rq.seq (by kernel_rfl) (Rq.seq (by kernel_rfl) (Rq.free (by kernel_rfl)) (Rq.block (Rq.loop (impl_soundFile.l5 Post) (by kernel_rfl) (segL (g := impl_soundFile.g5) tau_ok mixed (Λ := fun N5 => lookL []) (fun _ _ _ => by kernel_rfl) (fun N5 => (Rq.free (by kernel_rfl))))))) (Rq.free (by kernel_rfl)))))))
    (Eq.mp (by kernel_rfl) H)

/-! #### loop.example/g01173/impl.MakeSoundFile (function 25) -/
def impl_MakeSoundFile.S (kind_0 : Int) (rate_1 : Int) (samples_2b : Option Addr) (samples_2l samples_2c : Nat) (Post : Value → Heap → Prop) (h : Heap) : Prop :=
    BIF ((decide ((4096 : Int) < (samples_2l : Int)))) (
    Post (.tuple ⟨[.slice none 0 0, .int .i64 (3 : Int)]⟩) h) (
    CALL prg f_impl_isSoundKind #[.int .i64 kind_0] (fun q3 h4 =>
    asB q3 fun b5 =>
    BIF (!b5) (
    Post (.tuple ⟨[.slice none 0 0, .int .i64 (2 : Int)]⟩) h4) (
    CALL prg f_impl_within #[.int .i64 rate_1, .int .i64 (1 : Int), .int .i64 (1000000 : Int)] (fun q6 h7 =>
    asB q6 fun b8 =>
    BIF (!b8) (
    Post (.tuple ⟨[.slice none 0 0, .int .i64 (2 : Int)]⟩) h7) (
    CALL prg f_impl_soundFile #[.int .i64 kind_0, .int .i64 rate_1, .slice samples_2b samples_2l samples_2c] (fun q9 h10 =>
    asL q9 fun l11b l11l l11c =>
    Post (.tuple ⟨[.slice l11b l11l l11c, .int .i64 (0 : Int)]⟩) h10) h7)) h4)) h)
noncomputable def impl_MakeSoundFile.code : Code := (Try.f25.body).getD .skip
theorem impl_MakeSoundFile.call {kind_0 : Int} {rate_1 : Int} {samples_2b : Option Addr} {samples_2l samples_2c : Nat} {Post : Value → Heap → Prop} {h : Heap} (H : impl_MakeSoundFile.S kind_0 rate_1 samples_2b samples_2l samples_2c Post h) : CALL prg f_impl_MakeSoundFile #[.int .i64 kind_0, .int .i64 rate_1, .slice samples_2b samples_2l samples_2c] Post h :=
  fn_call tau_ok mixed (c := impl_MakeSoundFile.code) (Λ := lookL []) Try.func25 (by kernel_rfl) (by kernel_rfl)
    (Rq.free (by kernel_rfl))
    (Eq.mp (by kernel_rfl) H)

/-! #### loop.example/g01173/laws.heldByteS (function 26) -/
def laws_heldByteS.B2 (Post : Value → Heap → Prop) (N2 : (Option Addr × Nat × Nat × Int × Int) → Heap → Prop) : Option Addr × Nat × Nat × Int × Int → Heap → Prop
  | (a_0b, a_0l, a_0c, k_1, i_5), h =>
    BIF ((decide (i_5 < (a_0l : Int)))) (
    IDXS a_0b i_5 a_0l fun p3 =>
    oI .u8 (cell h ((Addr.add p3 ((Int.toNat i_5) * 1)))) fun n4 =>
    BIF (n4 != (IntKind.u8.wrap k_1)) (
    Post (.int .i64 (-1 : Int)) h) (
    N2 (a_0b, a_0l, a_0c, ((IntKind.i64.wrap (k_1 + (1 : Int)))), ((IntKind.i64.wrap (i_5 + (1 : Int))))) h)) (
    Post (.int .i64 k_1) h)
def laws_heldByteS.g2 (fr : Frame) : Option Addr × Nat × Nat × Int × Int := ((gLb (lget fr 0)), (gLl (lget fr 0)), (gLc (lget fr 0)), (gI (lget fr 1)), (gI (lget fr 5)))
def laws_heldByteS.l2 (Post : Value → Heap → Prop) : Frame → Heap → Prop := fun fr h => GRD (shape (kds 22 [(0, .l), (1, .i .i64), (5, .i .i64)]) fr) (LOOP (laws_heldByteS.B2 Post) (laws_heldByteS.g2 fr) h)
def laws_heldByteS.S (a_0b : Option Addr) (a_0l a_0c : Nat) (k_1 : Int) (Post : Value → Heap → Prop) (h : Heap) : Prop :=
    LOOP (laws_heldByteS.B2 Post) (a_0b, a_0l, a_0c, k_1, (0 : Int)) h
noncomputable def laws_heldByteS.code : Code := (Try.f26.body).getD .skip
theorem laws_heldByteS.call {a_0b : Option Addr} {a_0l a_0c : Nat} {k_1 : Int} {Post : Value → Heap → Prop} {h : Heap} (H : laws_heldByteS.S a_0b a_0l a_0c k_1 Post h) : CALL prg f_laws_heldByteS #[.slice a_0b a_0l a_0c, .int .i64 k_1] Post h :=
  fn_call tau_ok mixed (c := laws_heldByteS.code) (Λ := lookL [(1000002, laws_heldByteS.l2 Post)]) Try.func26 (by kernel_rfl) (by kernel_rfl)
    (Rq.seq (by kernel_rfl) (Rq.free (by kernel_rfl)) (Rq.seq (by kernel_rfl) (Rq.seq (by kernel_rfl) (Rq.free (by kernel_rfl)) (Rq.block (Rq.loop (laws_heldByteS.l2 Post) (by kernel_rfl) (segL (g := laws_heldByteS.g2) tau_ok mixed (Λ := fun N2 => lookL []) (fun _ _ _ => by kernel_rfl) (fun N2 => (Rq.free (by kernel_rfl))))))) (Rq.free (by kernel_rfl))))
    (Eq.mp (by kernel_rfl) H)

/-! #### loop.example/g01173/laws.FnExactMakeSoundFile (function 6) -/
def laws_FnExactMakeSoundFile.J14 (Post : Value → Heap → Prop) (aKind_0 : Int) (aRate_1 : Int) (aSamples_2b : Option Addr) (aSamples_2l : Nat) (aSamples_2c : Nat) (w0_7b : Option Addr) (w0_7l : Nat) (w0_7c : Nat) (w1_8 : Int) (g0_10b : Option Addr) (g0_10l : Nat) (g0_10c : Nat) (h : Heap) : Prop :=
    CALL prg f_laws_markByteS #[.slice g0_10b g0_10l g0_10c, .int .i64 (1 : Int)] (fun q36 h37 =>
    asI .i64 q36 fun n38 =>
    CALL prg f_laws_heldByteS #[.slice g0_10b g0_10l g0_10c, .int .i64 (1 : Int)] (fun q39 h40 =>
    asI .i64 q39 fun n41 =>
    BIF ((decide (n41 < (0 : Int)))) (
    Post (.bool false) h40) (
    BIF (n41 != n38) (
    Post (.bool false) h40) (
    CALL prg f_laws_toFloat32S #[.slice aSamples_2b aSamples_2l aSamples_2c] (fun q42 h43 =>
    asL q42 fun l44b l44l l44c =>
    CALL prg f_impl_MakeSoundFile #[.int .i64 aKind_0, .int .i64 aRate_1, .slice l44b l44l l44c] (fun q45 h46 =>
    TUP2 q45 fun q47 q48 =>
    asL q47 fun l49b l49l l49c =>
    asI .i64 q48 fun n50 =>
    CALL prg f_laws_eqByteS #[.slice l49b l49l l49c, .slice w0_7b w0_7l w0_7c] (fun q51 h52 =>
    asB q51 fun b53 =>
    BIF (!b53) (
    Post (.bool false) h52) (
    BIF (n50 != w1_8) (
    Post (.bool false) h52) (
    CALL prg f_laws_heldByteS #[.slice g0_10b g0_10l g0_10c, .int .i64 (1 : Int)] (fun q54 h55 =>
    asI .i64 q54 fun n56 =>
    BIF ((decide (n56 < (0 : Int)))) (
    Post (.bool false) h55) (
    BIF (n56 != n38) (
    Post (.bool false) h55) (
    Post (.bool true) h55))) h52))) h46) h43) h40))) h37) h
def laws_FnExactMakeSoundFile.j14 (Post : Value → Heap → Prop) : Frame → Heap → Prop := fun fr h => GRD (shape (kds 103 [(0, .i .i64), (1, .i .i64), (2, .l), (7, .l), (8, .i .i64), (10, .l)]) fr) (laws_FnExactMakeSoundFile.J14 Post (gI (lget fr 0)) (gI (lget fr 1)) (gLb (lget fr 2)) (gLl (lget fr 2)) (gLc (lget fr 2)) (gLb (lget fr 7)) (gLl (lget fr 7)) (gLc (lget fr 7)) (gI (lget fr 8)) (gLb (lget fr 10)) (gLl (lget fr 10)) (gLc (lget fr 10)) h)
def laws_FnExactMakeSoundFile.J8 (Post : Value → Heap → Prop) (aKind_0 : Int) (aRate_1 : Int) (aSamples_2b : Option Addr) (aSamples_2l : Nat) (aSamples_2c : Nat) (w0_7b : Option Addr) (w0_7l : Nat) (w0_7c : Nat) (w1_8 : Int) (x2_9b : Option Addr) (x2_9l : Nat) (x2_9c : Nat) (g0_10b : Option Addr) (g0_10l : Nat) (g0_10c : Nat) (g1_11 : Int) (h : Heap) : Prop :=
    CALL prg f_laws_toFloat32S #[.slice aSamples_2b aSamples_2l aSamples_2c] (fun q24 h25 =>
    asL q24 fun l26b l26l l26c =>
    CALL prg f_laws_eqFloat32S #[.slice x2_9b x2_9l x2_9c, .slice l26b l26l l26c] (fun q27 h28 =>
    asB q27 fun b29 =>
    BIF (!b29) (
    Post (.bool false) h28) (
    CALL prg f_laws_markFloat32S #[.slice x2_9b x2_9l x2_9c, .int .i64 (1 : Int)] (fun q30 h31 =>
    asI .i64 q30 fun n32 =>
    BIF ((decide (n32 < (0 : Int)))) (
    Post (.bool false) h31) (
    CALL prg f_laws_eqByteS #[.slice g0_10b g0_10l g0_10c, .slice w0_7b w0_7l w0_7c] (fun q33 h34 =>
    asB q33 fun b35 =>
    BIF (!b35) (
    Post (.bool false) h34) (
    BIF (g1_11 != w1_8) (
    Post (.bool false) h34) (
    laws_FnExactMakeSoundFile.J14 Post aKind_0 aRate_1 aSamples_2b aSamples_2l aSamples_2c w0_7b w0_7l w0_7c w1_8 g0_10b g0_10l g0_10c h34))) h31)) h28)) h25) h
def laws_FnExactMakeSoundFile.j8 (Post : Value → Heap → Prop) : Frame → Heap → Prop := fun fr h => GRD (shape (kds 103 [(0, .i .i64), (1, .i .i64), (2, .l), (7, .l), (8, .i .i64), (9, .l), (10, .l), (11, .i .i64)]) fr) (laws_FnExactMakeSoundFile.J8 Post (gI (lget fr 0)) (gI (lget fr 1)) (gLb (lget fr 2)) (gLl (lget fr 2)) (gLc (lget fr 2)) (gLb (lget fr 7)) (gLl (lget fr 7)) (gLc (lget fr 7)) (gI (lget fr 8)) (gLb (lget fr 9)) (gLl (lget fr 9)) (gLc (lget fr 9)) (gLb (lget fr 10)) (gLl (lget fr 10)) (gLc (lget fr 10)) (gI (lget fr 11)) h)
def laws_FnExactMakeSoundFile.S (aKind_0 : Int) (aRate_1 : Int) (aSamples_2b : Option Addr) (aSamples_2l aSamples_2c : Nat) (Post : Value → Heap → Prop) (h : Heap) : Prop :=
    BIF ((decide ((1048576 : Int) < (aSamples_2l : Int)))) (
    Post (.bool true) h) (
    CALL prg f_laws_toFloat32S #[.slice aSamples_2b aSamples_2l aSamples_2c] (fun q3 h4 =>
    asL q3 fun l5b l5l l5c =>
    CALL prg f_spec_MakeSoundFile #[.int .i64 aKind_0, .int .i64 aRate_1, .slice l5b l5l l5c] (fun q6 h7 =>
    TUP2 q6 fun q8 q9 =>
    asL q8 fun l10b l10l l10c =>
    asI .i64 q9 fun n11 =>
    CALL prg f_laws_toFloat32S #[.slice aSamples_2b aSamples_2l aSamples_2c] (fun q12 h13 =>
    asL q12 fun l14b l14l l14c =>
    CALL prg f_impl_MakeSoundFile #[.int .i64 aKind_0, .int .i64 aRate_1, .slice l14b l14l l14c] (fun q15 h16 =>
    TUP2 q15 fun q17 q18 =>
    asL q17 fun l19b l19l l19c =>
    asI .i64 q18 fun n20 =>
    CALL prg f_laws_eqByteS #[.slice l19b l19l l19c, .slice l10b l10l l10c] (fun q21 h22 =>
    asB q21 fun b23 =>
    BIF (!b23) (
    Post (.bool false) h22) (
    BIF (n20 != n11) (
    Post (.bool false) h22) (
    laws_FnExactMakeSoundFile.J8 Post aKind_0 aRate_1 aSamples_2b aSamples_2l aSamples_2c l10b l10l l10c n11 l14b l14l l14c l19b l19l l19c n20 h22))) h16) h13) h7) h4) h)
noncomputable def laws_FnExactMakeSoundFile.code : Code := (Try.f6.body).getD .skip
theorem laws_FnExactMakeSoundFile.call {aKind_0 : Int} {aRate_1 : Int} {aSamples_2b : Option Addr} {aSamples_2l aSamples_2c : Nat} {Post : Value → Heap → Prop} {h : Heap} (H : laws_FnExactMakeSoundFile.S aKind_0 aRate_1 aSamples_2b aSamples_2l aSamples_2c Post h) : CALL prg f_laws_FnExactMakeSoundFile #[.int .i64 aKind_0, .int .i64 aRate_1, .slice aSamples_2b aSamples_2l aSamples_2c] Post h :=
  fn_call tau_ok mixed (c := laws_FnExactMakeSoundFile.code) (Λ := lookL [(8, laws_FnExactMakeSoundFile.j8 Post), (14, laws_FnExactMakeSoundFile.j14 Post)]) Try.func6 (by kernel_rfl) (by kernel_rfl)
    (Rq.seq (by kernel_rfl) (Rq.free (by kernel_rfl)) (Rq.seq (by kernel_rfl) (Rq.free (by kernel_rfl)) (Rq.seq (by kernel_rfl) (Rq.free (by kernel_rfl)) (Rq.seq (by kernel_rfl) (Rq.free (by kernel_rfl)) (Rq.seq (by kernel_rfl) (Rq.free (by kernel_rfl)) (Rq.seqJ (laws_FnExactMakeSoundFile.j8 Post) (by kernel_rfl) (seg (fun _ _ => by kernel_rfl)) (Rq.free (by kernel_rfl))
(Rq.seq (by kernel_rfl) (Rq.free (by kernel_rfl)) (Rq.seq (by kernel_rfl) (Rq.free (by kernel_rfl)) (Rq.seq (by kernel_rfl) (Rq.free (by kernel_rfl)) (Rq.seqJ (laws_FnExactMakeSoundFile.j14 Post) (by kernel_rfl) (seg (fun _ _ => by kernel_rfl)) (Rq.free (by kernel_rfl))
(Rq.free (by kernel_rfl))))))))))))
    (Eq.mp (by kernel_rfl) H)

end Go.Sx
