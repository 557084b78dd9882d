/- What functions of this seat's program compute, told in words (a predicate over heaps for each), and the proofs that the words are no more than the code's own weakest precondition. -/
import Derived.Test.YthgnpepchedpbaaGreatTab
namespace Go.Sx
open Go.Proofs
set_option linter.unusedVariables false
set_option maxRecDepth 100000

def spec_l05CopyBow.S (x_0 : Addr) (Post : Value → Heap → Prop) (h : Heap) : Prop :=
    ALC ⟨Z_impl_Bow⟩ T_impl_Bow (fun g1 h2 =>
    LDA 6 h2 (Addr.add x_0 4) fun a3 =>
    oF .f32 (cell h2 (Addr.add x_0 10)) fun r4 =>
    oF .f32 (cell h2 (Addr.add x_0 11)) fun r5 =>
    CALL prg f_spec_l02Copy #[.pointer (some x_0)] (fun q6 h7 =>
    asA q6 fun a8 =>
    PIN h2 (Addr.add x_0 11) 1 h7 <|
    PIN h2 (Addr.add x_0 10) 1 h7 <|
    PIN h2 (Addr.add x_0 4) 6 h7 <|
    CALL prg f_spec_l02Copy #[.pointer (some (Addr.add x_0 2))] (fun q9 h10 =>
    asA q9 fun a11 =>
    PIN h2 (Addr.add x_0 11) 1 h10 <|
    PIN h2 (Addr.add x_0 10) 1 h10 <|
    PIN h2 (Addr.add x_0 4) 6 h10 <|
    SIZ (Array.size a8) 2 <|
    SIZ (Array.size a11) 2 <|
    SIZ (Array.size a3) 6 <|
    STA 12 h10 ⟨g1, 0, none⟩ ⟨(List.set (List.set (splice 4 6 a3 (splice 2 2 a11 (splice 0 2 a8 [.slice none 0 0, .int .i64 (0 : Int), .slice none 0 0, .int .i64 (0 : Int), .int .i64 (0 : Int), .float .f32 0, .float .f32 0, .float .f32 0, .float .f32 0, .float .f32 0, .float .f32 0, .float .f32 0]))) 10 (.float .f32 r4)) 11 (.float .f32 r5))⟩ fun h12 =>
    LDA 12 h12 ⟨g1, 0, none⟩ fun a13 =>
    Post (.agg a13) h12) h7) h2) h
noncomputable def spec_l05CopyBow.code : Code := (Tryz.f54.body).getD .skip
theorem spec_l05CopyBow.call {x_0 : Addr} {Post : Value → Heap → Prop} {h : Heap} (H : spec_l05CopyBow.S x_0 Post h) : CALL prg f_spec_l05CopyBow #[.pointer (some x_0)] Post h :=
  fn_call tau_ok mixed (c := spec_l05CopyBow.code) (Λ := lookL []) Tryz.func54 (by kernel_rfl) (by kernel_rfl)
    (Rq.free (by kernel_rfl))
    (Eq.mp (by kernel_rfl) H)

def spec_l05Draw.S (x_0 : Addr) (speed_1 : Nat) (Post : Value → Heap → Prop) (h : Heap) : Prop :=
    oL (cell h (Addr.add x_0 2)) fun l1b l1l l1c =>
    oI .i64 (cell h (Addr.add x_0 3)) fun n2 =>
    IDXS l1b n2 l1l fun p3 =>
    oF .f32 (cell h ((Addr.add p3 ((Int.toNat n2) * 1)))) fun r4 =>
    CALL prg f_spec_l02Step #[.pointer (some (Addr.add x_0 4)), .float .f32 r4] (fun q5 h6 =>
    asF .f32 q5 fun r7 =>
    oF .f32 (cell h6 (Addr.add x_0 11)) fun r8 =>
    FOP .f32 (FloatKind.f32.format.mul r8 r7) fun r9 =>
    oL (cell h6 x_0) fun l10b l10l l10c =>
    oI .i64 (cell h6 (Addr.add x_0 1)) fun n11 =>
    IDXS l10b n11 l10l fun p12 =>
    oF .f32 (cell h6 ((Addr.add p12 ((Int.toNat n11) * 1)))) fun r13 =>
    FOP .f32 (FloatKind.f32.format.add (Op.negFloat .f32 r9) (Op.negFloat .f32 r13)) fun r14 =>
    FOP .f32 (FloatKind.f32.format.sub speed_1 r14) fun r15 =>
    Post (.tuple ⟨[.float .f32 (Op.negFloat .f32 r9), .float .f32 (Op.negFloat .f32 r13), .float .f32 r15]⟩) h6) h
noncomputable def spec_l05Draw.code : Code := (Tryz.f137.body).getD .skip
theorem spec_l05Draw.call {x_0 : Addr} {speed_1 : Nat} {Post : Value → Heap → Prop} {h : Heap} (H : spec_l05Draw.S x_0 speed_1 Post h) : CALL prg f_spec_l05Draw #[.pointer (some x_0), .float .f32 speed_1] Post h :=
  fn_call tau_ok mixed (c := spec_l05Draw.code) (Λ := lookL []) Tryz.func137 (by kernel_rfl) (by kernel_rfl)
    (Rq.free (by kernel_rfl))
    (Eq.mp (by kernel_rfl) H)

def spec_l05Friction.S (slope_0 : Nat) (d_1 : Nat) (Post : Value → Heap → Prop) (h : Heap) : Prop :=
    FOP .f32 (FloatKind.f32.format.mul slope_0 d_1) fun r1 =>
    CALL prg f_spec_l01Abs #[.float .f32 r1] (fun q2 h3 =>
    asF .f32 q2 fun r4 =>
    FOP .f32 (FloatKind.f32.format.add r4 1061158912) fun r5 =>
    FOP .f32 (FloatKind.f32.format.mul r5 r5) fun r6 =>
    FOP .f32 (FloatKind.f32.format.mul r6 r6) fun r7 =>
    FOP .f32 (FloatKind.f32.format.div 1065353216 r7) fun r8 =>
    BIF (FloatKind.f32.format.order r8 1065353216 == some .gt) (
    Post (.float .f32 1065353216) h3) (
    Post (.float .f32 r8) h3)) h
noncomputable def spec_l05Friction.code : Code := (Tryz.f138.body).getD .skip
theorem spec_l05Friction.call {slope_0 : Nat} {d_1 : Nat} {Post : Value → Heap → Prop} {h : Heap} (H : spec_l05Friction.S slope_0 d_1 Post h) : CALL prg f_spec_l05Friction #[.float .f32 slope_0, .float .f32 d_1] Post h :=
  fn_call tau_ok mixed (c := spec_l05Friction.code) (Λ := lookL []) Tryz.func138 (by kernel_rfl) (by kernel_rfl)
    (Rq.free (by kernel_rfl))
    (Eq.mp (by kernel_rfl) H)

def spec_l05StepBow.S (x_0 : Addr) (speed_1 : Nat) (Post : Value → Heap → Prop) (h : Heap) : Prop :=
    oL (cell h (Addr.add x_0 2)) fun l1b l1l l1c =>
    oI .i64 (cell h (Addr.add x_0 3)) fun n2 =>
    IDXS l1b n2 l1l fun p3 =>
    oF .f32 (cell h ((Addr.add p3 ((Int.toNat n2) * 1)))) fun r4 =>
    CALL prg f_spec_l05Draw #[.pointer (some x_0), .float .f32 speed_1] (fun q5 h6 =>
    TUP3 q5 fun q7 q8 q9 =>
    asF .f32 q7 fun r10 =>
    asF .f32 q8 fun r11 =>
    asF .f32 q9 fun r12 =>
    oF .f32 (cell h6 (Addr.add x_0 10)) fun r13 =>
    CALL prg f_spec_l05Friction #[.float .f32 r13, .float .f32 r12] (fun q14 h15 =>
    asF .f32 q14 fun r16 =>
    FOP .f32 (FloatKind.f32.format.mul r12 r16) fun r17 =>
    FOP .f32 (FloatKind.f32.format.add r10 r17) fun r18 =>
    CALL prg f_spec_l02Kept #[.float .f32 r18] (fun q19 h20 =>
    asF .f32 q19 fun r21 =>
    CALL prg f_spec_l02Push #[.pointer (some x_0), .float .f32 r21] (fun q22 h23 =>
    asF .f32 q22 fun r24 =>
    FOP .f32 (FloatKind.f32.format.add r11 r17) fun r25 =>
    CALL prg f_spec_l02Kept #[.float .f32 r25] (fun q26 h27 =>
    asF .f32 q26 fun r28 =>
    CALL prg f_spec_l02Push #[.pointer (some (Addr.add x_0 2)), .float .f32 r28] (fun q29 h30 =>
    asF .f32 q29 fun r31 =>
    Post (.float .f32 r4) h30) h27) h23) h20) h15) h6) h
noncomputable def spec_l05StepBow.code : Code := (Tryz.f112.body).getD .skip
theorem spec_l05StepBow.call {x_0 : Addr} {speed_1 : Nat} {Post : Value → Heap → Prop} {h : Heap} (H : spec_l05StepBow.S x_0 speed_1 Post h) : CALL prg f_spec_l05StepBow #[.pointer (some x_0), .float .f32 speed_1] Post h :=
  fn_call tau_ok mixed (c := spec_l05StepBow.code) (Λ := lookL []) Tryz.func112 (by kernel_rfl) (by kernel_rfl)
    (Rq.free (by kernel_rfl))
    (Eq.mp (by kernel_rfl) H)

def impl_Bow_clone.S (x_0 : Array Value) (Post : Value → Heap → Prop) (h : Heap) : Prop :=
    ALC x_0 T_impl_Bow (fun g1 h2 =>
    ALC ⟨Z_impl_Bow⟩ T_impl_Bow (fun g3 h4 =>
    LDA 2 h4 ⟨g1, 0, none⟩ fun a5 =>
    LDA 2 h4 ⟨g1, 2, none⟩ fun a6 =>
    CALL prg f_impl_Ring_clone #[.agg a5] (fun q7 h8 =>
    asA q7 fun a9 =>
    PIN h4 ⟨g1, 2, none⟩ 2 h8 <|
    CALL prg f_impl_Ring_clone #[.agg a6] (fun q10 h11 =>
    asA q10 fun a12 =>
    STA 2 h11 ⟨g1, 0, none⟩ a9 fun h13 =>
    STA 2 h13 ⟨g1, 2, none⟩ a12 fun h14 =>
    LDA 12 h14 ⟨g1, 0, none⟩ fun a15 =>
    STA 12 h14 ⟨g3, 0, none⟩ a15 fun h16 =>
    LDA 12 h16 ⟨g3, 0, none⟩ fun a17 =>
    Post (.agg a17) h16) h8) h4) h2) h
noncomputable def impl_Bow_clone.code : Code := (Tryz.f61.body).getD .skip
theorem impl_Bow_clone.call {x_0 : Array Value} {Post : Value → Heap → Prop} {h : Heap} (H : impl_Bow_clone.S x_0 Post h) : CALL prg f_impl_Bow_clone #[.agg x_0] Post h :=
  fn_call tau_ok mixed (c := impl_Bow_clone.code) (Λ := lookL []) Tryz.func61 (by kernel_rfl) (by kernel_rfl)
    (Rq.free (by kernel_rfl))
    (Eq.mp (by kernel_rfl) H)

def slices_IndexFunc_sl_impl_Ring_impl_Ring.B2 (Post : Value → Heap → Prop) (N2 : (Option Addr × Nat × Nat × Value × Int × Int) → Heap → Prop) : Option Addr × Nat × Nat × Value × Int × Int → Heap → Prop
  | (s_0b, s_0l, s_0c, f_1, t7, t8), h =>
    BIF (decide (t8 < t7)) (
    IDXS s_0b t8 s_0l fun p3 =>
    oP (cell h ((Addr.add p3 ((Int.toNat t8) * 1)))) fun p4 =>
    CALLD prg f_1 #[.pointer (some p4)] (fun q5 h6 =>
    asB q5 fun b7 =>
    BIF b7 (
    Post (.int .i64 t8) h6) (
    N2 (s_0b, s_0l, s_0c, f_1, t7, ((IntKind.i64.wrap (t8 + (1 : Int))))) h6)) h) (
    Post (.int .i64 (-1 : Int)) h)
def slices_IndexFunc_sl_impl_Ring_impl_Ring.g2 (fr : Frame) : Option Addr × Nat × Nat × Value × Int × Int := ((gLb (lget fr 0)), (gLl (lget fr 0)), (gLc (lget fr 0)), (lget fr 1), (gI (lget fr 7)), (gI (lget fr 8)))
def slices_IndexFunc_sl_impl_Ring_impl_Ring.l2 (Post : Value → Heap → Prop) : Frame → Heap → Prop := fun fr h => GRD (shape (kds 19 [(0, .l), (1, .v), (7, .i .i64), (8, .i .i64)]) fr) (LOOP (slices_IndexFunc_sl_impl_Ring_impl_Ring.B2 Post) (slices_IndexFunc_sl_impl_Ring_impl_Ring.g2 fr) h)
def slices_IndexFunc_sl_impl_Ring_impl_Ring.S (s_0b : Option Addr) (s_0l s_0c : Nat) (f_1 : Value) (Post : Value → Heap → Prop) (h : Heap) : Prop :=
    LOOP (slices_IndexFunc_sl_impl_Ring_impl_Ring.B2 Post) (s_0b, s_0l, s_0c, f_1, (s_0l : Int), (0 : Int)) h
noncomputable def slices_IndexFunc_sl_impl_Ring_impl_Ring.code : Code := (Tryz.f131.body).getD .skip
theorem slices_IndexFunc_sl_impl_Ring_impl_Ring.call {s_0b : Option Addr} {s_0l s_0c : Nat} {f_1 : Value} {Post : Value → Heap → Prop} {h : Heap} (H : slices_IndexFunc_sl_impl_Ring_impl_Ring.S s_0b s_0l s_0c f_1 Post h) : CALL prg f_slices_IndexFunc_sl_impl_Ring_impl_Ring #[.slice s_0b s_0l s_0c, f_1] Post h :=
  fn_call tau_ok mixed (c := slices_IndexFunc_sl_impl_Ring_impl_Ring.code) (Λ := lookL [(1000002, slices_IndexFunc_sl_impl_Ring_impl_Ring.l2 Post)]) Tryz.func131 (by kernel_rfl) (by kernel_rfl)
    (Rq.seq (by kernel_rfl) (Rq.free (by kernel_rfl)) (Rq.seq (by kernel_rfl) (Rq.seq (by kernel_rfl) (Rq.free (by kernel_rfl)) (Rq.block (Rq.loop (slices_IndexFunc_sl_impl_Ring_impl_Ring.l2 Post) (by kernel_rfl) (segL (g := slices_IndexFunc_sl_impl_Ring_impl_Ring.g2) tau_ok mixed (Λ := fun N2 => lookL []) (fun _ _ _ => by kernel_rfl) (fun N2 => (Rq.free (by kernel_rfl))))))) (Rq.free (by kernel_rfl))))
    (Eq.mp (by kernel_rfl) H)

def slices_ContainsFunc_sl_impl_Ring_impl_Ring.S (s_0b : Option Addr) (s_0l s_0c : Nat) (f_1 : Value) (Post : Value → Heap → Prop) (h : Heap) : Prop :=
    CALL prg f_slices_IndexFunc_sl_impl_Ring_impl_Ring #[.slice s_0b s_0l s_0c, f_1] (fun q1 h2 =>
    asI .i64 q1 fun n3 =>
    Post (.bool ((decide ((0 : Int) ≤ n3)))) h2) h
noncomputable def slices_ContainsFunc_sl_impl_Ring_impl_Ring.code : Code := (Tryz.f104.body).getD .skip
theorem slices_ContainsFunc_sl_impl_Ring_impl_Ring.call {s_0b : Option Addr} {s_0l s_0c : Nat} {f_1 : Value} {Post : Value → Heap → Prop} {h : Heap} (H : slices_ContainsFunc_sl_impl_Ring_impl_Ring.S s_0b s_0l s_0c f_1 Post h) : CALL prg f_slices_ContainsFunc_sl_impl_Ring_impl_Ring #[.slice s_0b s_0l s_0c, f_1] Post h :=
  fn_call tau_ok mixed (c := slices_ContainsFunc_sl_impl_Ring_impl_Ring.code) (Λ := lookL []) Tryz.func104 (by kernel_rfl) (by kernel_rfl)
    (Rq.free (by kernel_rfl))
    (Eq.mp (by kernel_rfl) H)

def impl_areQuiet_c1.S (r_0 : Addr) (Post : Value → Heap → Prop) (h : Heap) : Prop :=
    LDA 2 h r_0 fun a1 =>
    CALL prg f_impl_Ring_isQuiet #[.agg a1] (fun q2 h3 =>
    asB q2 fun b4 =>
    Post (.bool (!b4)) h3) h
noncomputable def impl_areQuiet_c1.code : Code := (Tryz.f105.body).getD .skip
theorem impl_areQuiet_c1.call {r_0 : Addr} {Post : Value → Heap → Prop} {h : Heap} (H : impl_areQuiet_c1.S r_0 Post h) : CALL prg f_impl_areQuiet_c1 #[.pointer (some r_0)] Post h :=
  fn_call tau_ok mixed (c := impl_areQuiet_c1.code) (Λ := lookL []) Tryz.func105 (by kernel_rfl) (by kernel_rfl)
    (Rq.free (by kernel_rfl))
    (Eq.mp (by kernel_rfl) H)

def impl_areQuiet.S (list_0b : Option Addr) (list_0l list_0c : Nat) (Post : Value → Heap → Prop) (h : Heap) : Prop :=
    CALL prg f_slices_ContainsFunc_sl_impl_Ring_impl_Ring #[.slice list_0b list_0l list_0c, .func (.func 105) #[] #[]] (fun q1 h2 =>
    asB q1 fun b3 =>
    Post (.bool (!b3)) h2) h
noncomputable def impl_areQuiet.code : Code := (Tryz.f43.body).getD .skip
theorem impl_areQuiet.call {list_0b : Option Addr} {list_0l list_0c : Nat} {Post : Value → Heap → Prop} {h : Heap} (H : impl_areQuiet.S list_0b list_0l list_0c Post h) : CALL prg f_impl_areQuiet #[.slice list_0b list_0l list_0c] Post h :=
  fn_call tau_ok mixed (c := impl_areQuiet.code) (Λ := lookL []) Tryz.func43 (by kernel_rfl) (by kernel_rfl)
    (Rq.free (by kernel_rfl))
    (Eq.mp (by kernel_rfl) H)

def p_impl_Bow_meet.S (x_0 : Addr) (speed_1 : Nat) (Post : Value → Heap → Prop) (h : Heap) : Prop :=
    LDA 2 h (Addr.add x_0 2) fun a1 =>
    CALL prg f_impl_Ring_oldest #[.agg a1] (fun q2 h3 =>
    asF .f32 q2 fun r4 =>
    CALL prg f_p_impl_Filter_step #[.pointer (some (Addr.add x_0 4)), .float .f32 r4] (fun q5 h6 =>
    asF .f32 q5 fun r7 =>
    oF .f32 (cell h6 (Addr.add x_0 11)) fun r8 =>
    LDA 2 h6 x_0 fun a9 =>
    (FOP .f32 (FloatKind.f32.format.mul r8 r7) fun r10 =>
    PIN h6 x_0 2 h6 <|
    CALL prg f_impl_Ring_oldest #[.agg a9] (fun q11 h12 =>
    asF .f32 q11 fun r13 =>
    PIN h6 (Addr.add x_0 11) 1 h12 <|
    FOP .f32 (FloatKind.f32.format.add (Op.negFloat .f32 r10) (Op.negFloat .f32 r13)) fun r14 =>
    FOP .f32 (FloatKind.f32.format.sub speed_1 r14) fun r15 =>
    Post (.tuple ⟨[.float .f32 (Op.negFloat .f32 r10), .float .f32 (Op.negFloat .f32 r13), .float .f32 r15]⟩) h12) h6) ∧ (CALL prg f_impl_Ring_oldest #[.agg a9] (fun q16 h17 =>
    asF .f32 q16 fun r18 =>
    PIN h6 (Addr.add x_0 11) 1 h17 <|
    FOP .f32 (FloatKind.f32.format.mul r8 r7) fun r19 =>
    PIN h6 x_0 2 h17 <|
    FOP .f32 (FloatKind.f32.format.add (Op.negFloat .f32 r19) (Op.negFloat .f32 r18)) fun r20 =>
    FOP .f32 (FloatKind.f32.format.sub speed_1 r20) fun r21 =>
    Post (.tuple ⟨[.float .f32 (Op.negFloat .f32 r19), .float .f32 (Op.negFloat .f32 r18), .float .f32 r21]⟩) h17) h6)) h3) h
noncomputable def p_impl_Bow_meet.code : Code := (Tryz.f115.body).getD .skip
theorem p_impl_Bow_meet.call {x_0 : Addr} {speed_1 : Nat} {Post : Value → Heap → Prop} {h : Heap} (H : p_impl_Bow_meet.S x_0 speed_1 Post h) : CALL prg f_p_impl_Bow_meet #[.pointer (some x_0), .float .f32 speed_1] Post h :=
  fn_call tau_ok mixed (c := p_impl_Bow_meet.code) (Λ := lookL []) Tryz.func115 (by kernel_rfl) (by kernel_rfl)
    (Rq.free (by kernel_rfl))
    (Eq.mp (by kernel_rfl) H)

def impl_FrictionAt.S (slope_0 : Nat) (difference_1 : Nat) (Post : Value → Heap → Prop) (h : Heap) : Prop :=
    FOP .f32 (FloatKind.f32.format.mul slope_0 difference_1) fun r1 =>
    CALL prg f_impl_absolute #[.float .f32 r1] (fun q2 h3 =>
    asF .f32 q2 fun r4 =>
    FOP .f32 (FloatKind.f32.format.add r4 1061158912) fun r5 =>
    FOP .f32 (FloatKind.f32.format.mul r5 r5) fun r6 =>
    FOP .f32 (FloatKind.f32.format.mul r6 r6) fun r7 =>
    FOP .f32 (FloatKind.f32.format.div 1065353216 r7) fun r8 =>
    BIF (FloatKind.f32.format.order r8 1065353216 == some .gt) (
    Post (.float .f32 1065353216) h3) (
    Post (.float .f32 r8) h3)) h
noncomputable def impl_FrictionAt.code : Code := (Tryz.f116.body).getD .skip
theorem impl_FrictionAt.call {slope_0 : Nat} {difference_1 : Nat} {Post : Value → Heap → Prop} {h : Heap} (H : impl_FrictionAt.S slope_0 difference_1 Post h) : CALL prg f_impl_FrictionAt #[.float .f32 slope_0, .float .f32 difference_1] Post h :=
  fn_call tau_ok mixed (c := impl_FrictionAt.code) (Λ := lookL []) Tryz.func116 (by kernel_rfl) (by kernel_rfl)
    (Rq.free (by kernel_rfl))
    (Eq.mp (by kernel_rfl) H)

def p_impl_Bow_step.S (x_0 : Addr) (speed_1 : Nat) (Post : Value → Heap → Prop) (h : Heap) : Prop :=
    LDA 2 h (Addr.add x_0 2) fun a1 =>
    CALL prg f_impl_Ring_oldest #[.agg a1] (fun q2 h3 =>
    asF .f32 q2 fun r4 =>
    CALL prg f_p_impl_Bow_meet #[.pointer (some x_0), .float .f32 speed_1] (fun q5 h6 =>
    TUP3 q5 fun q7 q8 q9 =>
    asF .f32 q7 fun r10 =>
    asF .f32 q8 fun r11 =>
    asF .f32 q9 fun r12 =>
    oF .f32 (cell h6 (Addr.add x_0 10)) fun r13 =>
    CALL prg f_impl_FrictionAt #[.float .f32 r13, .float .f32 r12] (fun q14 h15 =>
    asF .f32 q14 fun r16 =>
    FOP .f32 (FloatKind.f32.format.mul r12 r16) fun r17 =>
    FOP .f32 (FloatKind.f32.format.add r10 r17) fun r18 =>
    CALL prg f_impl_kept #[.float .f32 r18] (fun q19 h20 =>
    asF .f32 q19 fun r21 =>
    CALL prg f_p_impl_Ring_push #[.pointer (some x_0), .float .f32 r21] (fun q22 h23 =>
    asF .f32 q22 fun r24 =>
    FOP .f32 (FloatKind.f32.format.add r11 r17) fun r25 =>
    CALL prg f_impl_kept #[.float .f32 r25] (fun q26 h27 =>
    asF .f32 q26 fun r28 =>
    CALL prg f_p_impl_Ring_push #[.pointer (some (Addr.add x_0 2)), .float .f32 r28] (fun q29 h30 =>
    asF .f32 q29 fun r31 =>
    Post (.float .f32 r4) h30) h27) h23) h20) h15) h6) h3) h
noncomputable def p_impl_Bow_step.code : Code := (Tryz.f62.body).getD .skip
theorem p_impl_Bow_step.call {x_0 : Addr} {speed_1 : Nat} {Post : Value → Heap → Prop} {h : Heap} (H : p_impl_Bow_step.S x_0 speed_1 Post h) : CALL prg f_p_impl_Bow_step #[.pointer (some x_0), .float .f32 speed_1] Post h :=
  fn_call tau_ok mixed (c := p_impl_Bow_step.code) (Λ := lookL []) Tryz.func62 (by kernel_rfl) (by kernel_rfl)
    (Rq.free (by kernel_rfl))
    (Eq.mp (by kernel_rfl) H)

end Go.Sx
