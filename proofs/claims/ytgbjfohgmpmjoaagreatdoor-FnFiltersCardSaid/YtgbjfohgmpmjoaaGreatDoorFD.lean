/- What functions of this seat's program compute, told in words (a predicate over heaps for each), and the proofs that the words are no more than the code's own weakest precondition. -/
import Derived.Test.YtgbjfohgmpmjoaaGreatDoorTab
namespace Go.Sx
open Go.Proofs
set_option linter.unusedVariables false
set_option maxRecDepth 100000

def spec_l01Sine.B13 (Post : Value → Heap → Prop) (N13 : (Bool × Nat × Nat × Nat × Int) → Heap → Prop) : Bool × Nat × Nat × Nat × Int → Heap → Prop
  | (negative_4, x_5, y_6, t_7, m_8), h =>
    BIF ((decide ((1 : Int) ≤ m_8))) (
    FOP .f64 (FloatKind.f64.format.div y_6 ((FloatKind.f64.nearest ((IntKind.i64.wrap ((IntKind.i64.wrap ((2 : Int) * m_8)) * (IntKind.i64.wrap ((IntKind.i64.wrap ((2 : Int) * m_8)) + (1 : Int))))))))) fun r18 =>
    FOP .f64 (FloatKind.f64.format.mul r18 t_7) fun r19 =>
    FOP .f64 (FloatKind.f64.format.sub 4607182418800017408 r19) fun r20 =>
    N13 (negative_4, x_5, y_6, r20, ((IntKind.i64.wrap (m_8 - (1 : Int))))) h) (
    FOP .f64 (FloatKind.f64.format.mul t_7 x_5) fun r21 =>
    BIF negative_4 (
    FFC .f64 (Op.negFloat .f64 r21) .f32 fun r22 =>
    Post (.float .f32 r22) h) (
    FFC .f64 r21 .f32 fun r23 =>
    Post (.float .f32 r23) h))
def spec_l01Sine.g13 (fr : Frame) : Bool × Nat × Nat × Nat × Int := ((gB (lget fr 4)), (gF (lget fr 5)), (gF (lget fr 6)), (gF (lget fr 7)), (gI (lget fr 8)))
def spec_l01Sine.l13 (Post : Value → Heap → Prop) : Frame → Heap → Prop := fun fr h => GRD (shape (kds 61 [(4, .b), (5, .f .f64), (6, .f .f64), (7, .f .f64), (8, .i .i64)]) fr) (LOOP (spec_l01Sine.B13 Post) (spec_l01Sine.g13 fr) h)
def spec_l01Sine.J9 (Post : Value → Heap → Prop) (f_3 : Nat) (negative_4 : Bool) (h : Heap) : Prop :=
    FOP .f64 (FloatKind.f64.format.mul 4618760256179416344 f_3) fun r16 =>
    FOP .f64 (FloatKind.f64.format.mul r16 r16) fun r17 =>
    LOOP (spec_l01Sine.B13 Post) (negative_4, r16, r17, 4607182418800017408, (8 : Int)) h
def spec_l01Sine.j9 (Post : Value → Heap → Prop) : Frame → Heap → Prop := fun fr h => GRD (shape (kds 61 [(3, .f .f64), (4, .b)]) fr) (spec_l01Sine.J9 Post (gF (lget fr 3)) (gB (lget fr 4)) h)
def spec_l01Sine.J7 (Post : Value → Heap → Prop) (f_3 : Nat) (negative_4 : Bool) (h : Heap) : Prop :=
    BIF (FloatKind.f64.format.order f_3 4598175219545276416 == some .gt) (
    FOP .f64 (FloatKind.f64.format.sub 4602678819172646912 f_3) fun r15 =>
    spec_l01Sine.J9 Post r15 negative_4 h) (
    spec_l01Sine.J9 Post f_3 negative_4 h)
def spec_l01Sine.j7 (Post : Value → Heap → Prop) : Frame → Heap → Prop := fun fr h => GRD (shape (kds 61 [(3, .f .f64), (4, .b)]) fr) (spec_l01Sine.J7 Post (gF (lget fr 3)) (gB (lget fr 4)) h)
def spec_l01Sine.S (turns_0 : Nat) (Post : Value → Heap → Prop) (h : Heap) : Prop :=
    CALL prg f_spec_l01Finite #[.float .f32 turns_0] (fun q1 h2 =>
    asB q1 fun b3 =>
    BIF (!b3) (
    CALL prg f_math_NaN #[] (fun q4 h5 =>
    asF .f64 q4 fun r6 =>
    FFC .f64 r6 .f32 fun r7 =>
    Post (.float .f32 r7) h5) h2) (
    FFC .f32 turns_0 .f64 fun r8 =>
    FFC .f32 turns_0 .f64 fun r9 =>
    CALL prg f_math_Floor #[.float .f64 r9] (fun q10 h11 =>
    asF .f64 q10 fun r12 =>
    FOP .f64 (FloatKind.f64.format.sub r8 r12) fun r13 =>
    BIF (FloatKind.f64.format.order r13 4602678819172646912 == some .gt || FloatKind.f64.format.order r13 4602678819172646912 == some .eq) (
    FOP .f64 (FloatKind.f64.format.sub r13 4602678819172646912) fun r14 =>
    spec_l01Sine.J7 Post r14 (FloatKind.f64.format.order r13 4602678819172646912 == some .gt || FloatKind.f64.format.order r13 4602678819172646912 == some .eq) h11) (
    spec_l01Sine.J7 Post r13 (FloatKind.f64.format.order r13 4602678819172646912 == some .gt || FloatKind.f64.format.order r13 4602678819172646912 == some .eq) h11)) h2)) h
noncomputable def spec_l01Sine.code : Code := (Tryz.f110.body).getD .skip
theorem spec_l01Sine.call {turns_0 : Nat} {Post : Value → Heap → Prop} {h : Heap} (H : spec_l01Sine.S turns_0 Post h) : CALL prg f_spec_l01Sine #[.float .f32 turns_0] Post h :=
  fn_call tau_ok mixed (c := spec_l01Sine.code) (Λ := lookL [(7, spec_l01Sine.j7 Post), (9, spec_l01Sine.j9 Post), (1000013, spec_l01Sine.l13 Post)]) Tryz.func110 (by kernel_rfl) (by kernel_rfl)
    (Rq.seq (by kernel_rfl) (Rq.free (by kernel_rfl)) (Rq.seq (by kernel_rfl) (Rq.free (by kernel_rfl)) (Rq.seq (by kernel_rfl) (Rq.free (by kernel_rfl)) (Rq.seq (by kernel_rfl) (Rq.free (by kernel_rfl)) (Rq.seqJ (spec_l01Sine.j7 Post) (by kernel_rfl) (seg (fun _ _ => by kernel_rfl)) (Rq.free (by kernel_rfl))
(Rq.seqJ (spec_l01Sine.j9 Post) (by kernel_rfl) (seg (fun _ _ => by kernel_rfl)) (Rq.free (by kernel_rfl))
(Rq.seq (by kernel_rfl) (Rq.free (by kernel_rfl)) (Rq.seq (by kernel_rfl) (Rq.free (by kernel_rfl)) (Rq.seq (by kernel_rfl) (Rq.free (by kernel_rfl)) (Rq.seq (by kernel_rfl) (Rq.seq (by kernel_rfl) (Rq.free (by kernel_rfl)) (Rq.block (Rq.loop (spec_l01Sine.l13 Post) (by kernel_rfl) (segL (g := spec_l01Sine.g13) tau_ok mixed (Λ := fun N13 => lookL []) (fun _ _ _ => by kernel_rfl) (fun N13 => (Rq.free (by kernel_rfl))))))) (Rq.free (by kernel_rfl))))))))))))
    (Eq.mp (by kernel_rfl) H)

def spec_TwoPole.S (turns_0 : Nat) (radius_1 : Nat) (Post : Value → Heap → Prop) (h : Heap) : Prop :=
    ALC ⟨Z_impl_Filter⟩ T_impl_Filter (fun g1 h2 =>
    FOP .f32 (FloatKind.f32.format.add turns_0 1048576000) fun r3 =>
    CALL prg f_spec_l01Sine #[.float .f32 r3] (fun q4 h5 =>
    asF .f32 q4 fun r6 =>
    FOP .f32 (FloatKind.f32.format.sub 1065353216 radius_1) fun r7 =>
    FOP .f32 (FloatKind.f32.format.mul 1073741824 radius_1) fun r8 =>
    FOP .f32 (FloatKind.f32.format.mul r8 r6) fun r9 =>
    FOP .f32 (FloatKind.f32.format.mul radius_1 radius_1) fun r10 =>
    SIZ (Array.size (⟨[.float .f32 r7, .float .f32 (Op.negFloat .f32 r9), .float .f32 r10]⟩ : Array Value)) 3 <|
    STA 6 h5 ⟨g1, 0, none⟩ (⟨[.int .i64 (4 : Int), .float .f32 r7, .float .f32 (Op.negFloat .f32 r9), .float .f32 r10, .float .f32 0, .float .f32 0]⟩ : Array Value) fun h11 =>
    LDA 6 h11 ⟨g1, 0, none⟩ fun a12 =>
    Post (.agg a12) h11) h2) h
noncomputable def spec_TwoPole.code : Code := (Tryz.f80.body).getD .skip
theorem spec_TwoPole.call {turns_0 : Nat} {radius_1 : Nat} {Post : Value → Heap → Prop} {h : Heap} (H : spec_TwoPole.S turns_0 radius_1 Post h) : CALL prg f_spec_TwoPole #[.float .f32 turns_0, .float .f32 radius_1] Post h :=
  fn_call tau_ok mixed (c := spec_TwoPole.code) (Λ := lookL []) Tryz.func80 (by kernel_rfl) (by kernel_rfl)
    (Rq.free (by kernel_rfl))
    (Eq.mp (by kernel_rfl) H)

def spec_l02Drawn.B12 (Post : Value → Heap → Prop) (N12 : (Addr × Addr × Addr × Int) → Heap → Prop) : Addr × Addr × Addr × Int → Heap → Prop
  | (s_0, t2, f_3, k_4), h =>
    BIF ((decide ((0 : Int) < k_4))) (
    CALL prg f_spec_l01Plain #[.pointer (some s_0)] (fun q58 h59 =>
    asF .f32 q58 fun r60 =>
    CALL prg f_spec_l02Step #[.pointer (some f_3), .float .f32 r60] (fun q61 h62 =>
    asF .f32 q61 fun r63 =>
    N12 (s_0, t2, f_3, ((IntKind.i64.wrap (k_4 - (1 : Int))))) h62) h59) h) (
    LDA 6 h f_3 fun a64 =>
    STA 6 h t2 a64 fun h65 =>
    LDA 6 h65 t2 fun a66 =>
    Post (.agg a66) h65)
def spec_l02Drawn.g12 (fr : Frame) : Addr × Addr × Addr × Int := ((gP (lget fr 0)), (gP (lget fr 2)), (gP (lget fr 3)), (gI (lget fr 4)))
def spec_l02Drawn.l12 (Post : Value → Heap → Prop) : Frame → Heap → Prop := fun fr h => GRD (shape (kds 57 [(0, .p), (2, .p), (3, .p), (4, .i .i64)]) fr) (LOOP (spec_l02Drawn.B12 Post) (spec_l02Drawn.g12 fr) h)
def spec_l02Drawn.J11 (Post : Value → Heap → Prop) (s_0 : Addr) (t2 : Addr) (f_3 : Addr) (h : Heap) : Prop :=
    CALL prg f_p_spec_l00Src_pick #[.pointer (some s_0), .int .i64 (4 : Int)] (fun q55 h56 =>
    asI .i64 q55 fun n57 =>
    LOOP (spec_l02Drawn.B12 Post) (s_0, t2, f_3, n57) h56) h
def spec_l02Drawn.j11 (Post : Value → Heap → Prop) : Frame → Heap → Prop := fun fr h => GRD (shape (kds 57 [(0, .p), (2, .p), (3, .p)]) fr) (spec_l02Drawn.J11 Post (gP (lget fr 0)) (gP (lget fr 2)) (gP (lget fr 3)) h)
def spec_l02Drawn.S (s_0 : Addr) (Post : Value → Heap → Prop) (h : Heap) : Prop :=
    ALC ⟨Z_impl_Filter⟩ T_impl_Filter (fun g1 h2 =>
    CALL prg f_p_spec_l00Src_pick #[.pointer (some s_0), .int .i64 (64 : Int)] (fun q3 h4 =>
    asI .i64 q3 fun n5 =>
    FOP .f32 (FloatKind.f32.format.div (FloatKind.f32.nearest n5) 1115684864) fun r6 =>
    CALL prg f_spec_OnePole #[.float .f32 r6] (fun q7 h8 =>
    asA q7 fun a9 =>
    ALC ⟨Z_impl_Filter⟩ T_impl_Filter (fun g10 h11 =>
    STA 6 h11 ⟨g10, 0, none⟩ a9 fun h12 =>
    CALL prg f_p_spec_l00Src_pick #[.pointer (some s_0), .int .i64 (5 : Int)] (fun q13 h14 =>
    asI .i64 q13 fun n15 =>
    BIF (n15 == (0 : Int)) (
    CALL prg f_p_spec_l00Src_pick #[.pointer (some s_0), .int .i64 (65 : Int)] (fun q16 h17 =>
    asI .i64 q16 fun n18 =>
    FOP .f32 (FloatKind.f32.format.div (FloatKind.f32.nearest n18) 1115684864) fun r19 =>
    CALL prg f_spec_OneZero #[.float .f32 r19] (fun q20 h21 =>
    asA q20 fun a22 =>
    STA 6 h21 ⟨g10, 0, none⟩ a22 fun h23 =>
    spec_l02Drawn.J11 Post s_0 ⟨g1, 0, none⟩ ⟨g10, 0, none⟩ h23) h17) h14) (
    BIF (n15 == (1 : Int)) (
    CALL prg f_p_spec_l00Src_pick #[.pointer (some s_0), .int .i64 (65 : Int)] (fun q24 h25 =>
    asI .i64 q24 fun n26 =>
    FOP .f32 (FloatKind.f32.format.div (FloatKind.f32.nearest n26) 1115684864) fun r27 =>
    CALL prg f_spec_AllpassFor #[.float .f32 r27] (fun q28 h29 =>
    TUP2 q28 fun q30 q31 =>
    asA q30 fun a32 =>
    asI .i64 q31 fun n33 =>
    STA 6 h29 ⟨g10, 0, none⟩ a32 fun h34 =>
    spec_l02Drawn.J11 Post s_0 ⟨g1, 0, none⟩ ⟨g10, 0, none⟩ h34) h25) h14) (
    BIF (n15 == (2 : Int)) (
    CALL prg f_p_spec_l00Src_pick #[.pointer (some s_0), .int .i64 (65 : Int)] (fun q35 h36 =>
    asI .i64 q35 fun n37 =>
    FOP .f32 (FloatKind.f32.format.div (FloatKind.f32.nearest n37) 1124073472) fun r38 =>
    CALL prg f_p_spec_l00Src_pick #[.pointer (some s_0), .int .i64 (64 : Int)] (fun q39 h40 =>
    asI .i64 q39 fun n41 =>
    FOP .f32 (FloatKind.f32.format.div (FloatKind.f32.nearest n41) 1115684864) fun r42 =>
    CALL prg f_spec_TwoPole #[.float .f32 r38, .float .f32 r42] (fun q43 h44 =>
    asA q43 fun a45 =>
    STA 6 h44 ⟨g10, 0, none⟩ a45 fun h46 =>
    spec_l02Drawn.J11 Post s_0 ⟨g1, 0, none⟩ ⟨g10, 0, none⟩ h46) h40) h36) h14) (
    BIF (n15 == (3 : Int)) (
    CALL prg f_p_spec_l00Src_pick #[.pointer (some s_0), .int .i64 (64 : Int)] (fun q47 h48 =>
    asI .i64 q47 fun n49 =>
    FOP .f32 (FloatKind.f32.format.div (FloatKind.f32.nearest n49) 1115684864) fun r50 =>
    CALL prg f_spec_BlockDc #[.float .f32 r50] (fun q51 h52 =>
    asA q51 fun a53 =>
    STA 6 h52 ⟨g10, 0, none⟩ a53 fun h54 =>
    spec_l02Drawn.J11 Post s_0 ⟨g1, 0, none⟩ ⟨g10, 0, none⟩ h54) h48) h14) (
    spec_l02Drawn.J11 Post s_0 ⟨g1, 0, none⟩ ⟨g10, 0, none⟩ h14))))) h12) h8) h4) h2) h
noncomputable def spec_l02Drawn.code : Code := (Tryz.f33.body).getD .skip
theorem spec_l02Drawn.call {s_0 : Addr} {Post : Value → Heap → Prop} {h : Heap} (H : spec_l02Drawn.S s_0 Post h) : CALL prg f_spec_l02Drawn #[.pointer (some s_0)] Post h :=
  fn_call tau_ok mixed (c := spec_l02Drawn.code) (Λ := lookL [(11, spec_l02Drawn.j11 Post), (1000012, spec_l02Drawn.l12 Post)]) Tryz.func33 (by kernel_rfl) (by kernel_rfl)
    (Rq.seq (by kernel_rfl) (Rq.free (by kernel_rfl)) (Rq.seq (by kernel_rfl) (Rq.free (by kernel_rfl)) (Rq.seqJ (spec_l02Drawn.j11 Post) (by kernel_rfl) (seg (fun _ _ => by kernel_rfl)) (Rq.free (by kernel_rfl))
(Rq.seq (by kernel_rfl) (Rq.seq (by kernel_rfl) (Rq.free (by kernel_rfl)) (Rq.block (Rq.loop (spec_l02Drawn.l12 Post) (by kernel_rfl) (segL (g := spec_l02Drawn.g12) tau_ok mixed (Λ := fun N12 => lookL []) (fun _ _ _ => by kernel_rfl) (fun N12 => (Rq.free (by kernel_rfl))))))) (Rq.free (by kernel_rfl))))))
    (Eq.mp (by kernel_rfl) H)

def spec_A2Filter.S (code_0b : Option Addr) (code_0l code_0c : Nat) (Post : Value → Heap → Prop) (h : Heap) : Prop :=
    ALC ⟨Z_impl_Filter⟩ T_impl_Filter (fun g1 h2 =>
    CALL prg f_spec_l00From #[.slice code_0b code_0l code_0c] (fun q3 h4 =>
    asP q3 fun p5 =>
    CALL prg f_spec_l02Drawn #[.pointer (some p5)] (fun q6 h7 =>
    asA q6 fun a8 =>
    STA 6 h7 ⟨g1, 0, none⟩ a8 fun h9 =>
    LDA 6 h9 ⟨g1, 0, none⟩ fun a10 =>
    Post (.agg a10) h9) h4) h2) h
noncomputable def spec_A2Filter.code : Code := (Tryz.f6.body).getD .skip
theorem spec_A2Filter.call {code_0b : Option Addr} {code_0l code_0c : Nat} {Post : Value → Heap → Prop} {h : Heap} (H : spec_A2Filter.S code_0b code_0l code_0c Post h) : CALL prg f_spec_A2Filter #[.slice code_0b code_0l code_0c] Post h :=
  fn_call tau_ok mixed (c := spec_A2Filter.code) (Λ := lookL []) Tryz.func6 (by kernel_rfl) (by kernel_rfl)
    (Rq.free (by kernel_rfl))
    (Eq.mp (by kernel_rfl) H)

def spec_A2Filters.B4 (Post : Value → Heap → Prop) (N4 : (Addr × Option Addr × Nat × Nat × Int) → Heap → Prop) : Addr × Option Addr × Nat × Nat × Int → Heap → Prop
  | (s_5, out_6b, out_6l, out_6c, k_7), h =>
    BIF ((decide ((0 : Int) < k_7))) (
    CALL prg f_spec_l02Drawn #[.pointer (some s_5)] (fun q9 h10 =>
    asA q9 fun a11 =>
    SIZ (Array.size a11) 6 <|
    ALC ⟨(splice 0 6 a11 [.int .i64 (0 : Int), .float .f32 0, .float .f32 0, .float .f32 0, .float .f32 0, .float .f32 0])⟩ T_impl_Filter (fun g12 h13 =>
    SEMV prg (Builtin.append_ #[T_sl_impl_Filter, T_sl_impl_Filter] T_sl_impl_Filter #[.slice out_6b out_6l out_6c, .slice (some ⟨g12, 0, none⟩) 1 1]) (fun q14 h15 =>
    asL q14 fun l16b l16l l16c =>
    N4 (s_5, l16b, l16l, l16c, ((IntKind.i64.wrap (k_7 - (1 : Int))))) h15) h13) h10) h) (
    Post (.slice out_6b out_6l out_6c) h)
def spec_A2Filters.g4 (fr : Frame) : Addr × Option Addr × Nat × Nat × Int := ((gP (lget fr 5)), (gLb (lget fr 6)), (gLl (lget fr 6)), (gLc (lget fr 6)), (gI (lget fr 7)))
def spec_A2Filters.l4 (Post : Value → Heap → Prop) : Frame → Heap → Prop := fun fr h => GRD (shape (kds 25 [(5, .p), (6, .l), (7, .i .i64)]) fr) (LOOP (spec_A2Filters.B4 Post) (spec_A2Filters.g4 fr) h)
def spec_A2Filters.S (code_0b : Option Addr) (code_0l code_0c : Nat) (most_1 : Int) (Post : Value → Heap → Prop) (h : Heap) : Prop :=
    CALL prg f_spec_l00From #[.slice code_0b code_0l code_0c] (fun q1 h2 =>
    asP q1 fun p3 =>
    ALC ⟨[]⟩ T_impl_Filter (fun g4 h5 =>
    CALL prg f_p_spec_l00Src_pick #[.pointer (some p3), .int .i64 ((IntKind.i64.wrap (most_1 + (1 : Int))))] (fun q6 h7 =>
    asI .i64 q6 fun n8 =>
    LOOP (spec_A2Filters.B4 Post) (p3, (some ⟨g4, 0, none⟩), 0, 0, n8) h7) h5) h2) h
noncomputable def spec_A2Filters.code : Code := (Tryz.f13.body).getD .skip
theorem spec_A2Filters.call {code_0b : Option Addr} {code_0l code_0c : Nat} {most_1 : Int} {Post : Value → Heap → Prop} {h : Heap} (H : spec_A2Filters.S code_0b code_0l code_0c most_1 Post h) : CALL prg f_spec_A2Filters #[.slice code_0b code_0l code_0c, .int .i64 most_1] Post h :=
  fn_call tau_ok mixed (c := spec_A2Filters.code) (Λ := lookL [(1000004, spec_A2Filters.l4 Post)]) Tryz.func13 (by kernel_rfl) (by kernel_rfl)
    (Rq.seq (by kernel_rfl) (Rq.free (by kernel_rfl)) (Rq.seq (by kernel_rfl) (Rq.free (by kernel_rfl)) (Rq.seq (by kernel_rfl) (Rq.free (by kernel_rfl)) (Rq.seq (by kernel_rfl) (Rq.seq (by kernel_rfl) (Rq.free (by kernel_rfl)) (Rq.block (Rq.loop (spec_A2Filters.l4 Post) (by kernel_rfl) (segL (g := spec_A2Filters.g4) tau_ok mixed (Λ := fun N4 => lookL []) (fun _ _ _ => by kernel_rfl) (fun N4 => (Rq.free (by kernel_rfl))))))) (Rq.free (by kernel_rfl))))))
    (Eq.mp (by kernel_rfl) H)

end Go.Sx
