/- What functions of this seat's program compute, told in words (a predicate over heaps for each), and the proofs that the words are no more than the code's own weakest precondition. -/
import Derived.Test.YtnjbecdfoiiaoaaGreatDoorTab
namespace Go.Sx
open Go.Proofs
set_option linter.unusedVariables false
set_option maxRecDepth 100000

def spec_l04Ok.B10 (Post : Value → Heap → Prop) (N10 : (Addr × Int × Int) → Heap → Prop) : Addr × Int × Int → Heap → Prop
  | (x_0, n_3, i_5), h =>
    BIF ((decide (i_5 < (IntKind.i64.wrap (n_3 - (1 : Int)))))) (
    oL (cell h (Addr.add x_0 2)) fun l28b l28l l28c =>
    IDXS l28b i_5 l28l fun p29 =>
    oF .f32 (cell h ((Addr.add p29 ((Int.toNat i_5) * 1)))) fun r30 =>
    BIF (FloatKind.f32.format.order r30 3212836864 == some .gt || FloatKind.f32.format.order r30 3212836864 == some .eq) (
    oL (cell h (Addr.add x_0 2)) fun l31b l31l l31c =>
    IDXS l31b i_5 l31l fun p32 =>
    oF .f32 (cell h ((Addr.add p32 ((Int.toNat i_5) * 1)))) fun r33 =>
    BIF (!(FloatKind.f32.format.order r33 1065353216 == some .lt || FloatKind.f32.format.order r33 1065353216 == some .eq)) (
    Post (.bool false) h) (
    N10 (x_0, n_3, ((IntKind.i64.wrap (i_5 + (1 : Int))))) h)) (
    Post (.bool false) h)) (
    CALL prg f_spec_l02Ok #[.pointer (some (Addr.add x_0 3))] (fun q34 h35 =>
    asB q34 fun b36 =>
    BIF b36 (
    oI .i64 (cell h35 (Addr.add x_0 3)) fun n37 =>
    BIF (n37 == (1 : Int)) (
    oF .f32 (cell h35 (Addr.add x_0 10)) fun r38 =>
    oF .f32 (cell h35 (Addr.add x_0 11)) fun r39 =>
    oF .f32 (cell h35 (Addr.add x_0 12)) fun r40 =>
    ALC ⟨[.float .f32 r38, .float .f32 r39, .float .f32 r40]⟩ T_float32 (fun g41 h42 =>
    CALL prg f_spec_l04All #[.slice (some ⟨g41, 0, none⟩) 3 3] (fun q43 h44 =>
    asB q43 fun b45 =>
    Post (.bool b45) h44) h42) h35) (
    Post (.bool false) h35)) (
    Post (.bool false) h35)) h)
def spec_l04Ok.g10 (fr : Frame) : Addr × Int × Int := ((gP (lget fr 0)), (gI (lget fr 3)), (gI (lget fr 5)))
def spec_l04Ok.l10 (Post : Value → Heap → Prop) : Frame → Heap → Prop := fun fr h => GRD (shape (kds 129 [(0, .p), (3, .i .i64), (5, .i .i64)]) fr) (LOOP (spec_l04Ok.B10 Post) (spec_l04Ok.g10 fr) h)
def spec_l04Ok.B5 (Post : Value → Heap → Prop) (N5 : (Addr × Int × Int) → Heap → Prop) : Addr × Int × Int → Heap → Prop
  | (x_0, n_3, i_4), h =>
    BIF (decide (i_4 < n_3)) (
    oL (cell h x_0) fun l18b l18l l18c =>
    IDXS l18b i_4 l18l fun p19 =>
    oL (cell h ((Addr.add p19 ((Int.toNat i_4) * 2)))) fun l20b l20l l20c =>
    oL (cell h (Addr.add x_0 1)) fun l23b l23l l23c =>
    IDXS l23b i_4 l23l fun p24 =>
    oL (cell h ((Addr.add p24 ((Int.toNat i_4) * 2)))) fun l25b l25l l25c =>
    BIF ((l20l : Int) != (l25l : Int)) (
    Post (.bool false) h) (
    N5 (x_0, n_3, ((IntKind.i64.wrap (i_4 + (1 : Int))))) h)) (
    LOOP (spec_l04Ok.B10 Post) (x_0, n_3, (0 : Int)) h)
def spec_l04Ok.g5 (fr : Frame) : Addr × Int × Int := ((gP (lget fr 0)), (gI (lget fr 3)), (gI (lget fr 4)))
def spec_l04Ok.l5 (Post : Value → Heap → Prop) : Frame → Heap → Prop := fun fr h => GRD (shape (kds 129 [(0, .p), (3, .i .i64), (4, .i .i64)]) fr) (LOOP (spec_l04Ok.B5 Post) (spec_l04Ok.g5 fr) h)
def spec_l04Ok.J4 (Post : Value → Heap → Prop) (x_0 : Addr) (n_3 : Int) (h : Heap) : Prop :=
    LOOP (spec_l04Ok.B5 Post) (x_0, n_3, (0 : Int)) h
def spec_l04Ok.j4 (Post : Value → Heap → Prop) : Frame → Heap → Prop := fun fr h => GRD (shape (kds 129 [(0, .p), (3, .i .i64)]) fr) (spec_l04Ok.J4 Post (gP (lget fr 0)) (gI (lget fr 3)) h)
def spec_l04Ok.S (x_0 : Addr) (Post : Value → Heap → Prop) (h : Heap) : Prop :=
    oL (cell h x_0) fun l1b l1l l1c =>
    BIF ((decide ((l1l : Int) < (1 : Int)))) (
    Post (.bool false) h) (
    BIF ((decide ((3 : Int) < (l1l : Int)))) (
    Post (.bool false) h) (
    oL (cell h (Addr.add x_0 1)) fun l4b l4l l4c =>
    BIF ((l4l : Int) != (l1l : Int)) (
    Post (.bool false) h) (
    oL (cell h (Addr.add x_0 2)) fun l7b l7l l7c =>
    BIF (((l7l : Int) != (IntKind.i64.wrap ((l1l : Int) - (1 : Int))))) (
    Post (.bool false) h) (
    oL (cell h x_0) fun l10b l10l l10c =>
    CALL prg f_spec_l04Rings #[.slice l10b l10l l10c] (fun q11 h12 =>
    asB q11 fun b13 =>
    BIF (!b13) (
    Post (.bool false) h12) (
    oL (cell h12 (Addr.add x_0 1)) fun l14b l14l l14c =>
    CALL prg f_spec_l04Rings #[.slice l14b l14l l14c] (fun q15 h16 =>
    asB q15 fun b17 =>
    BIF (!b17) (
    Post (.bool false) h16) (
    spec_l04Ok.J4 Post x_0 (l1l : Int) h16)) h12)) h))))
noncomputable def spec_l04Ok.code : Code := (Tryz.f169.body).getD .skip
theorem spec_l04Ok.call {x_0 : Addr} {Post : Value → Heap → Prop} {h : Heap} (H : spec_l04Ok.S x_0 Post h) : CALL prg f_spec_l04Ok #[.pointer (some x_0)] Post h :=
  fn_call tau_ok mixed (c := spec_l04Ok.code) (Λ := lookL [(4, spec_l04Ok.j4 Post), (1000005, spec_l04Ok.l5 Post), (1000010, spec_l04Ok.l10 Post)]) Tryz.func169 (by kernel_rfl) (by kernel_rfl)
    (Rq.seq (by kernel_rfl) (Rq.free (by kernel_rfl)) (Rq.seq (by kernel_rfl) (Rq.free (by kernel_rfl)) (Rq.seqJ (spec_l04Ok.j4 Post) (by kernel_rfl) (seg (fun _ _ => by kernel_rfl)) (Rq.free (by kernel_rfl))
(Rq.seq (by kernel_rfl) (Rq.seq (by kernel_rfl) (Rq.free (by kernel_rfl)) (Rq.block (Rq.loop (spec_l04Ok.l5 Post) (by kernel_rfl) (segL (g := spec_l04Ok.g5) tau_ok mixed (Λ := fun N5 => lookL []) (fun _ _ _ => by kernel_rfl) (fun N5 => (Rq.free (by kernel_rfl))))))) (Rq.seq (by kernel_rfl) (Rq.seq (by kernel_rfl) (Rq.free (by kernel_rfl)) (Rq.block (Rq.loop (spec_l04Ok.l10 Post) (by kernel_rfl) (segL (g := spec_l04Ok.g10) tau_ok mixed (Λ := fun N10 => lookL []) (fun _ _ _ => by kernel_rfl) (fun N10 => (Rq.free (by kernel_rfl))))))) (Rq.free (by kernel_rfl)))))))
    (Eq.mp (by kernel_rfl) H)

def impl_ValidPipe_c1.S (k_0 : Nat) (Post : Value → Heap → Prop) (h : Heap) : Prop :=
    CALL prg f_impl_inside #[.float .f32 k_0, .float .f32 3212836864, .float .f32 1065353216] (fun q1 h2 =>
    asB q1 fun b3 =>
    Post (.bool (!b3)) h2) h
noncomputable def impl_ValidPipe_c1.code : Code := (Tryz.f253.body).getD .skip
theorem impl_ValidPipe_c1.call {k_0 : Nat} {Post : Value → Heap → Prop} {h : Heap} (H : impl_ValidPipe_c1.S k_0 Post h) : CALL prg f_impl_ValidPipe_c1 #[.float .f32 k_0] Post h :=
  fn_call tau_ok mixed (c := impl_ValidPipe_c1.code) (Λ := lookL []) Tryz.func253 (by kernel_rfl) (by kernel_rfl)
    (Rq.free (by kernel_rfl))
    (Eq.mp (by kernel_rfl) H)

def impl_ValidPipe.B5 (Post : Value → Heap → Prop) (N5 : (Addr × Option Addr × Nat × Nat × Int × Int) → Heap → Prop) : Addr × Option Addr × Nat × Nat × Int × Int → Heap → Prop
  | (x_1, t45b, t45l, t45c, t46, t47), h =>
    BIF (decide (t47 < t46)) (
    IDXS t45b t47 t45l fun p30 =>
    LDA 2 h ((Addr.add p30 ((Int.toNat t47) * 2))) fun a31 =>
    ALC ⟨Z_impl_Ring⟩ T_impl_Ring (fun g32 h33 =>
    STA 2 h33 ⟨g32, 0, none⟩ a31 fun h34 =>
    LDA 2 h34 ⟨g32, 0, none⟩ fun a35 =>
    CALL prg f_impl_isRing #[.agg a35] (fun q36 h37 =>
    asB q36 fun b38 =>
    BIF (!b38) (
    Post (.bool false) h37) (
    oL (cell h37 (Addr.add x_1 1)) fun l39b l39l l39c =>
    IDXS l39b t47 l39l fun p40 =>
    LDA 2 h37 ((Addr.add p40 ((Int.toNat t47) * 2))) fun a41 =>
    CALL prg f_impl_isRing #[.agg a41] (fun q42 h43 =>
    asB q42 fun b44 =>
    BIF (!b44) (
    Post (.bool false) h43) (
    oL (cell h43 ⟨g32, 0, none⟩) fun l45b l45l l45c =>
    oL (cell h43 (Addr.add x_1 1)) fun l48b l48l l48c =>
    IDXS l48b t47 l48l fun p49 =>
    oL (cell h43 ((Addr.add p49 ((Int.toNat t47) * 2)))) fun l50b l50l l50c =>
    BIF ((l45l : Int) != (l50l : Int)) (
    Post (.bool false) h43) (
    N5 (x_1, t45b, t45l, t45c, t46, ((IntKind.i64.wrap (t47 + (1 : Int))))) h43))) h37)) h34) h) (
    oL (cell h (Addr.add x_1 2)) fun l53b l53l l53c =>
    CALL prg f_slices_ContainsFunc_sl_float32_float32 #[.slice l53b l53l l53c, .func (.func 253) #[] #[]] (fun q54 h55 =>
    asB q54 fun b56 =>
    Post (.bool (!b56)) h55) h)
def impl_ValidPipe.g5 (fr : Frame) : Addr × Option Addr × Nat × Nat × Int × Int := ((gP (lget fr 1)), (gLb (lget fr 45)), (gLl (lget fr 45)), (gLc (lget fr 45)), (gI (lget fr 46)), (gI (lget fr 47)))
def impl_ValidPipe.l5 (Post : Value → Heap → Prop) : Frame → Heap → Prop := fun fr h => GRD (shape (kds 82 [(1, .p), (45, .l), (46, .i .i64), (47, .i .i64)]) fr) (LOOP (impl_ValidPipe.B5 Post) (impl_ValidPipe.g5 fr) h)
def impl_ValidPipe.J4 (Post : Value → Heap → Prop) (x_1 : Addr) (h : Heap) : Prop :=
    oL (cell h x_1) fun l27b l27l l27c =>
    LOOP (impl_ValidPipe.B5 Post) (x_1, l27b, l27l, l27c, (l27l : Int), (0 : Int)) h
def impl_ValidPipe.j4 (Post : Value → Heap → Prop) : Frame → Heap → Prop := fun fr h => GRD (shape (kds 82 [(1, .p)]) fr) (impl_ValidPipe.J4 Post (gP (lget fr 1)) h)
def impl_ValidPipe.S (x_0 : Array Value) (Post : Value → Heap → Prop) (h : Heap) : Prop :=
    ALC x_0 T_impl_Pipe (fun g1 h2 =>
    oL (cell h2 ⟨g1, 0, none⟩) fun l3b l3l l3c =>
    CALL prg f_impl_within #[.int .i64 (l3l : Int), .int .i64 (1 : Int), .int .i64 (3 : Int)] (fun q6 h7 =>
    asB q6 fun b8 =>
    BIF (!b8) (
    Post (.bool false) h7) (
    oL (cell h7 ⟨g1, 1, none⟩) fun l9b l9l l9c =>
    BIF ((l9l : Int) != (l3l : Int)) (
    Post (.bool false) h7) (
    oL (cell h7 ⟨g1, 2, none⟩) fun l12b l12l l12c =>
    BIF (((l12l : Int) != (IntKind.i64.wrap ((l3l : Int) - (1 : Int))))) (
    Post (.bool false) h7) (
    LDA 6 h7 ⟨g1, 3, none⟩ fun a15 =>
    CALL prg f_impl_isFilter #[.agg a15, .int .i64 (1 : Int)] (fun q16 h17 =>
    asB q16 fun b18 =>
    BIF (!b18) (
    Post (.bool false) h17) (
    oF .f32 (cell h17 ⟨g1, 10, none⟩) fun r19 =>
    oF .f32 (cell h17 ⟨g1, 11, none⟩) fun r20 =>
    oF .f32 (cell h17 ⟨g1, 12, none⟩) fun r21 =>
    ALC ⟨[.float .f32 r19, .float .f32 r20, .float .f32 r21]⟩ T_float32 (fun g22 h23 =>
    CALL prg f_impl_areFinite #[.slice (some ⟨g22, 0, none⟩) 3 3] (fun q24 h25 =>
    asB q24 fun b26 =>
    BIF (!b26) (
    Post (.bool false) h25) (
    impl_ValidPipe.J4 Post ⟨g1, 0, none⟩ h25)) h23) h17)) h7)))) h2) h
noncomputable def impl_ValidPipe.code : Code := (Tryz.f179.body).getD .skip
theorem impl_ValidPipe.call {x_0 : Array Value} {Post : Value → Heap → Prop} {h : Heap} (H : impl_ValidPipe.S x_0 Post h) : CALL prg f_impl_ValidPipe #[.agg x_0] Post h :=
  fn_call tau_ok mixed (c := impl_ValidPipe.code) (Λ := lookL [(4, impl_ValidPipe.j4 Post), (1000005, impl_ValidPipe.l5 Post)]) Tryz.func179 (by kernel_rfl) (by kernel_rfl)
    (Rq.seq (by kernel_rfl) (Rq.free (by kernel_rfl)) (Rq.seq (by kernel_rfl) (Rq.free (by kernel_rfl)) (Rq.seqJ (impl_ValidPipe.j4 Post) (by kernel_rfl) (seg (fun _ _ => by kernel_rfl)) (Rq.free (by kernel_rfl))
(Rq.seq (by kernel_rfl) (Rq.seq (by kernel_rfl) (Rq.free (by kernel_rfl)) (Rq.block (Rq.loop (impl_ValidPipe.l5 Post) (by kernel_rfl) (segL (g := impl_ValidPipe.g5) tau_ok mixed (Λ := fun N5 => lookL []) (fun _ _ _ => by kernel_rfl) (fun N5 => (Rq.free (by kernel_rfl))))))) (Rq.free (by kernel_rfl))))))
    (Eq.mp (by kernel_rfl) H)

end Go.Sx
