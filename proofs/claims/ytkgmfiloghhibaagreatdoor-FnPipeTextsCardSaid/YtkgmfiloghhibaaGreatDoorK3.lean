/- What functions of this seat's program compute, told in words (a predicate over heaps for each), and the proofs that the words are no more than the code's own weakest precondition. -/
import Derived.Test.YtkgmfiloghhibaaGreatDoorTab
namespace Go.Sx
open Go.Proofs
set_option linter.unusedVariables false
set_option maxRecDepth 100000

def spec_l04Ok.B10 (Post : Value → Heap → Prop) (N10 : (Addr × Int × Int) → Heap → Prop) : Addr × Int × Int → Heap → Prop
  | (x_0, n_3, i_5), h =>
    BIF ((decide (i_5 < (IntKind.i64.wrap (n_3 - (1 : Int)))))) (
    oL (cell h (Addr.add x_0 2)) fun l28b l28l l28c =>
    IDXS l28b i_5 l28l fun p29 =>
    oF .f32 (cell h ((Addr.add p29 ((Int.toNat i_5) * 1)))) fun r30 =>
    BIF (FloatKind.f32.format.order r30 3212836864 == some .gt || FloatKind.f32.format.order r30 3212836864 == some .eq) (
    oL (cell h (Addr.add x_0 2)) fun l31b l31l l31c =>
    IDXS l31b i_5 l31l fun p32 =>
    oF .f32 (cell h ((Addr.add p32 ((Int.toNat i_5) * 1)))) fun r33 =>
    BIF (!(FloatKind.f32.format.order r33 1065353216 == some .lt || FloatKind.f32.format.order r33 1065353216 == some .eq)) (
    Post (.bool false) h) (
    N10 (x_0, n_3, ((IntKind.i64.wrap (i_5 + (1 : Int))))) h)) (
    Post (.bool false) h)) (
    CALL prg f_spec_l02Ok #[.pointer (some (Addr.add x_0 3))] (fun q34 h35 =>
    asB q34 fun b36 =>
    BIF b36 (
    oI .i64 (cell h35 (Addr.add x_0 3)) fun n37 =>
    BIF (n37 == (1 : Int)) (
    oF .f32 (cell h35 (Addr.add x_0 10)) fun r38 =>
    oF .f32 (cell h35 (Addr.add x_0 11)) fun r39 =>
    oF .f32 (cell h35 (Addr.add x_0 12)) fun r40 =>
    ALC ⟨[.float .f32 r38, .float .f32 r39, .float .f32 r40]⟩ T_float32 (fun g41 h42 =>
    CALL prg f_spec_l04All #[.slice (some ⟨g41, 0, none⟩) 3 3] (fun q43 h44 =>
    asB q43 fun b45 =>
    Post (.bool b45) h44) h42) h35) (
    Post (.bool false) h35)) (
    Post (.bool false) h35)) h)
def spec_l04Ok.g10 (fr : Frame) : Addr × Int × Int := ((gP (lget fr 0)), (gI (lget fr 3)), (gI (lget fr 5)))
def spec_l04Ok.l10 (Post : Value → Heap → Prop) : Frame → Heap → Prop := fun fr h => GRD (shape (kds 129 [(0, .p), (3, .i .i64), (5, .i .i64)]) fr) (LOOP (spec_l04Ok.B10 Post) (spec_l04Ok.g10 fr) h)
def spec_l04Ok.B5 (Post : Value → Heap → Prop) (N5 : (Addr × Int × Int) → Heap → Prop) : Addr × Int × Int → Heap → Prop
  | (x_0, n_3, i_4), h =>
    BIF (decide (i_4 < n_3)) (
    oL (cell h x_0) fun l18b l18l l18c =>
    IDXS l18b i_4 l18l fun p19 =>
    oL (cell h ((Addr.add p19 ((Int.toNat i_4) * 2)))) fun l20b l20l l20c =>
    oL (cell h (Addr.add x_0 1)) fun l23b l23l l23c =>
    IDXS l23b i_4 l23l fun p24 =>
    oL (cell h ((Addr.add p24 ((Int.toNat i_4) * 2)))) fun l25b l25l l25c =>
    BIF ((l20l : Int) != (l25l : Int)) (
    Post (.bool false) h) (
    N5 (x_0, n_3, ((IntKind.i64.wrap (i_4 + (1 : Int))))) h)) (
    LOOP (spec_l04Ok.B10 Post) (x_0, n_3, (0 : Int)) h)
def spec_l04Ok.g5 (fr : Frame) : Addr × Int × Int := ((gP (lget fr 0)), (gI (lget fr 3)), (gI (lget fr 4)))
def spec_l04Ok.l5 (Post : Value → Heap → Prop) : Frame → Heap → Prop := fun fr h => GRD (shape (kds 129 [(0, .p), (3, .i .i64), (4, .i .i64)]) fr) (LOOP (spec_l04Ok.B5 Post) (spec_l04Ok.g5 fr) h)
def spec_l04Ok.J4 (Post : Value → Heap → Prop) (x_0 : Addr) (n_3 : Int) (h : Heap) : Prop :=
    LOOP (spec_l04Ok.B5 Post) (x_0, n_3, (0 : Int)) h
def spec_l04Ok.j4 (Post : Value → Heap → Prop) : Frame → Heap → Prop := fun fr h => GRD (shape (kds 129 [(0, .p), (3, .i .i64)]) fr) (spec_l04Ok.J4 Post (gP (lget fr 0)) (gI (lget fr 3)) h)
def spec_l04Ok.S (x_0 : Addr) (Post : Value → Heap → Prop) (h : Heap) : Prop :=
    oL (cell h x_0) fun l1b l1l l1c =>
    BIF ((decide ((l1l : Int) < (1 : Int)))) (
    Post (.bool false) h) (
    BIF ((decide ((3 : Int) < (l1l : Int)))) (
    Post (.bool false) h) (
    oL (cell h (Addr.add x_0 1)) fun l4b l4l l4c =>
    BIF ((l4l : Int) != (l1l : Int)) (
    Post (.bool false) h) (
    oL (cell h (Addr.add x_0 2)) fun l7b l7l l7c =>
    BIF (((l7l : Int) != (IntKind.i64.wrap ((l1l : Int) - (1 : Int))))) (
    Post (.bool false) h) (
    oL (cell h x_0) fun l10b l10l l10c =>
    CALL prg f_spec_l04Rings #[.slice l10b l10l l10c] (fun q11 h12 =>
    asB q11 fun b13 =>
    BIF (!b13) (
    Post (.bool false) h12) (
    oL (cell h12 (Addr.add x_0 1)) fun l14b l14l l14c =>
    CALL prg f_spec_l04Rings #[.slice l14b l14l l14c] (fun q15 h16 =>
    asB q15 fun b17 =>
    BIF (!b17) (
    Post (.bool false) h16) (
    spec_l04Ok.J4 Post x_0 (l1l : Int) h16)) h12)) h))))
noncomputable def spec_l04Ok.code : Code := (Tryz.f51.body).getD .skip
theorem spec_l04Ok.call {x_0 : Addr} {Post : Value → Heap → Prop} {h : Heap} (H : spec_l04Ok.S x_0 Post h) : CALL prg f_spec_l04Ok #[.pointer (some x_0)] Post h :=
  fn_call tau_ok mixed (c := spec_l04Ok.code) (Λ := lookL [(4, spec_l04Ok.j4 Post), (1000005, spec_l04Ok.l5 Post), (1000010, spec_l04Ok.l10 Post)]) Tryz.func51 (by kernel_rfl) (by kernel_rfl)
    (Rq.seq (by kernel_rfl) (Rq.free (by kernel_rfl)) (Rq.seq (by kernel_rfl) (Rq.free (by kernel_rfl)) (Rq.seqJ (spec_l04Ok.j4 Post) (by kernel_rfl) (seg (fun _ _ => by kernel_rfl)) (Rq.free (by kernel_rfl))
(Rq.seq (by kernel_rfl) (Rq.seq (by kernel_rfl) (Rq.free (by kernel_rfl)) (Rq.block (Rq.loop (spec_l04Ok.l5 Post) (by kernel_rfl) (segL (g := spec_l04Ok.g5) tau_ok mixed (Λ := fun N5 => lookL []) (fun _ _ _ => by kernel_rfl) (fun N5 => (Rq.free (by kernel_rfl))))))) (Rq.seq (by kernel_rfl) (Rq.seq (by kernel_rfl) (Rq.free (by kernel_rfl)) (Rq.block (Rq.loop (spec_l04Ok.l10 Post) (by kernel_rfl) (segL (g := spec_l04Ok.g10) tau_ok mixed (Λ := fun N10 => lookL []) (fun _ _ _ => by kernel_rfl) (fun N10 => (Rq.free (by kernel_rfl))))))) (Rq.free (by kernel_rfl)))))))
    (Eq.mp (by kernel_rfl) H)

def spec_l04Copies.B3 (Post : Value → Heap → Prop) (N3 : (Option Addr × Nat × Nat × Option Addr × Nat × Nat × Int) → Heap → Prop) : Option Addr × Nat × Nat × Option Addr × Nat × Nat × Int → Heap → Prop
  | (list_0b, list_0l, list_0c, out_3b, out_3l, out_3c, i_4), h =>
    BIF ((decide (i_4 < (list_0l : Int)))) (
    IDXS list_0b i_4 list_0l fun p5 =>
    CALL prg f_spec_l02Copy #[.pointer (some ((Addr.add p5 ((Int.toNat i_4) * 2))))] (fun q6 h7 =>
    asA q6 fun a8 =>
    SIZ (Array.size a8) 2 <|
    ALC ⟨(splice 0 2 a8 [.slice none 0 0, .int .i64 (0 : Int)])⟩ T_impl_Ring (fun g9 h10 =>
    SEMV prg (Builtin.append_ #[T_sl_impl_Ring, T_sl_impl_Ring] T_sl_impl_Ring #[.slice out_3b out_3l out_3c, .slice (some ⟨g9, 0, none⟩) 1 1]) (fun q11 h12 =>
    asL q11 fun l13b l13l l13c =>
    N3 (list_0b, list_0l, list_0c, l13b, l13l, l13c, ((IntKind.i64.wrap (i_4 + (1 : Int))))) h12) h10) h7) h) (
    Post (.slice out_3b out_3l out_3c) h)
def spec_l04Copies.g3 (fr : Frame) : Option Addr × Nat × Nat × Option Addr × Nat × Nat × Int := ((gLb (lget fr 0)), (gLl (lget fr 0)), (gLc (lget fr 0)), (gLb (lget fr 3)), (gLl (lget fr 3)), (gLc (lget fr 3)), (gI (lget fr 4)))
def spec_l04Copies.l3 (Post : Value → Heap → Prop) : Frame → Heap → Prop := fun fr h => GRD (shape (kds 20 [(0, .l), (3, .l), (4, .i .i64)]) fr) (LOOP (spec_l04Copies.B3 Post) (spec_l04Copies.g3 fr) h)
def spec_l04Copies.S (list_0b : Option Addr) (list_0l list_0c : Nat) (Post : Value → Heap → Prop) (h : Heap) : Prop :=
    ALC ⟨[]⟩ T_impl_Ring (fun g1 h2 =>
    LOOP (spec_l04Copies.B3 Post) (list_0b, list_0l, list_0c, (some ⟨g1, 0, none⟩), 0, 0, (0 : Int)) h2) h
noncomputable def spec_l04Copies.code : Code := (Tryz.f115.body).getD .skip
theorem spec_l04Copies.call {list_0b : Option Addr} {list_0l list_0c : Nat} {Post : Value → Heap → Prop} {h : Heap} (H : spec_l04Copies.S list_0b list_0l list_0c Post h) : CALL prg f_spec_l04Copies #[.slice list_0b list_0l list_0c] Post h :=
  fn_call tau_ok mixed (c := spec_l04Copies.code) (Λ := lookL [(1000003, spec_l04Copies.l3 Post)]) Tryz.func115 (by kernel_rfl) (by kernel_rfl)
    (Rq.seq (by kernel_rfl) (Rq.free (by kernel_rfl)) (Rq.seq (by kernel_rfl) (Rq.free (by kernel_rfl)) (Rq.seq (by kernel_rfl) (Rq.seq (by kernel_rfl) (Rq.free (by kernel_rfl)) (Rq.block (Rq.loop (spec_l04Copies.l3 Post) (by kernel_rfl) (segL (g := spec_l04Copies.g3) tau_ok mixed (Λ := fun N3 => lookL []) (fun _ _ _ => by kernel_rfl) (fun N3 => (Rq.free (by kernel_rfl))))))) (Rq.free (by kernel_rfl)))))
    (Eq.mp (by kernel_rfl) H)

def spec_l04Copy.S (x_0 : Addr) (Post : Value → Heap → Prop) (h : Heap) : Prop :=
    ALC ⟨Z_impl_Pipe⟩ T_impl_Pipe (fun g1 h2 =>
    oL (cell h2 x_0) fun l3b l3l l3c =>
    oL (cell h2 (Addr.add x_0 1)) fun l4b l4l l4c =>
    oL (cell h2 (Addr.add x_0 2)) fun l5b l5l l5c =>
    LDA 6 h2 (Addr.add x_0 3) fun a6 =>
    oB (cell h2 (Addr.add x_0 9)) fun b7 =>
    oF .f32 (cell h2 (Addr.add x_0 10)) fun r8 =>
    oF .f32 (cell h2 (Addr.add x_0 11)) fun r9 =>
    oF .f32 (cell h2 (Addr.add x_0 12)) fun r10 =>
    (CALL prg f_spec_l04Copies #[.slice l3b l3l l3c] (fun q11 h12 =>
    asL q11 fun l13b l13l l13c =>
    PIN h2 (Addr.add x_0 12) 1 h12 <|
    PIN h2 (Addr.add x_0 11) 1 h12 <|
    PIN h2 (Addr.add x_0 10) 1 h12 <|
    PIN h2 (Addr.add x_0 9) 1 h12 <|
    PIN h2 (Addr.add x_0 3) 6 h12 <|
    PIN h2 (Addr.add x_0 2) 1 h12 <|
    PIN h2 (Addr.add x_0 1) 1 h12 <|
    (CALL prg f_spec_l04Copies #[.slice l4b l4l l4c] (fun q14 h15 =>
    asL q14 fun l16b l16l l16c =>
    PIN h2 (Addr.add x_0 12) 1 h15 <|
    PIN h2 (Addr.add x_0 11) 1 h15 <|
    PIN h2 (Addr.add x_0 10) 1 h15 <|
    PIN h2 (Addr.add x_0 9) 1 h15 <|
    PIN h2 (Addr.add x_0 3) 6 h15 <|
    PIN h2 (Addr.add x_0 2) 1 h15 <|
    ALC ⟨[]⟩ T_float32 (fun g17 h18 =>
    PIN h2 (Addr.add x_0 12) 1 h18 <|
    PIN h2 (Addr.add x_0 11) 1 h18 <|
    PIN h2 (Addr.add x_0 10) 1 h18 <|
    PIN h2 (Addr.add x_0 9) 1 h18 <|
    PIN h2 (Addr.add x_0 3) 6 h18 <|
    PIN h2 (Addr.add x_0 2) 1 h18 <|
    PIN h2 (Addr.add x_0 1) 1 h18 <|
    PIN h2 x_0 1 h18 <|
    SEMV prg (Builtin.append_ #[T_sl_float32, T_sl_float32] T_sl_float32 #[.slice (some ⟨g17, 0, none⟩) 0 0, .slice l5b l5l l5c]) (fun q19 h20 =>
    asL q19 fun l21b l21l l21c =>
    PIN h2 (Addr.add x_0 12) 1 h20 <|
    PIN h2 (Addr.add x_0 11) 1 h20 <|
    PIN h2 (Addr.add x_0 10) 1 h20 <|
    PIN h2 (Addr.add x_0 9) 1 h20 <|
    PIN h2 (Addr.add x_0 3) 6 h20 <|
    SIZ (Array.size a6) 6 <|
    STA 13 h20 ⟨g1, 0, none⟩ ⟨(List.set (List.set (List.set (List.set (splice 3 6 a6 [.slice l13b l13l l13c, .slice l16b l16l l16c, .slice l21b l21l l21c, .int .i64 (0 : Int), .float .f32 0, .float .f32 0, .float .f32 0, .float .f32 0, .float .f32 0, .bool false, .float .f32 0, .float .f32 0, .float .f32 0]) 9 (.bool b7)) 10 (.float .f32 r8)) 11 (.float .f32 r9)) 12 (.float .f32 r10))⟩ fun h22 =>
    LDA 13 h22 ⟨g1, 0, none⟩ fun a23 =>
    Post (.agg a23) h22) h18) h15) h12) ∧ (ALC ⟨[]⟩ T_float32 (fun g24 h25 =>
    PIN h2 (Addr.add x_0 12) 1 h25 <|
    PIN h2 (Addr.add x_0 11) 1 h25 <|
    PIN h2 (Addr.add x_0 10) 1 h25 <|
    PIN h2 (Addr.add x_0 9) 1 h25 <|
    PIN h2 (Addr.add x_0 3) 6 h25 <|
    PIN h2 (Addr.add x_0 2) 1 h25 <|
    PIN h2 (Addr.add x_0 1) 1 h25 <|
    PIN h2 x_0 1 h25 <|
    CALL prg f_spec_l04Copies #[.slice l4b l4l l4c] (fun q26 h27 =>
    asL q26 fun l28b l28l l28c =>
    PIN h2 (Addr.add x_0 12) 1 h27 <|
    PIN h2 (Addr.add x_0 11) 1 h27 <|
    PIN h2 (Addr.add x_0 10) 1 h27 <|
    PIN h2 (Addr.add x_0 9) 1 h27 <|
    PIN h2 (Addr.add x_0 3) 6 h27 <|
    PIN h2 (Addr.add x_0 2) 1 h27 <|
    SEMV prg (Builtin.append_ #[T_sl_float32, T_sl_float32] T_sl_float32 #[.slice (some ⟨g24, 0, none⟩) 0 0, .slice l5b l5l l5c]) (fun q29 h30 =>
    asL q29 fun l31b l31l l31c =>
    PIN h2 (Addr.add x_0 12) 1 h30 <|
    PIN h2 (Addr.add x_0 11) 1 h30 <|
    PIN h2 (Addr.add x_0 10) 1 h30 <|
    PIN h2 (Addr.add x_0 9) 1 h30 <|
    PIN h2 (Addr.add x_0 3) 6 h30 <|
    SIZ (Array.size a6) 6 <|
    STA 13 h30 ⟨g1, 0, none⟩ ⟨(List.set (List.set (List.set (List.set (splice 3 6 a6 [.slice l13b l13l l13c, .slice l28b l28l l28c, .slice l31b l31l l31c, .int .i64 (0 : Int), .float .f32 0, .float .f32 0, .float .f32 0, .float .f32 0, .float .f32 0, .bool false, .float .f32 0, .float .f32 0, .float .f32 0]) 9 (.bool b7)) 10 (.float .f32 r8)) 11 (.float .f32 r9)) 12 (.float .f32 r10))⟩ fun h32 =>
    LDA 13 h32 ⟨g1, 0, none⟩ fun a33 =>
    Post (.agg a33) h32) h27) h25) h12)) h2) ∧ (ALC ⟨[]⟩ T_float32 (fun g34 h35 =>
    PIN h2 (Addr.add x_0 12) 1 h35 <|
    PIN h2 (Addr.add x_0 11) 1 h35 <|
    PIN h2 (Addr.add x_0 10) 1 h35 <|
    PIN h2 (Addr.add x_0 9) 1 h35 <|
    PIN h2 (Addr.add x_0 3) 6 h35 <|
    PIN h2 (Addr.add x_0 2) 1 h35 <|
    PIN h2 (Addr.add x_0 1) 1 h35 <|
    PIN h2 x_0 1 h35 <|
    CALL prg f_spec_l04Copies #[.slice l3b l3l l3c] (fun q36 h37 =>
    asL q36 fun l38b l38l l38c =>
    PIN h2 (Addr.add x_0 12) 1 h37 <|
    PIN h2 (Addr.add x_0 11) 1 h37 <|
    PIN h2 (Addr.add x_0 10) 1 h37 <|
    PIN h2 (Addr.add x_0 9) 1 h37 <|
    PIN h2 (Addr.add x_0 3) 6 h37 <|
    PIN h2 (Addr.add x_0 2) 1 h37 <|
    PIN h2 (Addr.add x_0 1) 1 h37 <|
    CALL prg f_spec_l04Copies #[.slice l4b l4l l4c] (fun q39 h40 =>
    asL q39 fun l41b l41l l41c =>
    PIN h2 (Addr.add x_0 12) 1 h40 <|
    PIN h2 (Addr.add x_0 11) 1 h40 <|
    PIN h2 (Addr.add x_0 10) 1 h40 <|
    PIN h2 (Addr.add x_0 9) 1 h40 <|
    PIN h2 (Addr.add x_0 3) 6 h40 <|
    PIN h2 (Addr.add x_0 2) 1 h40 <|
    SEMV prg (Builtin.append_ #[T_sl_float32, T_sl_float32] T_sl_float32 #[.slice (some ⟨g34, 0, none⟩) 0 0, .slice l5b l5l l5c]) (fun q42 h43 =>
    asL q42 fun l44b l44l l44c =>
    PIN h2 (Addr.add x_0 12) 1 h43 <|
    PIN h2 (Addr.add x_0 11) 1 h43 <|
    PIN h2 (Addr.add x_0 10) 1 h43 <|
    PIN h2 (Addr.add x_0 9) 1 h43 <|
    PIN h2 (Addr.add x_0 3) 6 h43 <|
    SIZ (Array.size a6) 6 <|
    STA 13 h43 ⟨g1, 0, none⟩ ⟨(List.set (List.set (List.set (List.set (splice 3 6 a6 [.slice l38b l38l l38c, .slice l41b l41l l41c, .slice l44b l44l l44c, .int .i64 (0 : Int), .float .f32 0, .float .f32 0, .float .f32 0, .float .f32 0, .float .f32 0, .bool false, .float .f32 0, .float .f32 0, .float .f32 0]) 9 (.bool b7)) 10 (.float .f32 r8)) 11 (.float .f32 r9)) 12 (.float .f32 r10))⟩ fun h45 =>
    LDA 13 h45 ⟨g1, 0, none⟩ fun a46 =>
    Post (.agg a46) h45) h40) h37) h35) h2)) h
noncomputable def spec_l04Copy.code : Code := (Tryz.f52.body).getD .skip
theorem spec_l04Copy.call {x_0 : Addr} {Post : Value → Heap → Prop} {h : Heap} (H : spec_l04Copy.S x_0 Post h) : CALL prg f_spec_l04Copy #[.pointer (some x_0)] Post h :=
  fn_call tau_ok mixed (c := spec_l04Copy.code) (Λ := lookL []) Tryz.func52 (by kernel_rfl) (by kernel_rfl)
    (Rq.free (by kernel_rfl))
    (Eq.mp (by kernel_rfl) H)

def spec_l04Oldest.B3 (Post : Value → Heap → Prop) (N3 : (Option Addr × Nat × Nat × Option Addr × Nat × Nat × Int) → Heap → Prop) : Option Addr × Nat × Nat × Option Addr × Nat × Nat × Int → Heap → Prop
  | (list_0b, list_0l, list_0c, out_3b, out_3l, out_3c, i_4), h =>
    BIF ((decide (i_4 < (list_0l : Int)))) (
    IDXS list_0b i_4 list_0l fun p5 =>
    oL (cell h ((Addr.add p5 ((Int.toNat i_4) * 2)))) fun l6b l6l l6c =>
    IDXS list_0b i_4 list_0l fun p7 =>
    oI .i64 (cell h ((Addr.add ((Addr.add p7 ((Int.toNat i_4) * 2))) 1))) fun n8 =>
    IDXS l6b n8 l6l fun p9 =>
    oF .f32 (cell h ((Addr.add p9 ((Int.toNat n8) * 1)))) fun r10 =>
    ALC ⟨[.float .f32 r10]⟩ T_float32 (fun g11 h12 =>
    SEMV prg (Builtin.append_ #[T_sl_float32, T_sl_float32] T_sl_float32 #[.slice out_3b out_3l out_3c, .slice (some ⟨g11, 0, none⟩) 1 1]) (fun q13 h14 =>
    asL q13 fun l15b l15l l15c =>
    N3 (list_0b, list_0l, list_0c, l15b, l15l, l15c, ((IntKind.i64.wrap (i_4 + (1 : Int))))) h14) h12) h) (
    Post (.slice out_3b out_3l out_3c) h)
def spec_l04Oldest.g3 (fr : Frame) : Option Addr × Nat × Nat × Option Addr × Nat × Nat × Int := ((gLb (lget fr 0)), (gLl (lget fr 0)), (gLc (lget fr 0)), (gLb (lget fr 3)), (gLl (lget fr 3)), (gLc (lget fr 3)), (gI (lget fr 4)))
def spec_l04Oldest.l3 (Post : Value → Heap → Prop) : Frame → Heap → Prop := fun fr h => GRD (shape (kds 28 [(0, .l), (3, .l), (4, .i .i64)]) fr) (LOOP (spec_l04Oldest.B3 Post) (spec_l04Oldest.g3 fr) h)
def spec_l04Oldest.S (list_0b : Option Addr) (list_0l list_0c : Nat) (Post : Value → Heap → Prop) (h : Heap) : Prop :=
    ALC ⟨[]⟩ T_float32 (fun g1 h2 =>
    LOOP (spec_l04Oldest.B3 Post) (list_0b, list_0l, list_0c, (some ⟨g1, 0, none⟩), 0, 0, (0 : Int)) h2) h
noncomputable def spec_l04Oldest.code : Code := (Tryz.f158.body).getD .skip
theorem spec_l04Oldest.call {list_0b : Option Addr} {list_0l list_0c : Nat} {Post : Value → Heap → Prop} {h : Heap} (H : spec_l04Oldest.S list_0b list_0l list_0c Post h) : CALL prg f_spec_l04Oldest #[.slice list_0b list_0l list_0c] Post h :=
  fn_call tau_ok mixed (c := spec_l04Oldest.code) (Λ := lookL [(1000003, spec_l04Oldest.l3 Post)]) Tryz.func158 (by kernel_rfl) (by kernel_rfl)
    (Rq.seq (by kernel_rfl) (Rq.free (by kernel_rfl)) (Rq.seq (by kernel_rfl) (Rq.free (by kernel_rfl)) (Rq.seq (by kernel_rfl) (Rq.seq (by kernel_rfl) (Rq.free (by kernel_rfl)) (Rq.block (Rq.loop (spec_l04Oldest.l3 Post) (by kernel_rfl) (segL (g := spec_l04Oldest.g3) tau_ok mixed (Λ := fun N3 => lookL []) (fun _ _ _ => by kernel_rfl) (fun N3 => (Rq.free (by kernel_rfl))))))) (Rq.free (by kernel_rfl)))))
    (Eq.mp (by kernel_rfl) H)

def spec_l04Reed.S (rest_0 : Nat) (slope_1 : Nat) (d_2 : Nat) (Post : Value → Heap → Prop) (h : Heap) : Prop :=
    FOP .f32 (FloatKind.f32.format.mul slope_1 d_2) fun r1 =>
    FOP .f32 (FloatKind.f32.format.add rest_0 r1) fun r2 =>
    CALL prg f_spec_l01Clamp #[.float .f32 r2, .float .f32 1065353216] (fun q3 h4 =>
    asF .f32 q3 fun r5 =>
    Post (.float .f32 r5) h4) h
noncomputable def spec_l04Reed.code : Code := (Tryz.f159.body).getD .skip
theorem spec_l04Reed.call {rest_0 : Nat} {slope_1 : Nat} {d_2 : Nat} {Post : Value → Heap → Prop} {h : Heap} (H : spec_l04Reed.S rest_0 slope_1 d_2 Post h) : CALL prg f_spec_l04Reed #[.float .f32 rest_0, .float .f32 slope_1, .float .f32 d_2] Post h :=
  fn_call tau_ok mixed (c := spec_l04Reed.code) (Λ := lookL []) Tryz.func159 (by kernel_rfl) (by kernel_rfl)
    (Rq.free (by kernel_rfl))
    (Eq.mp (by kernel_rfl) H)

def spec_l04Step.J16 (Post : Value → Heap → Prop) (x_0 : Addr) (n_5 : Int) (e_11 : Nat) (back_12 : Nat) (h : Heap) : Prop :=
    oL (cell h (Addr.add x_0 1)) fun l69b l69l l69c =>
    IDXS l69b ((IntKind.i64.wrap (n_5 - (1 : Int)))) l69l fun p70 =>
    CALL prg f_spec_l02Kept #[.float .f32 back_12] (fun q71 h72 =>
    asF .f32 q71 fun r73 =>
    PIN h (Addr.add x_0 1) 1 h72 <|
    CALL prg f_spec_l02Push #[.pointer (some ((Addr.add p70 ((Int.toNat ((IntKind.i64.wrap (n_5 - (1 : Int))))) * 2)))), .float .f32 r73] (fun q74 h75 =>
    asF .f32 q74 fun r76 =>
    Post (.float .f32 e_11) h75) h72) h
def spec_l04Step.j16 (Post : Value → Heap → Prop) : Frame → Heap → Prop := fun fr h => GRD (shape (kds 140 [(0, .p), (5, .i .i64), (11, .f .f32), (12, .f .f32)]) fr) (spec_l04Step.J16 Post (gP (lget fr 0)) (gI (lget fr 5)) (gF (lget fr 11)) (gF (lget fr 12)) h)
def spec_l04Step.B7 (Post : Value → Heap → Prop) (N7 : (Addr × Int × Option Addr × Nat × Nat × Option Addr × Nat × Nat × Int) → Heap → Prop) : Addr × Int × Option Addr × Nat × Nat × Option Addr × Nat × Nat × Int → Heap → Prop
  | (x_0, n_5, r_6b, r_6l, r_6c, l_7b, l_7l, l_7c, i_9), h =>
    BIF ((decide ((IntKind.i64.wrap (i_9 + (1 : Int))) < n_5))) (
    oL (cell h (Addr.add x_0 2)) fun l30b l30l l30c =>
    IDXS l30b i_9 l30l fun p31 =>
    oF .f32 (cell h ((Addr.add p31 ((Int.toNat i_9) * 1)))) fun r32 =>
    IDXS r_6b i_9 r_6l fun p33 =>
    oF .f32 (cell h ((Addr.add p33 ((Int.toNat i_9) * 1)))) fun r34 =>
    IDXS l_7b ((IntKind.i64.wrap (i_9 + (1 : Int)))) l_7l fun p35 =>
    oF .f32 (cell h ((Addr.add p35 ((Int.toNat ((IntKind.i64.wrap (i_9 + (1 : Int))))) * 1)))) fun r36 =>
    FOP .f32 (FloatKind.f32.format.sub r34 r36) fun r37 =>
    PIN h ((Addr.add p31 ((Int.toNat i_9) * 1))) 1 h <|
    PIN h (Addr.add x_0 2) 1 h <|
    FOP .f32 (FloatKind.f32.format.mul r32 r37) fun r38 =>
    oL (cell h x_0) fun l39b l39l l39c =>
    IDXS l39b ((IntKind.i64.wrap (i_9 + (1 : Int)))) l39l fun p40 =>
    IDXS r_6b i_9 r_6l fun p41 =>
    oF .f32 (cell h ((Addr.add p41 ((Int.toNat i_9) * 1)))) fun r42 =>
    FOP .f32 (FloatKind.f32.format.add r42 r38) fun r43 =>
    PIN h x_0 1 h <|
    CALL prg f_spec_l02Kept #[.float .f32 r43] (fun q44 h45 =>
    asF .f32 q44 fun r46 =>
    PIN h x_0 1 h45 <|
    CALL prg f_spec_l02Push #[.pointer (some ((Addr.add p40 ((Int.toNat ((IntKind.i64.wrap (i_9 + (1 : Int))))) * 2)))), .float .f32 r46] (fun q47 h48 =>
    asF .f32 q47 fun r49 =>
    oL (cell h48 (Addr.add x_0 1)) fun l50b l50l l50c =>
    IDXS l50b i_9 l50l fun p51 =>
    IDXS l_7b ((IntKind.i64.wrap (i_9 + (1 : Int)))) l_7l fun p52 =>
    oF .f32 (cell h48 ((Addr.add p52 ((Int.toNat ((IntKind.i64.wrap (i_9 + (1 : Int))))) * 1)))) fun r53 =>
    FOP .f32 (FloatKind.f32.format.add r53 r38) fun r54 =>
    PIN h48 (Addr.add x_0 1) 1 h48 <|
    CALL prg f_spec_l02Kept #[.float .f32 r54] (fun q55 h56 =>
    asF .f32 q55 fun r57 =>
    PIN h48 (Addr.add x_0 1) 1 h56 <|
    CALL prg f_spec_l02Push #[.pointer (some ((Addr.add p51 ((Int.toNat i_9) * 2)))), .float .f32 r57] (fun q58 h59 =>
    asF .f32 q58 fun r60 =>
    N7 (x_0, n_5, r_6b, r_6l, r_6c, l_7b, l_7l, l_7c, ((IntKind.i64.wrap (i_9 + (1 : Int))))) h59) h56) h48) h45) h) (
    IDXS r_6b ((IntKind.i64.wrap (n_5 - (1 : Int)))) r_6l fun p61 =>
    oF .f32 (cell h ((Addr.add p61 ((Int.toNat ((IntKind.i64.wrap (n_5 - (1 : Int))))) * 1)))) fun r62 =>
    CALL prg f_spec_l02Step #[.pointer (some (Addr.add x_0 3)), .float .f32 r62] (fun q63 h64 =>
    asF .f32 q63 fun r65 =>
    oF .f32 (cell h64 (Addr.add x_0 10)) fun r66 =>
    FOP .f32 (FloatKind.f32.format.mul r66 r65) fun r67 =>
    oB (cell h64 (Addr.add x_0 9)) fun b68 =>
    BIF b68 (
    spec_l04Step.J16 Post x_0 n_5 r65 (Op.negFloat .f32 r67) h64) (
    spec_l04Step.J16 Post x_0 n_5 r65 r67 h64)) h)
def spec_l04Step.g7 (fr : Frame) : Addr × Int × Option Addr × Nat × Nat × Option Addr × Nat × Nat × Int := ((gP (lget fr 0)), (gI (lget fr 5)), (gLb (lget fr 6)), (gLl (lget fr 6)), (gLc (lget fr 6)), (gLb (lget fr 7)), (gLl (lget fr 7)), (gLc (lget fr 7)), (gI (lget fr 9)))
def spec_l04Step.l7 (Post : Value → Heap → Prop) : Frame → Heap → Prop := fun fr h => GRD (shape (kds 140 [(0, .p), (5, .i .i64), (6, .l), (7, .l), (9, .i .i64)]) fr) (LOOP (spec_l04Step.B7 Post) (spec_l04Step.g7 fr) h)
def spec_l04Step.S (x_0 : Addr) (breath_1 : Nat) (Post : Value → Heap → Prop) (h : Heap) : Prop :=
    oL (cell h x_0) fun l1b l1l l1c =>
    oL (cell h x_0) fun l4b l4l l4c =>
    CALL prg f_spec_l04Oldest #[.slice l4b l4l l4c] (fun q5 h6 =>
    asL q5 fun l7b l7l l7c =>
    oL (cell h6 (Addr.add x_0 1)) fun l8b l8l l8c =>
    CALL prg f_spec_l04Oldest #[.slice l8b l8l l8c] (fun q9 h10 =>
    asL q9 fun l11b l11l l11c =>
    IDXS l11b (0 : Int) l11l fun p12 =>
    oF .f32 (cell h10 p12) fun r13 =>
    FOP .f32 (FloatKind.f32.format.sub r13 breath_1) fun r14 =>
    oL (cell h10 x_0) fun l15b l15l l15c =>
    IDXS l15b (0 : Int) l15l fun p16 =>
    oF .f32 (cell h10 (Addr.add x_0 11)) fun r17 =>
    oF .f32 (cell h10 (Addr.add x_0 12)) fun r18 =>
    CALL prg f_spec_l04Reed #[.float .f32 r17, .float .f32 r18, .float .f32 r14] (fun q19 h20 =>
    asF .f32 q19 fun r21 =>
    PIN h10 x_0 1 h20 <|
    FOP .f32 (FloatKind.f32.format.mul r14 r21) fun r22 =>
    PIN h10 x_0 1 h20 <|
    FOP .f32 (FloatKind.f32.format.add breath_1 r22) fun r23 =>
    PIN h10 x_0 1 h20 <|
    CALL prg f_spec_l02Kept #[.float .f32 r23] (fun q24 h25 =>
    asF .f32 q24 fun r26 =>
    PIN h10 x_0 1 h25 <|
    CALL prg f_spec_l02Push #[.pointer (some p16), .float .f32 r26] (fun q27 h28 =>
    asF .f32 q27 fun r29 =>
    LOOP (spec_l04Step.B7 Post) (x_0, (l1l : Int), l7b, l7l, l7c, l11b, l11l, l11c, (0 : Int)) h28) h25) h20) h10) h6) h
noncomputable def spec_l04Step.code : Code := (Tryz.f95.body).getD .skip
theorem spec_l04Step.call {x_0 : Addr} {breath_1 : Nat} {Post : Value → Heap → Prop} {h : Heap} (H : spec_l04Step.S x_0 breath_1 Post h) : CALL prg f_spec_l04Step #[.pointer (some x_0), .float .f32 breath_1] Post h :=
  fn_call tau_ok mixed (c := spec_l04Step.code) (Λ := lookL [(1000007, spec_l04Step.l7 Post), (16, spec_l04Step.j16 Post)]) Tryz.func95 (by kernel_rfl) (by kernel_rfl)
    (Rq.seq (by kernel_rfl) (Rq.free (by kernel_rfl)) (Rq.seq (by kernel_rfl) (Rq.free (by kernel_rfl)) (Rq.seq (by kernel_rfl) (Rq.free (by kernel_rfl)) (Rq.seq (by kernel_rfl) (Rq.free (by kernel_rfl)) (Rq.seq (by kernel_rfl) (Rq.free (by kernel_rfl)) (Rq.seq (by kernel_rfl) (Rq.free (by kernel_rfl)) (Rq.seq (by kernel_rfl) (Rq.seq (by kernel_rfl) (Rq.free (by kernel_rfl)) (Rq.block (Rq.loop (spec_l04Step.l7 Post) (by kernel_rfl) (segL (g := spec_l04Step.g7) tau_ok mixed (Λ := fun N7 => lookL []) (fun _ _ _ => by kernel_rfl) (fun N7 => (Rq.free (by kernel_rfl))))))) (Rq.seq (by kernel_rfl) (Rq.free (by kernel_rfl)) (Rq.seq (by kernel_rfl) (Rq.free (by kernel_rfl)) (Rq.seqJ (spec_l04Step.j16 Post) (by kernel_rfl) (seg (fun _ _ => by kernel_rfl)) (Rq.free (by kernel_rfl))
(Rq.free (by kernel_rfl))))))))))))
    (Eq.mp (by kernel_rfl) H)

def impl_ValidPipe_c1.S (k_0 : Nat) (Post : Value → Heap → Prop) (h : Heap) : Prop :=
    CALL prg f_impl_inside #[.float .f32 k_0, .float .f32 3212836864, .float .f32 1065353216] (fun q1 h2 =>
    asB q1 fun b3 =>
    Post (.bool (!b3)) h2) h
noncomputable def impl_ValidPipe_c1.code : Code := (Tryz.f103.body).getD .skip
theorem impl_ValidPipe_c1.call {k_0 : Nat} {Post : Value → Heap → Prop} {h : Heap} (H : impl_ValidPipe_c1.S k_0 Post h) : CALL prg f_impl_ValidPipe_c1 #[.float .f32 k_0] Post h :=
  fn_call tau_ok mixed (c := impl_ValidPipe_c1.code) (Λ := lookL []) Tryz.func103 (by kernel_rfl) (by kernel_rfl)
    (Rq.free (by kernel_rfl))
    (Eq.mp (by kernel_rfl) H)

def impl_ValidPipe.B5 (Post : Value → Heap → Prop) (N5 : (Addr × Option Addr × Nat × Nat × Int × Int) → Heap → Prop) : Addr × Option Addr × Nat × Nat × Int × Int → Heap → Prop
  | (x_1, t45b, t45l, t45c, t46, t47), h =>
    BIF (decide (t47 < t46)) (
    IDXS t45b t47 t45l fun p30 =>
    LDA 2 h ((Addr.add p30 ((Int.toNat t47) * 2))) fun a31 =>
    ALC ⟨Z_impl_Ring⟩ T_impl_Ring (fun g32 h33 =>
    STA 2 h33 ⟨g32, 0, none⟩ a31 fun h34 =>
    LDA 2 h34 ⟨g32, 0, none⟩ fun a35 =>
    CALL prg f_impl_isRing #[.agg a35] (fun q36 h37 =>
    asB q36 fun b38 =>
    BIF (!b38) (
    Post (.bool false) h37) (
    oL (cell h37 (Addr.add x_1 1)) fun l39b l39l l39c =>
    IDXS l39b t47 l39l fun p40 =>
    LDA 2 h37 ((Addr.add p40 ((Int.toNat t47) * 2))) fun a41 =>
    CALL prg f_impl_isRing #[.agg a41] (fun q42 h43 =>
    asB q42 fun b44 =>
    BIF (!b44) (
    Post (.bool false) h43) (
    oL (cell h43 ⟨g32, 0, none⟩) fun l45b l45l l45c =>
    oL (cell h43 (Addr.add x_1 1)) fun l48b l48l l48c =>
    IDXS l48b t47 l48l fun p49 =>
    oL (cell h43 ((Addr.add p49 ((Int.toNat t47) * 2)))) fun l50b l50l l50c =>
    BIF ((l45l : Int) != (l50l : Int)) (
    Post (.bool false) h43) (
    N5 (x_1, t45b, t45l, t45c, t46, ((IntKind.i64.wrap (t47 + (1 : Int))))) h43))) h37)) h34) h) (
    oL (cell h (Addr.add x_1 2)) fun l53b l53l l53c =>
    CALL prg f_slices_ContainsFunc_sl_float32_float32 #[.slice l53b l53l l53c, .func (.func 103) #[] #[]] (fun q54 h55 =>
    asB q54 fun b56 =>
    Post (.bool (!b56)) h55) h)
def impl_ValidPipe.g5 (fr : Frame) : Addr × Option Addr × Nat × Nat × Int × Int := ((gP (lget fr 1)), (gLb (lget fr 45)), (gLl (lget fr 45)), (gLc (lget fr 45)), (gI (lget fr 46)), (gI (lget fr 47)))
def impl_ValidPipe.l5 (Post : Value → Heap → Prop) : Frame → Heap → Prop := fun fr h => GRD (shape (kds 82 [(1, .p), (45, .l), (46, .i .i64), (47, .i .i64)]) fr) (LOOP (impl_ValidPipe.B5 Post) (impl_ValidPipe.g5 fr) h)
def impl_ValidPipe.J4 (Post : Value → Heap → Prop) (x_1 : Addr) (h : Heap) : Prop :=
    oL (cell h x_1) fun l27b l27l l27c =>
    LOOP (impl_ValidPipe.B5 Post) (x_1, l27b, l27l, l27c, (l27l : Int), (0 : Int)) h
def impl_ValidPipe.j4 (Post : Value → Heap → Prop) : Frame → Heap → Prop := fun fr h => GRD (shape (kds 82 [(1, .p)]) fr) (impl_ValidPipe.J4 Post (gP (lget fr 1)) h)
def impl_ValidPipe.S (x_0 : Array Value) (Post : Value → Heap → Prop) (h : Heap) : Prop :=
    ALC x_0 T_impl_Pipe (fun g1 h2 =>
    oL (cell h2 ⟨g1, 0, none⟩) fun l3b l3l l3c =>
    CALL prg f_impl_within #[.int .i64 (l3l : Int), .int .i64 (1 : Int), .int .i64 (3 : Int)] (fun q6 h7 =>
    asB q6 fun b8 =>
    BIF (!b8) (
    Post (.bool false) h7) (
    oL (cell h7 ⟨g1, 1, none⟩) fun l9b l9l l9c =>
    BIF ((l9l : Int) != (l3l : Int)) (
    Post (.bool false) h7) (
    oL (cell h7 ⟨g1, 2, none⟩) fun l12b l12l l12c =>
    BIF (((l12l : Int) != (IntKind.i64.wrap ((l3l : Int) - (1 : Int))))) (
    Post (.bool false) h7) (
    LDA 6 h7 ⟨g1, 3, none⟩ fun a15 =>
    CALL prg f_impl_isFilter #[.agg a15, .int .i64 (1 : Int)] (fun q16 h17 =>
    asB q16 fun b18 =>
    BIF (!b18) (
    Post (.bool false) h17) (
    oF .f32 (cell h17 ⟨g1, 10, none⟩) fun r19 =>
    oF .f32 (cell h17 ⟨g1, 11, none⟩) fun r20 =>
    oF .f32 (cell h17 ⟨g1, 12, none⟩) fun r21 =>
    ALC ⟨[.float .f32 r19, .float .f32 r20, .float .f32 r21]⟩ T_float32 (fun g22 h23 =>
    CALL prg f_impl_areFinite #[.slice (some ⟨g22, 0, none⟩) 3 3] (fun q24 h25 =>
    asB q24 fun b26 =>
    BIF (!b26) (
    Post (.bool false) h25) (
    impl_ValidPipe.J4 Post ⟨g1, 0, none⟩ h25)) h23) h17)) h7)))) h2) h
noncomputable def impl_ValidPipe.code : Code := (Tryz.f43.body).getD .skip
theorem impl_ValidPipe.call {x_0 : Array Value} {Post : Value → Heap → Prop} {h : Heap} (H : impl_ValidPipe.S x_0 Post h) : CALL prg f_impl_ValidPipe #[.agg x_0] Post h :=
  fn_call tau_ok mixed (c := impl_ValidPipe.code) (Λ := lookL [(4, impl_ValidPipe.j4 Post), (1000005, impl_ValidPipe.l5 Post)]) Tryz.func43 (by kernel_rfl) (by kernel_rfl)
    (Rq.seq (by kernel_rfl) (Rq.free (by kernel_rfl)) (Rq.seq (by kernel_rfl) (Rq.free (by kernel_rfl)) (Rq.seqJ (impl_ValidPipe.j4 Post) (by kernel_rfl) (seg (fun _ _ => by kernel_rfl)) (Rq.free (by kernel_rfl))
(Rq.seq (by kernel_rfl) (Rq.seq (by kernel_rfl) (Rq.free (by kernel_rfl)) (Rq.block (Rq.loop (impl_ValidPipe.l5 Post) (by kernel_rfl) (segL (g := impl_ValidPipe.g5) tau_ok mixed (Λ := fun N5 => lookL []) (fun _ _ _ => by kernel_rfl) (fun N5 => (Rq.free (by kernel_rfl))))))) (Rq.free (by kernel_rfl))))))
    (Eq.mp (by kernel_rfl) H)

def impl_cloneRings.B3 (Post : Value → Heap → Prop) (N3 : (Option Addr × Nat × Nat × Option Addr × Nat × Nat × Int × Int) → Heap → Prop) : Option Addr × Nat × Nat × Option Addr × Nat × Nat × Int × Int → Heap → Prop
  | (out_3b, out_3l, out_3c, t6b, t6l, t6c, t7, t8), h =>
    BIF (decide (t8 < t7)) (
    IDXS t6b t8 t6l fun p3 =>
    LDA 2 h ((Addr.add p3 ((Int.toNat t8) * 2))) fun a4 =>
    ALC ⟨Z_impl_Ring⟩ T_impl_Ring (fun g5 h6 =>
    STA 2 h6 ⟨g5, 0, none⟩ a4 fun h7 =>
    LDA 2 h7 ⟨g5, 0, none⟩ fun a8 =>
    CALL prg f_impl_Ring_clone #[.agg a8] (fun q9 h10 =>
    asA q9 fun a11 =>
    SIZ (Array.size a11) 2 <|
    ALC ⟨(splice 0 2 a11 [.slice none 0 0, .int .i64 (0 : Int)])⟩ T_impl_Ring (fun g12 h13 =>
    SEMV prg (Builtin.append_ #[T_sl_impl_Ring, T_sl_impl_Ring] T_sl_impl_Ring #[.slice out_3b out_3l out_3c, .slice (some ⟨g12, 0, none⟩) 1 1]) (fun q14 h15 =>
    asL q14 fun l16b l16l l16c =>
    N3 (l16b, l16l, l16c, t6b, t6l, t6c, t7, ((IntKind.i64.wrap (t8 + (1 : Int))))) h15) h13) h10) h7) h) (
    Post (.slice out_3b out_3l out_3c) h)
def impl_cloneRings.g3 (fr : Frame) : Option Addr × Nat × Nat × Option Addr × Nat × Nat × Int × Int := ((gLb (lget fr 3)), (gLl (lget fr 3)), (gLc (lget fr 3)), (gLb (lget fr 6)), (gLl (lget fr 6)), (gLc (lget fr 6)), (gI (lget fr 7)), (gI (lget fr 8)))
def impl_cloneRings.l3 (Post : Value → Heap → Prop) : Frame → Heap → Prop := fun fr h => GRD (shape (kds 19 [(3, .l), (6, .l), (7, .i .i64), (8, .i .i64)]) fr) (LOOP (impl_cloneRings.B3 Post) (impl_cloneRings.g3 fr) h)
def impl_cloneRings.S (list_0b : Option Addr) (list_0l list_0c : Nat) (Post : Value → Heap → Prop) (h : Heap) : Prop :=
    LOOP (impl_cloneRings.B3 Post) (none, 0, 0, list_0b, list_0l, list_0c, (list_0l : Int), (0 : Int)) h
noncomputable def impl_cloneRings.code : Code := (Tryz.f110.body).getD .skip
theorem impl_cloneRings.call {list_0b : Option Addr} {list_0l list_0c : Nat} {Post : Value → Heap → Prop} {h : Heap} (H : impl_cloneRings.S list_0b list_0l list_0c Post h) : CALL prg f_impl_cloneRings #[.slice list_0b list_0l list_0c] Post h :=
  fn_call tau_ok mixed (c := impl_cloneRings.code) (Λ := lookL [(1000003, impl_cloneRings.l3 Post)]) Tryz.func110 (by kernel_rfl) (by kernel_rfl)
    (Rq.seq (by kernel_rfl) (Rq.free (by kernel_rfl)) (Rq.seq (by kernel_rfl) (Rq.free (by kernel_rfl)) (Rq.seq (by kernel_rfl) (Rq.seq (by kernel_rfl) (Rq.free (by kernel_rfl)) (Rq.block (Rq.loop (impl_cloneRings.l3 Post) (by kernel_rfl) (segL (g := impl_cloneRings.g3) tau_ok mixed (Λ := fun N3 => lookL []) (fun _ _ _ => by kernel_rfl) (fun N3 => (Rq.free (by kernel_rfl))))))) (Rq.free (by kernel_rfl)))))
    (Eq.mp (by kernel_rfl) H)

def impl_Pipe_clone.S (x_0 : Array Value) (Post : Value → Heap → Prop) (h : Heap) : Prop :=
    ALC x_0 T_impl_Pipe (fun g1 h2 =>
    ALC ⟨Z_impl_Pipe⟩ T_impl_Pipe (fun g3 h4 =>
    oL (cell h4 ⟨g1, 0, none⟩) fun l5b l5l l5c =>
    oL (cell h4 ⟨g1, 1, none⟩) fun l6b l6l l6c =>
    oL (cell h4 ⟨g1, 2, none⟩) fun l7b l7l l7c =>
    CALL prg f_impl_cloneRings #[.slice l5b l5l l5c] (fun q8 h9 =>
    asL q8 fun l10b l10l l10c =>
    PIN h4 ⟨g1, 2, none⟩ 1 h9 <|
    PIN h4 ⟨g1, 1, none⟩ 1 h9 <|
    CALL prg f_impl_cloneRings #[.slice l6b l6l l6c] (fun q11 h12 =>
    asL q11 fun l13b l13l l13c =>
    PIN h4 ⟨g1, 2, none⟩ 1 h12 <|
    CALL prg f_slices_Clone_sl_float32_float32 #[.slice l7b l7l l7c] (fun q14 h15 =>
    asL q14 fun l16b l16l l16c =>
    ST1 h15 ⟨g1, 0, none⟩ (.slice l10b l10l l10c) fun h17 =>
    ST1 h17 ⟨g1, 1, none⟩ (.slice l13b l13l l13c) fun h18 =>
    ST1 h18 ⟨g1, 2, none⟩ (.slice l16b l16l l16c) fun h19 =>
    LDA 13 h19 ⟨g1, 0, none⟩ fun a20 =>
    STA 13 h19 ⟨g3, 0, none⟩ a20 fun h21 =>
    LDA 13 h21 ⟨g3, 0, none⟩ fun a22 =>
    Post (.agg a22) h21) h12) h9) h4) h2) h
noncomputable def impl_Pipe_clone.code : Code := (Tryz.f49.body).getD .skip
theorem impl_Pipe_clone.call {x_0 : Array Value} {Post : Value → Heap → Prop} {h : Heap} (H : impl_Pipe_clone.S x_0 Post h) : CALL prg f_impl_Pipe_clone #[.agg x_0] Post h :=
  fn_call tau_ok mixed (c := impl_Pipe_clone.code) (Λ := lookL []) Tryz.func49 (by kernel_rfl) (by kernel_rfl)
    (Rq.free (by kernel_rfl))
    (Eq.mp (by kernel_rfl) H)

end Go.Sx
