/- What functions of this seat's program compute, told in words (a predicate over heaps for each), and the proofs that the words are no more than the code's own weakest precondition. -/
import Derived.Test.YtkgmfiloghhibaaGreatDoorTab
import Derived.Test.YtkgmfiloghhibaaGreatDoorLf8
import Derived.Test.YtkgmfiloghhibaaGreatDoorK2
import Derived.Test.YtkgmfiloghhibaaGreatDoorLgn
namespace Go.Sx
open Go.Proofs
set_option linter.unusedVariables false
set_option maxRecDepth 100000

def spec_OnePole.S (keep_0 : Nat) (Post : Value → Heap → Prop) (h : Heap) : Prop :=
    ALC ⟨Z_impl_Filter⟩ T_impl_Filter (fun g1 h2 =>
    FOP .f32 (FloatKind.f32.format.sub 1065353216 keep_0) fun r3 =>
    SIZ (Array.size (⟨[.float .f32 r3, .float .f32 keep_0, .float .f32 0]⟩ : Array Value)) 3 <|
    STA 6 h2 ⟨g1, 0, none⟩ (⟨[.int .i64 (1 : Int), .float .f32 r3, .float .f32 keep_0, .float .f32 0, .float .f32 0, .float .f32 0]⟩ : Array Value) fun h4 =>
    LDA 6 h4 ⟨g1, 0, none⟩ fun a5 =>
    Post (.agg a5) h4) h
noncomputable def spec_OnePole.code : Code := (Tryz.f157.body).getD .skip
theorem spec_OnePole.call {keep_0 : Nat} {Post : Value → Heap → Prop} {h : Heap} (H : spec_OnePole.S keep_0 Post h) : CALL prg f_spec_OnePole #[.float .f32 keep_0] Post h :=
  fn_call tau_ok mixed (c := spec_OnePole.code) (Λ := lookL []) Tryz.func157 (by kernel_rfl) (by kernel_rfl)
    (Rq.free (by kernel_rfl))
    (Eq.mp (by kernel_rfl) H)

def spec_NewPipe.J5 (N3 : (Option Addr × Nat × Nat × Option Addr × Nat × Nat × Bool × Nat × Nat × Addr × Bool × Int) → Heap → Prop) (Post : Value → Heap → Prop) (lengths_0b : Option Addr) (lengths_0l : Nat) (lengths_0c : Nat) (scatter_1b : Option Addr) (scatter_1l : Nat) (scatter_1c : Nat) (open_2 : Bool) (keep_3 : Nat) (loss_4 : Nat) (t10 : Addr) (i_13 : Int) (h : Heap) : Prop :=
    IDXS lengths_0b i_13 lengths_0l fun p14 =>
    oI .i64 (cell h ((Addr.add p14 ((Int.toNat i_13) * 1)))) fun n15 =>
    CALL prg f_spec_l00In #[.int .i64 n15, .int .i64 (1 : Int), .int .i64 (1024 : Int)] (fun q16 h17 =>
    asB q16 fun b18 =>
    N3 (lengths_0b, lengths_0l, lengths_0c, scatter_1b, scatter_1l, scatter_1c, open_2, keep_3, loss_4, t10, b18, ((IntKind.i64.wrap (i_13 + (1 : Int))))) h17) h
def spec_NewPipe.j5 (N3 : (Option Addr × Nat × Nat × Option Addr × Nat × Nat × Bool × Nat × Nat × Addr × Bool × Int) → Heap → Prop) (Post : Value → Heap → Prop) : Frame → Heap → Prop := fun fr h => GRD (shape (kds 119 [(0, .l), (1, .l), (2, .b), (3, .f .f32), (4, .f .f32), (10, .p), (13, .i .i64)]) fr) (spec_NewPipe.J5 N3 Post (gLb (lget fr 0)) (gLl (lget fr 0)) (gLc (lget fr 0)) (gLb (lget fr 1)) (gLl (lget fr 1)) (gLc (lget fr 1)) (gB (lget fr 2)) (gF (lget fr 3)) (gF (lget fr 4)) (gP (lget fr 10)) (gI (lget fr 13)) h)
def spec_NewPipe.J9 (N7 : (Option Addr × Nat × Nat × Option Addr × Nat × Nat × Bool × Nat × Nat × Addr × Bool × Int) → Heap → Prop) (Post : Value → Heap → Prop) (lengths_0b : Option Addr) (lengths_0l : Nat) (lengths_0c : Nat) (scatter_1b : Option Addr) (scatter_1l : Nat) (scatter_1c : Nat) (open_2 : Bool) (keep_3 : Nat) (loss_4 : Nat) (t10 : Addr) (i_14 : Int) (h : Heap) : Prop :=
    IDXS scatter_1b i_14 scatter_1l fun p47 =>
    oF .f32 (cell h ((Addr.add p47 ((Int.toNat i_14) * 1)))) fun r48 =>
    BIF (FloatKind.f32.format.order r48 3212836864 == some .gt || FloatKind.f32.format.order r48 3212836864 == some .eq) (
    IDXS scatter_1b i_14 scatter_1l fun p49 =>
    oF .f32 (cell h ((Addr.add p49 ((Int.toNat i_14) * 1)))) fun r50 =>
    N7 (lengths_0b, lengths_0l, lengths_0c, scatter_1b, scatter_1l, scatter_1c, open_2, keep_3, loss_4, t10, (FloatKind.f32.format.order r50 1065353216 == some .lt || FloatKind.f32.format.order r50 1065353216 == some .eq), ((IntKind.i64.wrap (i_14 + (1 : Int))))) h) (
    N7 (lengths_0b, lengths_0l, lengths_0c, scatter_1b, scatter_1l, scatter_1c, open_2, keep_3, loss_4, t10, false, ((IntKind.i64.wrap (i_14 + (1 : Int))))) h)
def spec_NewPipe.j9 (N7 : (Option Addr × Nat × Nat × Option Addr × Nat × Nat × Bool × Nat × Nat × Addr × Bool × Int) → Heap → Prop) (Post : Value → Heap → Prop) : Frame → Heap → Prop := fun fr h => GRD (shape (kds 119 [(0, .l), (1, .l), (2, .b), (3, .f .f32), (4, .f .f32), (10, .p), (14, .i .i64)]) fr) (spec_NewPipe.J9 N7 Post (gLb (lget fr 0)) (gLl (lget fr 0)) (gLc (lget fr 0)) (gLb (lget fr 1)) (gLl (lget fr 1)) (gLc (lget fr 1)) (gB (lget fr 2)) (gF (lget fr 3)) (gF (lget fr 4)) (gP (lget fr 10)) (gI (lget fr 14)) h)
def spec_NewPipe.B14 (Post : Value → Heap → Prop) (N14 : (Option Addr × Nat × Nat × Addr × Addr × Int) → Heap → Prop) : Option Addr × Nat × Nat × Addr × Addr × Int → Heap → Prop
  | (lengths_0b, lengths_0l, lengths_0c, t10, x_15, i_16), h =>
    BIF ((decide (i_16 < (lengths_0l : Int)))) (
    oL (cell h x_15) fun l53b l53l l53c =>
    IDXS lengths_0b i_16 lengths_0l fun p54 =>
    oI .i64 (cell h ((Addr.add p54 ((Int.toNat i_16) * 1)))) fun n55 =>
    MKS ti_float32 T_float32 n55 n55 (fun g56 h57 =>
    PIN h x_15 1 h57 <|
    SIZ (Array.size (⟨[.slice (some ⟨g56, 0, none⟩) (Int.toNat n55) (Int.toNat n55), .int .i64 (0 : Int)]⟩ : Array Value)) 2 <|
    ALC ⟨[.slice (some ⟨g56, 0, none⟩) (Int.toNat n55) (Int.toNat n55), .int .i64 (0 : Int)]⟩ T_impl_Ring (fun g58 h59 =>
    PIN h x_15 1 h59 <|
    SEMV prg (Builtin.append_ #[T_sl_impl_Ring, T_sl_impl_Ring] T_sl_impl_Ring #[.slice l53b l53l l53c, .slice (some ⟨g58, 0, none⟩) 1 1]) (fun q60 h61 =>
    asL q60 fun l62b l62l l62c =>
    ST1 h61 x_15 (.slice l62b l62l l62c) fun h63 =>
    oL (cell h63 (Addr.add x_15 1)) fun l64b l64l l64c =>
    IDXS lengths_0b i_16 lengths_0l fun p65 =>
    oI .i64 (cell h63 ((Addr.add p65 ((Int.toNat i_16) * 1)))) fun n66 =>
    MKS ti_float32 T_float32 n66 n66 (fun g67 h68 =>
    PIN h63 (Addr.add x_15 1) 1 h68 <|
    SIZ (Array.size (⟨[.slice (some ⟨g67, 0, none⟩) (Int.toNat n66) (Int.toNat n66), .int .i64 (0 : Int)]⟩ : Array Value)) 2 <|
    ALC ⟨[.slice (some ⟨g67, 0, none⟩) (Int.toNat n66) (Int.toNat n66), .int .i64 (0 : Int)]⟩ T_impl_Ring (fun g69 h70 =>
    PIN h63 (Addr.add x_15 1) 1 h70 <|
    SEMV prg (Builtin.append_ #[T_sl_impl_Ring, T_sl_impl_Ring] T_sl_impl_Ring #[.slice l64b l64l l64c, .slice (some ⟨g69, 0, none⟩) 1 1]) (fun q71 h72 =>
    asL q71 fun l73b l73l l73c =>
    ST1 h72 (Addr.add x_15 1) (.slice l73b l73l l73c) fun h74 =>
    N14 (lengths_0b, lengths_0l, lengths_0c, t10, x_15, ((IntKind.i64.wrap (i_16 + (1 : Int))))) h74) h70) h68) h63) h59) h57) h) (
    LDA 13 h x_15 fun a75 =>
    STA 13 h t10 a75 fun h76 =>
    LDA 13 h76 t10 fun a77 =>
    Post (.tuple ⟨[.agg a77, .int .i64 (0 : Int)]⟩) h76)
def spec_NewPipe.g14 (fr : Frame) : Option Addr × Nat × Nat × Addr × Addr × Int := ((gLb (lget fr 0)), (gLl (lget fr 0)), (gLc (lget fr 0)), (gP (lget fr 10)), (gP (lget fr 15)), (gI (lget fr 16)))
def spec_NewPipe.l14 (Post : Value → Heap → Prop) : Frame → Heap → Prop := fun fr h => GRD (shape (kds 119 [(0, .l), (10, .p), (15, .p), (16, .i .i64)]) fr) (LOOP (spec_NewPipe.B14 Post) (spec_NewPipe.g14 fr) h)
def spec_NewPipe.B7 (Post : Value → Heap → Prop) (N7 : (Option Addr × Nat × Nat × Option Addr × Nat × Nat × Bool × Nat × Nat × Addr × Bool × Int) → Heap → Prop) : Option Addr × Nat × Nat × Option Addr × Nat × Nat × Bool × Nat × Nat × Addr × Bool × Int → Heap → Prop
  | (lengths_0b, lengths_0l, lengths_0c, scatter_1b, scatter_1l, scatter_1c, open_2, keep_3, loss_4, t10, ok_12, i_14), h =>
    BIF ((decide (i_14 < (scatter_1l : Int)))) (
    BIF ok_12 (
    spec_NewPipe.J9 N7 Post lengths_0b lengths_0l lengths_0c scatter_1b scatter_1l scatter_1c open_2 keep_3 loss_4 t10 i_14 h) (
    BIF (!ok_12) (
    STA 13 h t10 (⟨[.slice none 0 0, .slice none 0 0, .slice none 0 0, .int .i64 (0 : Int), .float .f32 0, .float .f32 0, .float .f32 0, .float .f32 0, .float .f32 0, .bool false, .float .f32 0, .float .f32 0, .float .f32 0]⟩ : Array Value) fun h21 =>
    LDA 13 h21 t10 fun a22 =>
    Post (.tuple ⟨[.agg a22, .int .i64 (2 : Int)]⟩) h21) (
    ALC ⟨[]⟩ T_float32 (fun g23 h24 =>
    SEMV prg (Builtin.append_ #[T_sl_float32, T_sl_float32] T_sl_float32 #[.slice (some ⟨g23, 0, none⟩) 0 0, .slice scatter_1b scatter_1l scatter_1c]) (fun q25 h26 =>
    asL q25 fun l27b l27l l27c =>
    CALL prg f_spec_OnePole #[.float .f32 keep_3] (fun q28 h29 =>
    asA q28 fun a30 =>
    SIZ (Array.size a30) 6 <|
    ALC ⟨Z_impl_Pipe⟩ T_impl_Pipe (fun g31 h32 =>
    STA 13 h32 ⟨g31, 0, none⟩ ⟨(List.set (List.set (List.set (List.set (splice 3 6 a30 [.slice none 0 0, .slice none 0 0, .slice l27b l27l l27c, .int .i64 (0 : Int), .float .f32 0, .float .f32 0, .float .f32 0, .float .f32 0, .float .f32 0, .bool false, .float .f32 0, .float .f32 0, .float .f32 0]) 9 (.bool open_2)) 10 (.float .f32 loss_4)) 11 (.float .f32 1061158912)) 12 (.float .f32 3200253952))⟩ fun h33 =>
    LOOP (spec_NewPipe.B14 Post) (lengths_0b, lengths_0l, lengths_0c, t10, ⟨g31, 0, none⟩, (0 : Int)) h33) h29) h26) h24) h))) (
    BIF (!ok_12) (
    STA 13 h t10 (⟨[.slice none 0 0, .slice none 0 0, .slice none 0 0, .int .i64 (0 : Int), .float .f32 0, .float .f32 0, .float .f32 0, .float .f32 0, .float .f32 0, .bool false, .float .f32 0, .float .f32 0, .float .f32 0]⟩ : Array Value) fun h34 =>
    LDA 13 h34 t10 fun a35 =>
    Post (.tuple ⟨[.agg a35, .int .i64 (2 : Int)]⟩) h34) (
    ALC ⟨[]⟩ T_float32 (fun g36 h37 =>
    SEMV prg (Builtin.append_ #[T_sl_float32, T_sl_float32] T_sl_float32 #[.slice (some ⟨g36, 0, none⟩) 0 0, .slice scatter_1b scatter_1l scatter_1c]) (fun q38 h39 =>
    asL q38 fun l40b l40l l40c =>
    CALL prg f_spec_OnePole #[.float .f32 keep_3] (fun q41 h42 =>
    asA q41 fun a43 =>
    SIZ (Array.size a43) 6 <|
    ALC ⟨Z_impl_Pipe⟩ T_impl_Pipe (fun g44 h45 =>
    STA 13 h45 ⟨g44, 0, none⟩ ⟨(List.set (List.set (List.set (List.set (splice 3 6 a43 [.slice none 0 0, .slice none 0 0, .slice l40b l40l l40c, .int .i64 (0 : Int), .float .f32 0, .float .f32 0, .float .f32 0, .float .f32 0, .float .f32 0, .bool false, .float .f32 0, .float .f32 0, .float .f32 0]) 9 (.bool open_2)) 10 (.float .f32 loss_4)) 11 (.float .f32 1061158912)) 12 (.float .f32 3200253952))⟩ fun h46 =>
    LOOP (spec_NewPipe.B14 Post) (lengths_0b, lengths_0l, lengths_0c, t10, ⟨g44, 0, none⟩, (0 : Int)) h46) h42) h39) h37) h))
def spec_NewPipe.g7 (fr : Frame) : Option Addr × Nat × Nat × Option Addr × Nat × Nat × Bool × Nat × Nat × Addr × Bool × Int := ((gLb (lget fr 0)), (gLl (lget fr 0)), (gLc (lget fr 0)), (gLb (lget fr 1)), (gLl (lget fr 1)), (gLc (lget fr 1)), (gB (lget fr 2)), (gF (lget fr 3)), (gF (lget fr 4)), (gP (lget fr 10)), (gB (lget fr 12)), (gI (lget fr 14)))
def spec_NewPipe.l7 (Post : Value → Heap → Prop) : Frame → Heap → Prop := fun fr h => GRD (shape (kds 119 [(0, .l), (1, .l), (2, .b), (3, .f .f32), (4, .f .f32), (10, .p), (12, .b), (14, .i .i64)]) fr) (LOOP (spec_NewPipe.B7 Post) (spec_NewPipe.g7 fr) h)
def spec_NewPipe.B3 (Post : Value → Heap → Prop) (N3 : (Option Addr × Nat × Nat × Option Addr × Nat × Nat × Bool × Nat × Nat × Addr × Bool × Int) → Heap → Prop) : Option Addr × Nat × Nat × Option Addr × Nat × Nat × Bool × Nat × Nat × Addr × Bool × Int → Heap → Prop
  | (lengths_0b, lengths_0l, lengths_0c, scatter_1b, scatter_1l, scatter_1c, open_2, keep_3, loss_4, t10, ok_12, i_13), h =>
    BIF ((decide (i_13 < (lengths_0l : Int)))) (
    BIF ok_12 (
    spec_NewPipe.J5 N3 Post lengths_0b lengths_0l lengths_0c scatter_1b scatter_1l scatter_1c open_2 keep_3 loss_4 t10 i_13 h) (
    LOOP (spec_NewPipe.B7 Post) (lengths_0b, lengths_0l, lengths_0c, scatter_1b, scatter_1l, scatter_1c, open_2, keep_3, loss_4, t10, ok_12, (0 : Int)) h)) (
    LOOP (spec_NewPipe.B7 Post) (lengths_0b, lengths_0l, lengths_0c, scatter_1b, scatter_1l, scatter_1c, open_2, keep_3, loss_4, t10, ok_12, (0 : Int)) h)
def spec_NewPipe.g3 (fr : Frame) : Option Addr × Nat × Nat × Option Addr × Nat × Nat × Bool × Nat × Nat × Addr × Bool × Int := ((gLb (lget fr 0)), (gLl (lget fr 0)), (gLc (lget fr 0)), (gLb (lget fr 1)), (gLl (lget fr 1)), (gLc (lget fr 1)), (gB (lget fr 2)), (gF (lget fr 3)), (gF (lget fr 4)), (gP (lget fr 10)), (gB (lget fr 12)), (gI (lget fr 13)))
def spec_NewPipe.l3 (Post : Value → Heap → Prop) : Frame → Heap → Prop := fun fr h => GRD (shape (kds 119 [(0, .l), (1, .l), (2, .b), (3, .f .f32), (4, .f .f32), (10, .p), (12, .b), (13, .i .i64)]) fr) (LOOP (spec_NewPipe.B3 Post) (spec_NewPipe.g3 fr) h)
def spec_NewPipe.J2 (Post : Value → Heap → Prop) (lengths_0b : Option Addr) (lengths_0l : Nat) (lengths_0c : Nat) (scatter_1b : Option Addr) (scatter_1l : Nat) (scatter_1c : Nat) (open_2 : Bool) (keep_3 : Nat) (loss_4 : Nat) (t10 : Addr) (ok_12 : Bool) (h : Heap) : Prop :=
    LOOP (spec_NewPipe.B3 Post) (lengths_0b, lengths_0l, lengths_0c, scatter_1b, scatter_1l, scatter_1c, open_2, keep_3, loss_4, t10, ok_12, (0 : Int)) h
def spec_NewPipe.j2 (Post : Value → Heap → Prop) : Frame → Heap → Prop := fun fr h => GRD (shape (kds 119 [(0, .l), (1, .l), (2, .b), (3, .f .f32), (4, .f .f32), (10, .p), (12, .b)]) fr) (spec_NewPipe.J2 Post (gLb (lget fr 0)) (gLl (lget fr 0)) (gLc (lget fr 0)) (gLb (lget fr 1)) (gLl (lget fr 1)) (gLc (lget fr 1)) (gB (lget fr 2)) (gF (lget fr 3)) (gF (lget fr 4)) (gP (lget fr 10)) (gB (lget fr 12)) h)
def spec_NewPipe.S (lengths_0b : Option Addr) (lengths_0l lengths_0c : Nat) (scatter_1b : Option Addr) (scatter_1l scatter_1c : Nat) (open_2 : Bool) (keep_3 : Nat) (loss_4 : Nat) (Post : Value → Heap → Prop) (h : Heap) : Prop :=
    ALC ⟨Z_impl_Pipe⟩ T_impl_Pipe (fun g1 h2 =>
    CALL prg f_spec_l00In #[.int .i64 (lengths_0l : Int), .int .i64 (1 : Int), .int .i64 (3 : Int)] (fun q5 h6 =>
    asB q5 fun b7 =>
    BIF b7 (
    BIF (((scatter_1l : Int) == (IntKind.i64.wrap ((lengths_0l : Int) - (1 : Int))))) (
    BIF (FloatKind.f32.format.order keep_3 0 == some .gt || FloatKind.f32.format.order keep_3 0 == some .eq) (
    BIF (FloatKind.f32.format.order keep_3 1065353216 == some .lt) (
    BIF (FloatKind.f32.format.order loss_4 0 == some .gt || FloatKind.f32.format.order loss_4 0 == some .eq) (
    spec_NewPipe.J2 Post lengths_0b lengths_0l lengths_0c scatter_1b scatter_1l scatter_1c open_2 keep_3 loss_4 ⟨g1, 0, none⟩ (FloatKind.f32.format.order loss_4 1065353216 == some .lt || FloatKind.f32.format.order loss_4 1065353216 == some .eq) h6) (
    spec_NewPipe.J2 Post lengths_0b lengths_0l lengths_0c scatter_1b scatter_1l scatter_1c open_2 keep_3 loss_4 ⟨g1, 0, none⟩ false h6)) (
    spec_NewPipe.J2 Post lengths_0b lengths_0l lengths_0c scatter_1b scatter_1l scatter_1c open_2 keep_3 loss_4 ⟨g1, 0, none⟩ false h6)) (
    spec_NewPipe.J2 Post lengths_0b lengths_0l lengths_0c scatter_1b scatter_1l scatter_1c open_2 keep_3 loss_4 ⟨g1, 0, none⟩ false h6)) (
    spec_NewPipe.J2 Post lengths_0b lengths_0l lengths_0c scatter_1b scatter_1l scatter_1c open_2 keep_3 loss_4 ⟨g1, 0, none⟩ false h6)) (
    spec_NewPipe.J2 Post lengths_0b lengths_0l lengths_0c scatter_1b scatter_1l scatter_1c open_2 keep_3 loss_4 ⟨g1, 0, none⟩ false h6)) h2) h
noncomputable def spec_NewPipe.code : Code := (Tryz.f94.body).getD .skip
theorem spec_NewPipe.call {lengths_0b : Option Addr} {lengths_0l lengths_0c : Nat} {scatter_1b : Option Addr} {scatter_1l scatter_1c : Nat} {open_2 : Bool} {keep_3 : Nat} {loss_4 : Nat} {Post : Value → Heap → Prop} {h : Heap} (H : spec_NewPipe.S lengths_0b lengths_0l lengths_0c scatter_1b scatter_1l scatter_1c open_2 keep_3 loss_4 Post h) : CALL prg f_spec_NewPipe #[.slice lengths_0b lengths_0l lengths_0c, .slice scatter_1b scatter_1l scatter_1c, .bool open_2, .float .f32 keep_3, .float .f32 loss_4] Post h :=
  fn_call tau_ok mixed (c := spec_NewPipe.code) (Λ := lookL [(2, spec_NewPipe.j2 Post), (1000003, spec_NewPipe.l3 Post), (1000007, spec_NewPipe.l7 Post), (1000014, spec_NewPipe.l14 Post)]) Tryz.func94 (by kernel_rfl) (by kernel_rfl)
    (Rq.seq (by kernel_rfl) (Rq.free (by kernel_rfl)) (Rq.seqJ (spec_NewPipe.j2 Post) (by kernel_rfl) (seg (fun _ _ => by kernel_rfl)) (Rq.free (by kernel_rfl))
(Rq.seq (by kernel_rfl) (Rq.seq (by kernel_rfl) (Rq.free (by kernel_rfl)) (Rq.block (Rq.loop (spec_NewPipe.l3 Post) (by kernel_rfl) (segL (g := spec_NewPipe.g3) tau_ok mixed (Λ := fun N3 => lookL [(5, spec_NewPipe.j5 N3 Post)]) (fun _ _ _ => by kernel_rfl) (fun N3 => (Rq.seqJ (spec_NewPipe.j5 N3 Post) (by kernel_rfl) (seg (fun _ _ => by kernel_rfl)) (Rq.free (by kernel_rfl))
(Rq.free (by kernel_rfl)))))))) (Rq.seq (by kernel_rfl) (Rq.seq (by kernel_rfl) (Rq.free (by kernel_rfl)) (Rq.block (Rq.loop (spec_NewPipe.l7 Post) (by kernel_rfl) (segL (g := spec_NewPipe.g7) tau_ok mixed (Λ := fun N7 => lookL [(9, spec_NewPipe.j9 N7 Post)]) (fun _ _ _ => by kernel_rfl) (fun N7 => (Rq.seqJ (spec_NewPipe.j9 N7 Post) (by kernel_rfl) (seg (fun _ _ => by kernel_rfl)) (Rq.free (by kernel_rfl))
(Rq.free (by kernel_rfl)))))))) (Rq.seq (by kernel_rfl) (Rq.free (by kernel_rfl)) (Rq.seq (by kernel_rfl) (Rq.free (by kernel_rfl)) (Rq.seq (by kernel_rfl) (Rq.seq (by kernel_rfl) (Rq.free (by kernel_rfl)) (Rq.block (Rq.loop (spec_NewPipe.l14 Post) (by kernel_rfl) (segL (g := spec_NewPipe.g14) tau_ok mixed (Λ := fun N14 => lookL []) (fun _ _ _ => by kernel_rfl) (fun N14 => (Rq.free (by kernel_rfl))))))) (Rq.free (by kernel_rfl)))))))))
    (Eq.mp (by kernel_rfl) H)

end Go.Sx
/- New strings. -/
set_option linter.unusedVariables false
set_option linter.unusedSimpArgs false
namespace Go.Sx
open Go.Proofs Ieee
set_option maxRecDepth 100000
set_option maxHeartbeats 1000000

def allpassFor (f : Nat) : GFilter := if inside f 0 1073741824 then ⟨3, [fdiv .f32 (fsub .f32 1065353216 f) (fadd .f32 1065353216 f), 0, 0], [0, 0]⟩ else z_Filter
def oneZero (m : Nat) : GFilter := ⟨2, [fsub .f32 1065353216 m, m, 0], [0, 0]⟩
def onePole (k : Nat) : GFilter := ⟨1, [fsub .f32 1065353216 k, k, 0], [0, 0]⟩
def strN (p m : Nat) : Nat := if flt .f32 (fsub .f32 (fsub .f32 p m) (FloatKind.f32.nearest ((floorN (fsub .f32 p m) : Nat) : Int))) 1048576000 then floorN (fsub .f32 p m) - 1 else floorN (fsub .f32 p m)
def strOf (p m l : Nat) : GString := { Loop := ⟨List.replicate (strN p m) 0, 0⟩, Tune := allpassFor (fsub .f32 (fsub .f32 p m) (FloatKind.f32.nearest ((strN p m : Nat) : Int))), Damp := oneZero m, Loss := l }
def newString (p m l : Nat) : GString × Int := if inside p 1077936128 1149239296 then if inside m 0 1056964608 then if inside l 0 1065353216 then (strOf p m l, 0) else (z_String, 2) else (z_String, 2) else (z_String, 2)
/-- A filter's cells. -/
def flC (k : Int) (a b c d e : Nat) : List Value := [.int .i64 k, .float .f32 a, .float .f32 b, .float .f32 c, .float .f32 d, .float .f32 e]
theorem filter_ow {k : Int} {a b c d e a' b' c' d' e' : Nat} (ha : FW .f32 a a') (hb : FW .f32 b b') (hc : FW .f32 c c') (hd : FW .f32 d d') (he : FW .f32 e e') : rFilter.ow [] (flC k a b c d e) ⟨k, [a', b', c'], [d', e']⟩ :=
  ⟨[], [], [.int .i64 k], _, rfl, rfl, ⟨rfl, rfl⟩, [], [], [.float .f32 a, .float .f32 b, .float .f32 c], [.float .f32 d, .float .f32 e], rfl, rfl,
    ⟨rfl, [], [], [.float .f32 a], _, rfl, rfl, ⟨rfl, a, rfl, ha⟩, [], [], [.float .f32 b], _, rfl, rfl, ⟨rfl, b, rfl, hb⟩, [], [], [.float .f32 c], [], rfl, rfl, ⟨rfl, c, rfl, hc⟩, rfl, rfl⟩,
    ⟨rfl, [], [], [.float .f32 d], _, rfl, rfl, ⟨rfl, d, rfl, hd⟩, [], [], [.float .f32 e], [], rfl, rfl, ⟨rfl, e, rfl, he⟩, rfl, rfl⟩⟩
theorem ring_ow {B : List Blk} {b : Option Addr} {l c : Nat} {r : GRing} (O : SlO T_float32 (rF .f32) B b l c r.Samples) : rRing.ow B [.slice b l c, .int .i64 r.At] r :=
  ⟨B, [], [.slice b l c], [.int .i64 r.At], by simp, rfl, ⟨b, l, c, rfl, O⟩, ⟨rfl, rfl⟩⟩
theorem c2 : FW .f32 1073741824 1073741824 := fw_c32 (by decide) (by decide)
theorem c3 : FW .f32 1077936128 1077936128 := fw_c32 (by decide) (by decide)
section
variable {h : Heap} {x a : Nat}
/-- A filter's cells that stand for one. -/
def FlR (u : Value) (f : GFilter) : Prop := ∃ (k : Int) (y z : Nat), u = .agg ⟨flC k y z 0 0 0⟩ ∧ rFilter.ow [] (flC k y z 0 0 0) f
theorem spec_OnePole_c (hx : FW .f32 x a) : CALL prg f_spec_OnePole #[.float .f32 x] (fun u h' => FlR u (onePole a) ∧ Ext h h') h :=
  spec_OnePole.call ((Mem.start h).alc fun g1 h1 x1 M => fS c1 hx fun r3 h3 => siz rfl (M.sta0 .here rfl (all_one rfl) rfl .here fun h3' M => M.lda0 .here rfl ⟨⟨1, r3, x, rfl, filter_ow h3 hx fw0 fw0 fw0⟩, M.ext⟩))
end
end Go.Sx
