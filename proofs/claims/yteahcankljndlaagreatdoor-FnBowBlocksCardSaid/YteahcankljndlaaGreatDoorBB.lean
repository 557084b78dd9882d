/- What functions of this seat's program compute, told in words (a predicate over heaps for each), and the proofs that the words are no more than the code's own weakest precondition. -/
import Derived.Test.YteahcankljndlaaGreatDoorTab
import Derived.Test.YteahcankljndlaaGreatDoorLk19
import Derived.Laws.BytesString
import Derived.Test.YteahcankljndlaaGreatDoorLgn
import Derived.Test.YteahcankljndlaaGreatDoorLf8
import Derived.Test.YteahcankljndlaaGreatDoorLr6
import Derived.Lib.ItoaLen
import Derived.Test.YteahcankljndlaaGreatDoorLx1
import Derived.Sort.Grow
import Derived.Deep.Draws
namespace Go.Sx
open Go.Proofs
set_option linter.unusedVariables false
set_option maxRecDepth 100000

def spec_SameBow.S (x_0 : Array Value) (y_1 : Array Value) (Post : Value → Heap → Prop) (h : Heap) : Prop :=
    ALC x_0 T_impl_Bow (fun g1 h2 =>
    ALC y_1 T_impl_Bow (fun g3 h4 =>
    CALL prg f_spec_l05SameBow #[.pointer (some ⟨g1, 0, none⟩), .pointer (some ⟨g3, 0, none⟩)] (fun q5 h6 =>
    asB q5 fun b7 =>
    Post (.bool b7) h6) h4) h2) h
noncomputable def spec_SameBow.code : Code := (Tryz.f25.body).getD .skip
theorem spec_SameBow.call {x_0 : Array Value} {y_1 : Array Value} {Post : Value → Heap → Prop} {h : Heap} (H : spec_SameBow.S x_0 y_1 Post h) : CALL prg f_spec_SameBow #[.agg x_0, .agg y_1] Post h :=
  fn_call tau_ok mixed (c := spec_SameBow.code) (Λ := lookL []) Tryz.func25 (by kernel_rfl) (by kernel_rfl)
    (Rq.free (by kernel_rfl))
    (Eq.mp (by kernel_rfl) H)

def spec_PlayBow.B8 (Post : Value → Heap → Prop) (N8 : (Option Addr × Nat × Nat × Addr × Addr × Option Addr × Nat × Nat × Int) → Heap → Prop) : Option Addr × Nat × Nat × Addr × Addr × Option Addr × Nat × Nat × Int → Heap → Prop
  | (speeds_1b, speeds_1l, speeds_1c, t4, y_7, out_8b, out_8l, out_8c, i_9), h =>
    BIF ((decide (i_9 < (speeds_1l : Int)))) (
    IDXS speeds_1b i_9 speeds_1l fun p28 =>
    oF .f32 (cell h ((Addr.add p28 ((Int.toNat i_9) * 1)))) fun r29 =>
    CALL prg f_spec_l05StepBow #[.pointer (some y_7), .float .f32 r29] (fun q30 h31 =>
    asF .f32 q30 fun r32 =>
    ALC ⟨[.float .f32 r32]⟩ T_float32 (fun g33 h34 =>
    SEMV prg (Builtin.append_ #[T_sl_float32, T_sl_float32] T_sl_float32 #[.slice out_8b out_8l out_8c, .slice (some ⟨g33, 0, none⟩) 1 1]) (fun q35 h36 =>
    asL q35 fun l37b l37l l37c =>
    N8 (speeds_1b, speeds_1l, speeds_1c, t4, y_7, l37b, l37l, l37c, ((IntKind.i64.wrap (i_9 + (1 : Int))))) h36) h34) h31) h) (
    LDA 12 h y_7 fun a38 =>
    STA 12 h t4 a38 fun h39 =>
    LDA 12 h39 t4 fun a40 =>
    Post (.tuple ⟨[.agg a40, .slice out_8b out_8l out_8c, .int .i64 (0 : Int)]⟩) h39)
def spec_PlayBow.g8 (fr : Frame) : Option Addr × Nat × Nat × Addr × Addr × Option Addr × Nat × Nat × Int := ((gLb (lget fr 1)), (gLl (lget fr 1)), (gLc (lget fr 1)), (gP (lget fr 4)), (gP (lget fr 7)), (gLb (lget fr 8)), (gLl (lget fr 8)), (gLc (lget fr 8)), (gI (lget fr 9)))
def spec_PlayBow.l8 (Post : Value → Heap → Prop) : Frame → Heap → Prop := fun fr h => GRD (shape (kds 37 [(1, .l), (4, .p), (7, .p), (8, .l), (9, .i .i64)]) fr) (LOOP (spec_PlayBow.B8 Post) (spec_PlayBow.g8 fr) h)
def spec_PlayBow.S (x_0 : Array Value) (speeds_1b : Option Addr) (speeds_1l speeds_1c : Nat) (Post : Value → Heap → Prop) (h : Heap) : Prop :=
    ALC x_0 T_impl_Bow (fun g1 h2 =>
    ALC ⟨Z_impl_Bow⟩ T_impl_Bow (fun g3 h4 =>
    CALL prg f_spec_l05Bow #[.pointer (some ⟨g1, 0, none⟩)] (fun q5 h6 =>
    asB q5 fun b7 =>
    BIF (!b7) (
    ALC ⟨[]⟩ T_float32 (fun g8 h9 =>
    STA 12 h9 ⟨g3, 0, none⟩ (⟨[.slice none 0 0, .int .i64 (0 : Int), .slice none 0 0, .int .i64 (0 : Int), .int .i64 (0 : Int), .float .f32 0, .float .f32 0, .float .f32 0, .float .f32 0, .float .f32 0, .float .f32 0, .float .f32 0]⟩ : Array Value) fun h10 =>
    LDA 12 h10 ⟨g3, 0, none⟩ fun a11 =>
    Post (.tuple ⟨[.agg a11, .slice (some ⟨g8, 0, none⟩) 0 0, .int .i64 (1 : Int)]⟩) h10) h6) (
    BIF ((decide ((4096 : Int) < (speeds_1l : Int)))) (
    ALC ⟨[]⟩ T_float32 (fun g14 h15 =>
    STA 12 h15 ⟨g3, 0, none⟩ (⟨[.slice none 0 0, .int .i64 (0 : Int), .slice none 0 0, .int .i64 (0 : Int), .int .i64 (0 : Int), .float .f32 0, .float .f32 0, .float .f32 0, .float .f32 0, .float .f32 0, .float .f32 0, .float .f32 0]⟩ : Array Value) fun h16 =>
    LDA 12 h16 ⟨g3, 0, none⟩ fun a17 =>
    Post (.tuple ⟨[.agg a17, .slice (some ⟨g14, 0, none⟩) 0 0, .int .i64 (3 : Int)]⟩) h16) h6) (
    CALL prg f_spec_l05CopyBow #[.pointer (some ⟨g1, 0, none⟩)] (fun q18 h19 =>
    asA q18 fun a20 =>
    ALC ⟨Z_impl_Bow⟩ T_impl_Bow (fun g21 h22 =>
    STA 12 h22 ⟨g21, 0, none⟩ a20 fun h23 =>
    ALC ⟨[]⟩ T_float32 (fun g24 h25 =>
    LOOP (spec_PlayBow.B8 Post) (speeds_1b, speeds_1l, speeds_1c, ⟨g3, 0, none⟩, ⟨g21, 0, none⟩, (some ⟨g24, 0, none⟩), 0, 0, (0 : Int)) h25) h23) h19) h6))) h4) h2) h
noncomputable def spec_PlayBow.code : Code := (Tryz.f23.body).getD .skip
theorem spec_PlayBow.call {x_0 : Array Value} {speeds_1b : Option Addr} {speeds_1l speeds_1c : Nat} {Post : Value → Heap → Prop} {h : Heap} (H : spec_PlayBow.S x_0 speeds_1b speeds_1l speeds_1c Post h) : CALL prg f_spec_PlayBow #[.agg x_0, .slice speeds_1b speeds_1l speeds_1c] Post h :=
  fn_call tau_ok mixed (c := spec_PlayBow.code) (Λ := lookL [(1000008, spec_PlayBow.l8 Post)]) Tryz.func23 (by kernel_rfl) (by kernel_rfl)
    (Rq.seq (by kernel_rfl) (Rq.free (by kernel_rfl)) (Rq.seq (by kernel_rfl) (Rq.free (by kernel_rfl)) (Rq.seq (by kernel_rfl) (Rq.free (by kernel_rfl)) (Rq.seq (by kernel_rfl) (Rq.free (by kernel_rfl)) (Rq.seq (by kernel_rfl) (Rq.free (by kernel_rfl)) (Rq.seq (by kernel_rfl) (Rq.seq (by kernel_rfl) (Rq.free (by kernel_rfl)) (Rq.block (Rq.loop (spec_PlayBow.l8 Post) (by kernel_rfl) (segL (g := spec_PlayBow.g8) tau_ok mixed (Λ := fun N8 => lookL []) (fun _ _ _ => by kernel_rfl) (fun N8 => (Rq.free (by kernel_rfl))))))) (Rq.free (by kernel_rfl))))))))
    (Eq.mp (by kernel_rfl) H)

def impl_BlockOfBow_c1.S (i_0 : Int) (t1 : Addr) (t2 : Addr) (Post : Value → Heap → Prop) (h : Heap) : Prop :=
    IDX i_0 16 <|
    oF .f32 (cell h ((Addr.add t2 ((Int.toNat i_0) * 1)))) fun r1 =>
    CALL prg f_p_impl_Bow_step #[.pointer (some t1), .float .f32 r1] (fun q2 h3 =>
    asF .f32 q2 fun r4 =>
    Post (.float .f32 r4) h3) h
noncomputable def impl_BlockOfBow_c1.code : Code := (Tryz.f66.body).getD .skip
theorem impl_BlockOfBow_c1.call {i_0 : Int} {t1 : Addr} {t2 : Addr} {Post : Value → Heap → Prop} {h : Heap} (H : impl_BlockOfBow_c1.S i_0 t1 t2 Post h) : CALL prg f_impl_BlockOfBow_c1 #[.int .i64 i_0, .pointer (some t1), .pointer (some t2)] Post h :=
  fn_call tau_ok mixed (c := impl_BlockOfBow_c1.code) (Λ := lookL []) Tryz.func66 (by kernel_rfl) (by kernel_rfl)
    (Rq.free (by kernel_rfl))
    (Eq.mp (by kernel_rfl) H)

def impl_BlockOfBow.S (x_0 : Array Value) (speeds_1 : Array Value) (Post : Value → Heap → Prop) (h : Heap) : Prop :=
    ALC x_0 T_impl_Bow (fun g1 h2 =>
    ALC speeds_1 T_impl_Block (fun g3 h4 =>
    ALC ⟨Z_impl_Bow⟩ T_impl_Bow (fun g5 h6 =>
    ALC ⟨Z_impl_Block⟩ T_impl_Block (fun g7 h8 =>
    LDA 12 h8 ⟨g1, 0, none⟩ fun a9 =>
    CALL prg f_impl_ValidBow #[.agg a9] (fun q10 h11 =>
    asB q10 fun b12 =>
    BIF (!b12) (
    STA 12 h11 ⟨g5, 0, none⟩ (⟨[.slice none 0 0, .int .i64 (0 : Int), .slice none 0 0, .int .i64 (0 : Int), .int .i64 (0 : Int), .float .f32 0, .float .f32 0, .float .f32 0, .float .f32 0, .float .f32 0, .float .f32 0, .float .f32 0]⟩ : Array Value) fun h13 =>
    STA 16 h13 ⟨g7, 0, none⟩ (⟨[.float .f32 0, .float .f32 0, .float .f32 0, .float .f32 0, .float .f32 0, .float .f32 0, .float .f32 0, .float .f32 0, .float .f32 0, .float .f32 0, .float .f32 0, .float .f32 0, .float .f32 0, .float .f32 0, .float .f32 0, .float .f32 0]⟩ : Array Value) fun h14 =>
    LDA 12 h14 ⟨g5, 0, none⟩ fun a15 =>
    LDA 16 h14 ⟨g7, 0, none⟩ fun a16 =>
    Post (.tuple ⟨[.agg a15, .agg a16, .int .i64 (1 : Int)]⟩) h14) (
    LDA 12 h11 ⟨g1, 0, none⟩ fun a17 =>
    CALL prg f_impl_Bow_clone #[.agg a17] (fun q18 h19 =>
    asA q18 fun a20 =>
    STA 12 h19 ⟨g1, 0, none⟩ a20 fun h21 =>
    CALL prg f_impl_made #[.func (.func 66) #[] #[.pointer (some ⟨g1, 0, none⟩), .pointer (some ⟨g3, 0, none⟩)]] (fun q22 h23 =>
    asA q22 fun a24 =>
    ALC ⟨Z_impl_Block⟩ T_impl_Block (fun g25 h26 =>
    STA 16 h26 ⟨g25, 0, none⟩ a24 fun h27 =>
    LDA 12 h27 ⟨g1, 0, none⟩ fun a28 =>
    LDA 16 h27 ⟨g25, 0, none⟩ fun a29 =>
    STA 12 h27 ⟨g5, 0, none⟩ a28 fun h30 =>
    PIN h27 ⟨g25, 0, none⟩ 16 h30 <|
    STA 16 h30 ⟨g7, 0, none⟩ a29 fun h31 =>
    LDA 12 h31 ⟨g5, 0, none⟩ fun a32 =>
    LDA 16 h31 ⟨g7, 0, none⟩ fun a33 =>
    Post (.tuple ⟨[.agg a32, .agg a33, .int .i64 (0 : Int)]⟩) h31) h23) h21) h11)) h8) h6) h4) h2) h
noncomputable def impl_BlockOfBow.code : Code := (Tryz.f24.body).getD .skip
theorem impl_BlockOfBow.call {x_0 : Array Value} {speeds_1 : Array Value} {Post : Value → Heap → Prop} {h : Heap} (H : impl_BlockOfBow.S x_0 speeds_1 Post h) : CALL prg f_impl_BlockOfBow #[.agg x_0, .agg speeds_1] Post h :=
  fn_call tau_ok mixed (c := impl_BlockOfBow.code) (Λ := lookL []) Tryz.func24 (by kernel_rfl) (by kernel_rfl)
    (Rq.free (by kernel_rfl))
    (Eq.mp (by kernel_rfl) H)

def impl_MuteBow.S (x_0 : Array Value) (Post : Value → Heap → Prop) (h : Heap) : Prop :=
    ALC x_0 T_impl_Bow (fun g1 h2 =>
    ALC ⟨Z_impl_Bow⟩ T_impl_Bow (fun g3 h4 =>
    LDA 12 h4 ⟨g1, 0, none⟩ fun a5 =>
    CALL prg f_impl_ValidBow #[.agg a5] (fun q6 h7 =>
    asB q6 fun b8 =>
    BIF (!b8) (
    STA 12 h7 ⟨g3, 0, none⟩ (⟨[.slice none 0 0, .int .i64 (0 : Int), .slice none 0 0, .int .i64 (0 : Int), .int .i64 (0 : Int), .float .f32 0, .float .f32 0, .float .f32 0, .float .f32 0, .float .f32 0, .float .f32 0, .float .f32 0]⟩ : Array Value) fun h9 =>
    LDA 12 h9 ⟨g3, 0, none⟩ fun a10 =>
    Post (.tuple ⟨[.agg a10, .int .i64 (1 : Int)]⟩) h9) (
    CALL prg f_p_impl_Ring_mute #[.pointer (some ⟨g1, 0, none⟩)] (fun q11 h12 =>
    CALL prg f_p_impl_Ring_mute #[.pointer (some ⟨g1, 2, none⟩)] (fun q13 h14 =>
    STA 2 h14 ⟨g1, 8, none⟩ (⟨[.float .f32 0, .float .f32 0]⟩ : Array Value) fun h15 =>
    LDA 12 h15 ⟨g1, 0, none⟩ fun a16 =>
    STA 12 h15 ⟨g3, 0, none⟩ a16 fun h17 =>
    LDA 12 h17 ⟨g3, 0, none⟩ fun a18 =>
    Post (.tuple ⟨[.agg a18, .int .i64 (0 : Int)]⟩) h17) h12) h7)) h4) h2) h
noncomputable def impl_MuteBow.code : Code := (Tryz.f28.body).getD .skip
theorem impl_MuteBow.call {x_0 : Array Value} {Post : Value → Heap → Prop} {h : Heap} (H : impl_MuteBow.S x_0 Post h) : CALL prg f_impl_MuteBow #[.agg x_0] Post h :=
  fn_call tau_ok mixed (c := impl_MuteBow.code) (Λ := lookL []) Tryz.func28 (by kernel_rfl) (by kernel_rfl)
    (Rq.free (by kernel_rfl))
    (Eq.mp (by kernel_rfl) H)

end Go.Sx
/- What functions of this seat's program compute, told in words (a predicate over heaps for each), and the proofs that the words are no more than the code's own weakest precondition. -/
namespace Go.Sx
open Go.Proofs
set_option linter.unusedVariables false
set_option maxRecDepth 100000

def impl_BowText.S (x_0 : Array Value) (Post : Value → Heap → Prop) (h : Heap) : Prop :=
    ALC x_0 T_impl_Bow (fun g1 h2 =>
    LDA 12 h2 ⟨g1, 0, none⟩ fun a3 =>
    CALL prg f_impl_ValidBow #[.agg a3] (fun q4 h5 =>
    asB q4 fun b6 =>
    BIF (!b6) (
    Post (.string (⟨#[]⟩ : ByteArray)) h5) (
    oF .f32 (cell h5 ⟨g1, 10, none⟩) fun r7 =>
    oF .f32 (cell h5 ⟨g1, 11, none⟩) fun r8 =>
    LDA 6 h5 ⟨g1, 4, none⟩ fun a9 =>
    LDA 2 h5 ⟨g1, 0, none⟩ fun a10 =>
    LDA 2 h5 ⟨g1, 2, none⟩ fun a11 =>
    ALC ⟨[.float .f32 r7, .float .f32 r8]⟩ T_float32 (fun g12 h13 =>
    PIN h5 ⟨g1, 2, none⟩ 2 h13 <|
    PIN h5 ⟨g1, 0, none⟩ 2 h13 <|
    PIN h5 ⟨g1, 4, none⟩ 6 h13 <|
    CALL prg f_impl_samplesText #[.slice (some ⟨g12, 0, none⟩) 2 2] (fun q14 h15 =>
    asS q14 fun s16 =>
    PIN h5 ⟨g1, 2, none⟩ 2 h15 <|
    PIN h5 ⟨g1, 0, none⟩ 2 h15 <|
    PIN h5 ⟨g1, 4, none⟩ 6 h15 <|
    ((ByteArray.size (⟨#[98, 111, 119, 32]⟩ : ByteArray) + ByteArray.size s16 : Nat) : Int) ≤ 9223372036854775807 ∧ (
    ((ByteArray.size ((⟨#[98, 111, 119, 32]⟩ : ByteArray) ++ s16) + ByteArray.size (⟨#[10]⟩ : ByteArray) : Nat) : Int) ≤ 9223372036854775807 ∧ (
    CALL prg f_impl_FilterText #[.agg a9] (fun q17 h18 =>
    asS q17 fun s19 =>
    PIN h5 ⟨g1, 2, none⟩ 2 h18 <|
    PIN h5 ⟨g1, 0, none⟩ 2 h18 <|
    ((ByteArray.size ((((⟨#[98, 111, 119, 32]⟩ : ByteArray) ++ s16) ++ (⟨#[10]⟩ : ByteArray))) + ByteArray.size s19 : Nat) : Int) ≤ 9223372036854775807 ∧ (
    ((ByteArray.size (((((⟨#[98, 111, 119, 32]⟩ : ByteArray) ++ s16) ++ (⟨#[10]⟩ : ByteArray)) ++ s19)) + ByteArray.size (⟨#[10]⟩ : ByteArray) : Nat) : Int) ≤ 9223372036854775807 ∧ (
    CALL prg f_impl_ringText #[.agg a10] (fun q20 h21 =>
    asS q20 fun s22 =>
    PIN h5 ⟨g1, 2, none⟩ 2 h21 <|
    ((ByteArray.size ((((((⟨#[98, 111, 119, 32]⟩ : ByteArray) ++ s16) ++ (⟨#[10]⟩ : ByteArray)) ++ s19) ++ (⟨#[10]⟩ : ByteArray))) + ByteArray.size s22 : Nat) : Int) ≤ 9223372036854775807 ∧ (
    ((ByteArray.size (((((((⟨#[98, 111, 119, 32]⟩ : ByteArray) ++ s16) ++ (⟨#[10]⟩ : ByteArray)) ++ s19) ++ (⟨#[10]⟩ : ByteArray)) ++ s22)) + ByteArray.size (⟨#[10]⟩ : ByteArray) : Nat) : Int) ≤ 9223372036854775807 ∧ (
    CALL prg f_impl_ringText #[.agg a11] (fun q23 h24 =>
    asS q23 fun s25 =>
    ((ByteArray.size ((((((((⟨#[98, 111, 119, 32]⟩ : ByteArray) ++ s16) ++ (⟨#[10]⟩ : ByteArray)) ++ s19) ++ (⟨#[10]⟩ : ByteArray)) ++ s22) ++ (⟨#[10]⟩ : ByteArray))) + ByteArray.size s25 : Nat) : Int) ≤ 9223372036854775807 ∧ (
    ((ByteArray.size (((((((((⟨#[98, 111, 119, 32]⟩ : ByteArray) ++ s16) ++ (⟨#[10]⟩ : ByteArray)) ++ s19) ++ (⟨#[10]⟩ : ByteArray)) ++ s22) ++ (⟨#[10]⟩ : ByteArray)) ++ s25)) + ByteArray.size (⟨#[10]⟩ : ByteArray) : Nat) : Int) ≤ 9223372036854775807 ∧ (
    Post (.string ((((((((((⟨#[98, 111, 119, 32]⟩ : ByteArray) ++ s16) ++ (⟨#[10]⟩ : ByteArray)) ++ s19) ++ (⟨#[10]⟩ : ByteArray)) ++ s22) ++ (⟨#[10]⟩ : ByteArray)) ++ s25) ++ (⟨#[10]⟩ : ByteArray)))) h24))) h21))) h18))) h15))) h13) h5)) h2) h
noncomputable def impl_BowText.code : Code := (Tryz.f27.body).getD .skip
theorem impl_BowText.call {x_0 : Array Value} {Post : Value → Heap → Prop} {h : Heap} (H : impl_BowText.S x_0 Post h) : CALL prg f_impl_BowText #[.agg x_0] Post h :=
  fn_call tau_ok mixed (c := impl_BowText.code) (Λ := lookL []) Tryz.func27 (by kernel_rfl) (by kernel_rfl)
    (Rq.free (by kernel_rfl))
    (Eq.mp (by kernel_rfl) H)

def impl_ReadBow.S (text_0 : ByteArray) (Post : Value → Heap → Prop) (h : Heap) : Prop :=
    ALC ⟨Z_impl_Bow⟩ T_impl_Bow (fun g1 h2 =>
    CALL prg f_impl_readPair #[.string text_0, .int .i64 (1 : Int)] (fun q3 h4 =>
    TUP4 q3 fun q5 q6 q7 q8 =>
    asL q5 fun l9b l9l l9c =>
    asL q6 fun l10b l10l l10c =>
    asL q7 fun l11b l11l l11c =>
    asB q8 fun b12 =>
    BIF (!b12) (
    STA 12 h4 ⟨g1, 0, none⟩ (⟨[.slice none 0 0, .int .i64 (0 : Int), .slice none 0 0, .int .i64 (0 : Int), .int .i64 (0 : Int), .float .f32 0, .float .f32 0, .float .f32 0, .float .f32 0, .float .f32 0, .float .f32 0, .float .f32 0]⟩ : Array Value) fun h13 =>
    LDA 12 h13 ⟨g1, 0, none⟩ fun a14 =>
    Post (.tuple ⟨[.agg a14, .int .i64 (5 : Int)]⟩) h13) (
    IDXS l11b (0 : Int) l11l fun p15 =>
    LDA 2 h4 p15 fun a16 =>
    IDXS l11b (1 : Int) l11l fun p17 =>
    LDA 2 h4 (Addr.add p17 2) fun a18 =>
    IDXS l10b (0 : Int) l10l fun p19 =>
    LDA 6 h4 p19 fun a20 =>
    IDXS l9b (0 : Int) l9l fun p21 =>
    oF .f32 (cell h4 p21) fun r22 =>
    IDXS l9b (1 : Int) l9l fun p23 =>
    oF .f32 (cell h4 (Addr.add p23 1)) fun r24 =>
    SIZ (Array.size a16) 2 <|
    SIZ (Array.size a18) 2 <|
    SIZ (Array.size a20) 6 <|
    ALC ⟨Z_impl_Bow⟩ T_impl_Bow (fun g25 h26 =>
    PIN h4 (Addr.add p23 1) 1 h26 <|
    PIN h4 p21 1 h26 <|
    PIN h4 p19 6 h26 <|
    PIN h4 (Addr.add p17 2) 2 h26 <|
    PIN h4 p15 2 h26 <|
    STA 12 h26 ⟨g25, 0, none⟩ ⟨(List.set (List.set (splice 4 6 a20 (splice 2 2 a18 (splice 0 2 a16 [.slice none 0 0, .int .i64 (0 : Int), .slice none 0 0, .int .i64 (0 : Int), .int .i64 (0 : Int), .float .f32 0, .float .f32 0, .float .f32 0, .float .f32 0, .float .f32 0, .float .f32 0, .float .f32 0]))) 10 (.float .f32 r22)) 11 (.float .f32 r24))⟩ fun h27 =>
    LDA 12 h27 ⟨g25, 0, none⟩ fun a28 =>
    CALL prg f_impl_BowText #[.agg a28] (fun q29 h30 =>
    asS q29 fun s31 =>
    BIF (!(ByteArray.toList s31 == ByteArray.toList text_0)) (
    STA 12 h30 ⟨g1, 0, none⟩ (⟨[.slice none 0 0, .int .i64 (0 : Int), .slice none 0 0, .int .i64 (0 : Int), .int .i64 (0 : Int), .float .f32 0, .float .f32 0, .float .f32 0, .float .f32 0, .float .f32 0, .float .f32 0, .float .f32 0]⟩ : Array Value) fun h32 =>
    LDA 12 h32 ⟨g1, 0, none⟩ fun a33 =>
    Post (.tuple ⟨[.agg a33, .int .i64 (5 : Int)]⟩) h32) (
    LDA 12 h30 ⟨g25, 0, none⟩ fun a34 =>
    STA 12 h30 ⟨g1, 0, none⟩ a34 fun h35 =>
    LDA 12 h35 ⟨g1, 0, none⟩ fun a36 =>
    Post (.tuple ⟨[.agg a36, .int .i64 (0 : Int)]⟩) h35)) h27) h4)) h2) h
noncomputable def impl_ReadBow.code : Code := (Tryz.f26.body).getD .skip
theorem impl_ReadBow.call {text_0 : ByteArray} {Post : Value → Heap → Prop} {h : Heap} (H : impl_ReadBow.S text_0 Post h) : CALL prg f_impl_ReadBow #[.string text_0] Post h :=
  fn_call tau_ok mixed (c := impl_ReadBow.code) (Λ := lookL []) Tryz.func26 (by kernel_rfl) (by kernel_rfl)
    (Rq.free (by kernel_rfl))
    (Eq.mp (by kernel_rfl) H)

end Go.Sx
/- Bows compared, played by the rule, played as a block, muted. -/
set_option linter.unusedVariables false
set_option linter.unusedSimpArgs false
namespace Go.Sx
open Go.Proofs
set_option maxRecDepth 100000
set_option maxHeartbeats 2000000
section
variable {h0 h : Heap} {L : List Blk} {g : Nat} {x : GBow} {b cb : Option Addr} {l c cc : Nat} {xs : List Nat} {cs : Array Value} {bs : List Int}
theorem spec_SameBow_c {ca cb : Array Value} {x y : GBow} (Ra : rBow.rd h ca.toList x) (Rb : rBow.rd h cb.toList y) : CALL prg f_spec_SameBow #[.agg ca, .agg cb] (fun u h' => u = .bool (same x y) ∧ Ext h h') h := by
  refine spec_SameBow.call (alcR Ra fun g1 h1 x1 A => alcR (rBow.ext x1 Rb) fun g2 h2 x2 B => (l05SameBow_c (A.ext x2) B).mono ?_)
  rintro _ h3 ⟨rfl, x3⟩
  exact as_b ⟨rfl, x1.trans (x2.trans x3)⟩
theorem spec_PlayBow_c (R0 : rBow.rd h cs.toList x) (S0 : SlR (rF .f32) h b l c xs) (hok : x.ok = true) (hxs : xs.length ≤ 4096) : CALL prg f_spec_PlayBow #[.agg cs, .slice b l c] (fun u h' => TriG rBow h h' u (playG GBow.step x xs).1 (playG GBow.step x xs).2 0) h := by
  have hl := S0.len
  have hm : (4097 : Nat) ≤ maxLen := by decide
  refine spec_PlayBow.call ((Mem.start h).alc fun g1 h1 x1 M => M.alc fun g3 h2 x2 M => ?_)
  have R1 : RdP rBow h2 ⟨g1, 0, none⟩ x := M.rdp (.there .here) (rBow.ext M.ext R0)
  refine goM M (l05Bow_c R1) fun h3 M => as_b ?_
  rw [hok]
  refine br_f rfl (brd (fun hc => by omega) fun hc => ?_)
  have hs := bow_small hok
  have R3 : RdP rBow h3 ⟨g1, 0, none⟩ x := M.rdp (.there .here) (rBow.ext M.ext R0)
  refine NewR.go M (l05CopyBow_c R3 hs.1 hs.2) fun h4 c4 B4 M O4 s4 => as_a (M.alc fun g21 h5 x5 M => ?_)
  refine M.sta0 .here s4 (rBow.oone O4) rfl .here fun h6 M => ?_
  have P : Pt rBow h h6 ⟨g21, 0, none⟩ ⟨g21, T_impl_Bow, [], []⟩ [(g3, T_impl_Bow, ⟨Z_impl_Bow⟩), (g1, T_impl_Bow, cs)] x := Pt.new O4 M
  refine Mem.alc (Mem.start h6) fun g24 h7 x7 N => ?_
  have P : Pt rBow h h7 ⟨g21, 0, none⟩ ⟨g21, T_impl_Bow, [], []⟩ ([(g24, T_float32, ⟨[]⟩)] ++ [(g3, T_impl_Bow, ⟨Z_impl_Bow⟩), (g1, T_impl_Bow, cs)]) x := P.join N
  refine loop (fun y hh => ∃ (n : Nat) (b' : Option Addr) (c' : Nat) (B : List Blk), y = (b, l, c, ⟨g3, 0, none⟩, ⟨g21, 0, none⟩, b', n, c', (n : Int)) ∧ n ≤ l ∧ SlO T_float32 (rF .f32) B b' n c' (playG GBow.step x (xs.take n)).2 ∧
    Pt rBow h hh ⟨g21, 0, none⟩ ⟨g21, T_impl_Bow, [], []⟩ (B ++ [(g3, T_impl_Bow, ⟨Z_impl_Bow⟩), (g1, T_impl_Bow, cs)]) (playG GBow.step x (xs.take n)).1) (fun y => (l - y.2.2.2.2.2.2.2.2).toNat)
    ⟨0, _, _, [(g24, T_float32, ⟨[]⟩)], rfl, by omega, SlO.empty g24, P⟩ ?_
  rintro y hh ⟨n, b', c', B, rfl, hn, O, P⟩
  refine brd (fun hc => ?_) fun hc => ?_
  · have rg := bow_rings (playB_ok hok (xs.take n))
    refine (S0.ext P.ext).idx (by decide) (by omega) (by omega) fun p Rp => Rp.oF1 fun w hw => ((l05StepBow_c P rg.1 rg.2 hw).mono ?_)
    rintro _ h8 ⟨⟨y, rfl, hy⟩, P⟩
    refine as_f (Pt.push P E_sl_float32 O ⟨rfl, _, rfl, hy⟩ (by omega) (by omega) fun b2 c2 h9 B2 O2 P2 => as_l ⟨⟨n + 1, b2, c2, B2, by rw [wrap64_succ (by omega)], by omega, ?_, ?_⟩, by rw [wrap64_succ (by omega)]; show _ < _; simp; omega⟩)
    · rw [playG_step (by omega)]; exact O2
    · rw [playG_step (by omega)]; exact P2
  obtain rfl : n = l := by omega
  rw [← hl, List.take_length] at O P
  obtain ⟨cs', BR, M, OR⟩ := P.out
  refine M.lda0 .here (osz OR rfl) ?_
  have M := M.cnt (W := (g3, T_impl_Bow, ⟨Z_impl_Bow⟩) :: (BR ++ B)) (fun p => by simp only [cnt_app, cnt_cons, cnt_nil] at *; omega)
  refine M.sta0 .here (osz OR rfl) (rBow.oone OR) rfl .here fun h3 M => M.lda0 .here (osz OR rfl) ?_
  rw [← hl]
  exact ⟨_, BR, _, _, _, B, rfl, OR, O, M.drop⟩
theorem impl_BlockOfBow_c {ca : Array Value} (R0 : rBow.rd h cs.toList x) (Rb : FA 16 ca xs) (hok : x.ok = true) : CALL prg f_impl_BlockOfBow #[.agg cs, .agg ca] (fun u h' => TriB rBow h h' u (playG GBow.step x xs).1 (playG GBow.step x xs).2) h := by
  have hx16 : xs.length = 16 := Rb.1
  have hs := bow_small hok
  refine impl_BlockOfBow.call ((Mem.start h).alc fun g1 h1 x1 M => M.alc fun g2 h2 x2 M => M.alc fun g3 h2 x2 M => M.alc fun g4 h2 x2 M => M.lda0 (.there (.there (.there .here))) (rsz R0 rfl) ?_)
  refine goM M (ValidBow_c (rBow.ext M.ext R0)) fun h3 M => as_b ?_
  rw [hok]
  refine br_f rfl (M.lda0 (.there (.there (.there .here))) (rsz R0 rfl) (NewR.go M (Bow_clone_c (rBow.ext M.ext R0) hs.1 hs.2) fun h4 c4 B4 M O4 s4 => as_a ?_))
  have M := M.cnt (W := (g1, T_impl_Bow, cs) :: (B4 ++ [(g4, T_impl_Block, ⟨Z_impl_Block⟩), (g3, T_impl_Bow, ⟨Z_impl_Bow⟩), (g2, T_impl_Block, ca)])) (fun p => by simp only [cnt_app, cnt_cons, cnt_nil] at *; omega)
  refine M.sta0 .here s4 (rBow.oone O4) (rsz R0 rfl) .here fun h6 M => ?_
  have P : Pt rBow h h6 ⟨g1, 0, none⟩ ⟨g1, T_impl_Bow, [], []⟩ [(g4, T_impl_Block, ⟨Z_impl_Block⟩), (g3, T_impl_Bow, ⟨Z_impl_Bow⟩), (g2, T_impl_Block, ca)] (gN GBow.step x xs 0) := Pt.new O4 M
  refine (made_c (X := gN GBow.step x xs) (f := outN GBow.step x xs) P fun n hh W hn P => ?_).mono ?_
  · show CALL prg f_impl_BlockOfBow_c1 #[.int .i64 (n : Int), .pointer (some ⟨g1, 0, none⟩), .pointer (some ⟨g2, 0, none⟩)] _ hh
    have rg := bow_rings (playB_ok hok (xs.take n))
    refine impl_BlockOfBow_c1.call (idx (by omega) (by omega) ((Look.skip (.there (.there .here))).oA P.mem Rb (i := n) hn fun w hw => (Bow_step_c P rg.1 rg.2 hw).mono ?_))
    rintro _ h8 ⟨⟨y, rfl, hy⟩, P⟩
    refine as_f ⟨⟨y, rfl, hy⟩, ?_⟩
    rw [gN_step (by omega)]; exact P
  rintro _ h7 ⟨co, rfl, Fo, P⟩
  rw [outN_all hx16] at Fo
  rw [gN_all hx16] at P
  refine as_a ((Mem.start h7).alc fun g5 h8 x8 N => N.sta0 .here Fo.size Fo.one rfl .here fun h9 N => ?_)
  have P := P.join N
  obtain ⟨cs', B, M, O⟩ := P.out
  refine M.lda0 .here (osz O rfl) (M.lda0 (.there (Look.skip .here)) Fo.size ?_)
  have M := M.cnt (W := (g3, T_impl_Bow, ⟨Z_impl_Bow⟩) :: (g4, T_impl_Block, ⟨Z_impl_Block⟩) :: (g5, T_impl_Block, co) :: B) (fun p => by simp only [cnt_app, cnt_cons, cnt_nil] at *; omega)
  refine M.sta0 .here (osz O rfl) (rBow.oone O) rfl .here fun h3 M2 => M.pin2 (.there (.there .here)) M2 (.there (.there .here)) (M2.sta0 (.there .here) Fo.size Fo.one rfl (.there .here) fun h4 M => ?_)
  refine M.lda0 .here (osz O rfl) (M.lda0 (.there .here) Fo.size ?_)
  exact ⟨_, B, _, rfl, O, Fo, M.drop.drop.drop⟩
theorem impl_MuteBow_c (R0 : rBow.rd h cs.toList x) (hok : x.ok = true) : CALL prg f_impl_MuteBow #[.agg cs] (fun u h' => PairR rBow h h' u x.mute 0) h := by
  have hs := bow_small hok
  have R0' := R0
  obtain ⟨b1, l1, c1, b2, l2, c2, v, y, z, rfl, O1, hy, hz⟩ := bow_cells R0
  have hl1 : x.Neck.Samples.length = l1 := by
    obtain ⟨_, _, e, ⟨_, _, rfl, ⟨b, l, c, rfl, S⟩, _⟩, _⟩ := R0
    have e : [Value.slice b1 l1 c1] ++ _ = [Value.slice b l c] ++ _ := e
    injection e with e _
    injection e with _ e _
    rw [e]; exact S.len
  have hl2 : x.Bridge.Samples.length = l2 := by
    obtain ⟨_, _, e, ⟨_, _, rfl, ⟨b, l, c, rfl, S⟩, k1⟩, _, _, rfl, ⟨_, _, rfl, ⟨b', l', c', rfl, S'⟩, k2⟩, _⟩ := R0
    have k1 : _ = [Value.int .i64 x.Neck.At] := k1
    have k2 : _ = [Value.int .i64 x.Bridge.At] := k2
    subst k1 k2
    have e : [Value.slice b1 l1 c1, .int .i64 x.Neck.At, Value.slice b2 l2 c2] ++ _ = [Value.slice b l c, .int .i64 x.Neck.At, Value.slice b' l' c'] ++ _ := e
    injection e with _ e
    injection e with _ e
    injection e with e _
    injection e with _ e _
    rw [e]; exact S'.len
  refine impl_MuteBow.call ((Mem.start h).alc fun g1 h1 x1 M => M.alc fun g3 h2 x2 M => M.lda0 (.there .here) rfl (goM M (ValidBow_c (rBow.ext M.ext R0')) fun h3 M => as_b ?_))
  rw [hok]
  have M : Mem h h3 ((g1, T_impl_Bow, ⟨boL b1 l1 c1 x.Neck.At b2 l2 c2 x.Bridge.At v y z⟩) :: [(g3, T_impl_Bow, ⟨Z_impl_Bow⟩)]) := M.cnt fun p => by simp only [cnt_app, cnt_cons, cnt_nil]; omega
  refine br_f rfl (mute_raw M (off := 0) rfl (by omega) fun h4 g4 B4 S4 M => ?_)
  have M : Mem h h4 ((g1, T_impl_Bow, ⟨boL (some ⟨g4, 0, none⟩) l1 l1 x.Neck.At b2 l2 c2 x.Bridge.At v y z⟩) :: (B4 ++ [(g3, T_impl_Bow, ⟨Z_impl_Bow⟩)])) := M
  refine mute_raw M (off := 2) rfl (by omega) fun h5 g5 B5 S5 M => ?_
  have M : Mem h h5 ((g1, T_impl_Bow, ⟨boL (some ⟨g4, 0, none⟩) l1 l1 x.Neck.At (some ⟨g5, 0, none⟩) l2 l2 x.Bridge.At v y z⟩) :: (B5 ++ (B4 ++ [(g3, T_impl_Bow, ⟨Z_impl_Bow⟩)]))) := M
  refine M.sta .here rfl (all_one rfl) (by show 8 + 2 ≤ 12; decide) .here fun h6 M => ?_
  have M : Mem h h6 ((g1, T_impl_Bow, ⟨boL (some ⟨g4, 0, none⟩) l1 l1 x.Neck.At (some ⟨g5, 0, none⟩) l2 l2 x.Bridge.At (flZ v) y z⟩) :: (B5 ++ (B4 ++ [(g3, T_impl_Bow, ⟨Z_impl_Bow⟩)]))) := M
  have OJ := bow_ow (x := x.mute) (B1 := B4) (B2 := B5) (l1 := l1) (c1 := l1) (l2 := l2) (c2 := l2) (by rw [← hl1] at S4 ⊢; exact S4) (by rw [← hl2] at S5 ⊢; exact S5) (filter_mute O1) hy hz
  refine M.lda0 .here rfl ?_
  have M := M.cnt (W := (g3, T_impl_Bow, ⟨Z_impl_Bow⟩) :: (B4 ++ B5)) fun p => by simp only [cnt_app, cnt_cons, cnt_nil]; omega
  exact M.sta0 .here rfl boL_one rfl .here fun h8 M => M.lda0 .here rfl ⟨_, B4 ++ B5, rfl, OJ, M.drop⟩
end
end Go.Sx
/- What functions of this seat's program compute, told in words (a predicate over heaps for each), and the proofs that the words are no more than the code's own weakest precondition. -/
namespace Go.Sx
open Go.Proofs
set_option linter.unusedVariables false
set_option maxRecDepth 100000

def impl_decimal.S (n_0 : Int) (Post : Value → Heap → Prop) (h : Heap) : Prop :=
    CALL prg f_strconv_FormatInt #[.int .i64 n_0, .int .i64 (10 : Int)] (fun q1 h2 =>
    asS q1 fun s3 =>
    Post (.string s3) h2) h
noncomputable def impl_decimal.code : Code := (Tryz.f96.body).getD .skip
theorem impl_decimal.call {n_0 : Int} {Post : Value → Heap → Prop} {h : Heap} (H : impl_decimal.S n_0 Post h) : CALL prg f_impl_decimal #[.int .i64 n_0] Post h :=
  fn_call tau_ok mixed (c := impl_decimal.code) (Λ := lookL []) Tryz.func96 (by kernel_rfl) (by kernel_rfl)
    (Rq.free (by kernel_rfl))
    (Eq.mp (by kernel_rfl) H)

end Go.Sx
/- Decimals: the rule's, digit by digit. -/
set_option linter.unusedVariables false
set_option linter.unusedSimpArgs false
namespace Go.Sx
open Go.Proofs
set_option maxRecDepth 100000

/-- A whole number's digits. -/
def decB (m : Nat) : ByteArray := ⟨(Lib.decDigits m).toArray⟩
end Go.Sx
/- Contracts of the kit's shelf, taken as calls of ours. -/
set_option linter.unusedVariables false
namespace Go.Sx

/-- A call whose contract tells a value and new blocks alone. -/
theorem CALL_of_calls {P : Program} {f : FuncId} {fn : Func} {args : Array Value} {K : Value → Heap → Prop} {h : Heap} (hf : P.funcs[f]? = some fn) (hb : fn.body.isNone = false) (hn : (fn.name == "runtime.NumGoroutine") = false)
    (c : ∀ w : World, w.heap = h → Calls P f args w fun e w' => ∃ v, e = .returned v ∧ Same w w' ∧ K v w'.heap) : CALL P f args K h := by
  intro w hw
  have hrun : (callFunc f args).run P w = .ok (.enter f args) w := by
    unfold callFunc
    simp only [Sem.run_bind, run_program, Result.andThen_ok, hf, hn, hb, Bool.false_eq_true, if_false]
    rfl
  rw [hrun]
  exact c w hw
theorem grow_same (w : World) (k : Nat) (os : Array Obj) : Same w (Sort.grow (w.drewN k) os) := ⟨rfl, rfl, rfl⟩
theorem grow_ext (w : World) (k : Nat) (os : Array Obj) : Ext w.heap (Sort.grow (w.drewN k) os).heap := by
  show Ext w.heap (w.heap ++ os)
  refine ⟨by simp, fun i hi => ?_⟩
  rw [Array.getElem?_append_left hi]
end Go.Sx
