/- What functions of this seat's program compute, told in words (a predicate over heaps for each), and the proofs that the words are no more than the code's own weakest precondition. -/
import Derived.Test.YtkgmfiloghhibaaGreatDoorTab
namespace Go.Sx
open Go.Proofs
set_option linter.unusedVariables false
set_option maxRecDepth 100000

def spec_l06Comb.S (c_0 : Addr) (Post : Value → Heap → Prop) (h : Heap) : Prop :=
    LDA 2 h c_0 fun a1 =>
    SIZ (Array.size a1) 2 <|
    ALC ⟨(splice 0 2 a1 [.slice none 0 0, .int .i64 (0 : Int)])⟩ T_impl_Ring (fun g2 h3 =>
    CALL prg f_spec_l04Rings #[.slice (some ⟨g2, 0, none⟩) 1 1] (fun q4 h5 =>
    asB q4 fun b6 =>
    BIF b6 (
    oF .f32 (cell h5 (Addr.add c_0 2)) fun r7 =>
    CALL prg f_spec_l01Finite #[.float .f32 r7] (fun q8 h9 =>
    asB q8 fun b10 =>
    Post (.bool b10) h9) h5) (
    Post (.bool false) h5)) h3) h
noncomputable def spec_l06Comb.code : Code := (Tryz.f137.body).getD .skip
theorem spec_l06Comb.call {c_0 : Addr} {Post : Value → Heap → Prop} {h : Heap} (H : spec_l06Comb.S c_0 Post h) : CALL prg f_spec_l06Comb #[.pointer (some c_0)] Post h :=
  fn_call tau_ok mixed (c := spec_l06Comb.code) (Λ := lookL []) Tryz.func137 (by kernel_rfl) (by kernel_rfl)
    (Rq.free (by kernel_rfl))
    (Eq.mp (by kernel_rfl) H)

def spec_l06Loops.S (x_0 : Addr) (Post : Value → Heap → Prop) (h : Heap) : Prop :=
    IDX (0 : Int) 4 <|
    LDA 2 h (Addr.add x_0 9) fun a1 =>
    IDX (1 : Int) 4 <|
    LDA 2 h (Addr.add x_0 11) fun a2 =>
    IDX (2 : Int) 4 <|
    LDA 2 h (Addr.add x_0 13) fun a3 =>
    IDX (3 : Int) 4 <|
    LDA 2 h (Addr.add x_0 15) fun a4 =>
    SIZ (Array.size a1) 2 <|
    SIZ (Array.size a2) 2 <|
    SIZ (Array.size a3) 2 <|
    SIZ (Array.size a4) 2 <|
    ALC ⟨(splice 6 2 a4 (splice 4 2 a3 (splice 2 2 a2 (splice 0 2 a1 [.slice none 0 0, .int .i64 (0 : Int), .slice none 0 0, .int .i64 (0 : Int), .slice none 0 0, .int .i64 (0 : Int), .slice none 0 0, .int .i64 (0 : Int)]))))⟩ T_impl_Ring (fun g5 h6 =>
    Post (.slice (some ⟨g5, 0, none⟩) 4 4) h6) h
noncomputable def spec_l06Loops.code : Code := (Tryz.f138.body).getD .skip
theorem spec_l06Loops.call {x_0 : Addr} {Post : Value → Heap → Prop} {h : Heap} (H : spec_l06Loops.S x_0 Post h) : CALL prg f_spec_l06Loops #[.pointer (some x_0)] Post h :=
  fn_call tau_ok mixed (c := spec_l06Loops.code) (Λ := lookL []) Tryz.func138 (by kernel_rfl) (by kernel_rfl)
    (Rq.free (by kernel_rfl))
    (Eq.mp (by kernel_rfl) H)

def spec_l06Ok.B9 (Post : Value → Heap → Prop) (N9 : (Addr × Int) → Heap → Prop) : Addr × Int → Heap → Prop
  | (x_0, i_4), h =>
    oL (cell h (Addr.add x_0 2)) fun l26b l26l l26c =>
    BIF ((decide (i_4 < (l26l : Int)))) (
    oL (cell h (Addr.add x_0 2)) fun l29b l29l l29c =>
    IDXS l29b i_4 l29l fun p30 =>
    oI .i64 (cell h ((Addr.add p30 ((Int.toNat i_4) * 2)))) fun n31 =>
    oL (cell h x_0) fun l32b l32l l32c =>
    CALL prg f_spec_l00In #[.int .i64 n31, .int .i64 (1 : Int), .int .i64 (l32l : Int)] (fun q35 h36 =>
    asB q35 fun b37 =>
    BIF (!b37) (
    Post (.bool false) h36) (
    oL (cell h36 (Addr.add x_0 2)) fun l38b l38l l38c =>
    IDXS l38b i_4 l38l fun p39 =>
    oF .f32 (cell h36 ((Addr.add ((Addr.add p39 ((Int.toNat i_4) * 2))) 1))) fun r40 =>
    CALL prg f_spec_l01Finite #[.float .f32 r40] (fun q41 h42 =>
    asB q41 fun b43 =>
    BIF (!b43) (
    Post (.bool false) h42) (
    N9 (x_0, ((IntKind.i64.wrap (i_4 + (1 : Int))))) h42)) h36)) h) (
    IDX (0 : Int) 4 <|
    oF .f32 (cell h (Addr.add x_0 41)) fun r44 =>
    IDX (1 : Int) 4 <|
    oF .f32 (cell h (Addr.add x_0 42)) fun r45 =>
    IDX (2 : Int) 4 <|
    oF .f32 (cell h (Addr.add x_0 43)) fun r46 =>
    IDX (3 : Int) 4 <|
    oF .f32 (cell h (Addr.add x_0 44)) fun r47 =>
    oF .f32 (cell h (Addr.add x_0 45)) fun r48 =>
    oF .f32 (cell h (Addr.add x_0 46)) fun r49 =>
    ALC ⟨[.float .f32 r44, .float .f32 r45, .float .f32 r46, .float .f32 r47, .float .f32 r48, .float .f32 r49]⟩ T_float32 (fun g50 h51 =>
    CALL prg f_spec_l04All #[.slice (some ⟨g50, 0, none⟩) 6 6] (fun q52 h53 =>
    asB q52 fun b54 =>
    Post (.bool b54) h53) h51) h)
def spec_l06Ok.g9 (fr : Frame) : Addr × Int := ((gP (lget fr 0)), (gI (lget fr 4)))
def spec_l06Ok.l9 (Post : Value → Heap → Prop) : Frame → Heap → Prop := fun fr h => GRD (shape (kds 130 [(0, .p), (4, .i .i64)]) fr) (LOOP (spec_l06Ok.B9 Post) (spec_l06Ok.g9 fr) h)
def spec_l06Ok.B4 (Post : Value → Heap → Prop) (N4 : (Addr × Int) → Heap → Prop) : Addr × Int → Heap → Prop
  | (x_0, i_3), h =>
    BIF ((decide (i_3 < (4 : Int)))) (
    IDX i_3 4 <|
    CALL prg f_spec_l02Ok #[.pointer (some ((Addr.add (Addr.add x_0 17) ((Int.toNat i_3) * 6))))] (fun q22 h23 =>
    asB q22 fun b24 =>
    BIF (!b24) (
    Post (.bool false) h23) (
    IDX i_3 4 <|
    oI .i64 (cell h23 ((Addr.add (Addr.add x_0 17) ((Int.toNat i_3) * 6)))) fun n25 =>
    BIF (n25 != (1 : Int)) (
    Post (.bool false) h23) (
    N4 (x_0, ((IntKind.i64.wrap (i_3 + (1 : Int))))) h23))) h) (
    LOOP (spec_l06Ok.B9 Post) (x_0, (0 : Int)) h)
def spec_l06Ok.g4 (fr : Frame) : Addr × Int := ((gP (lget fr 0)), (gI (lget fr 3)))
def spec_l06Ok.l4 (Post : Value → Heap → Prop) : Frame → Heap → Prop := fun fr h => GRD (shape (kds 130 [(0, .p), (3, .i .i64)]) fr) (LOOP (spec_l06Ok.B4 Post) (spec_l06Ok.g4 fr) h)
def spec_l06Ok.J3 (Post : Value → Heap → Prop) (x_0 : Addr) (h : Heap) : Prop :=
    LOOP (spec_l06Ok.B4 Post) (x_0, (0 : Int)) h
def spec_l06Ok.j3 (Post : Value → Heap → Prop) : Frame → Heap → Prop := fun fr h => GRD (shape (kds 130 [(0, .p)]) fr) (spec_l06Ok.J3 Post (gP (lget fr 0)) h)
def spec_l06Ok.S (x_0 : Addr) (Post : Value → Heap → Prop) (h : Heap) : Prop :=
    LDA 2 h x_0 fun a1 =>
    SIZ (Array.size a1) 2 <|
    ALC ⟨(splice 0 2 a1 [.slice none 0 0, .int .i64 (0 : Int)])⟩ T_impl_Ring (fun g2 h3 =>
    CALL prg f_spec_l04Rings #[.slice (some ⟨g2, 0, none⟩) 1 1] (fun q4 h5 =>
    asB q4 fun b6 =>
    BIF (!b6) (
    Post (.bool false) h5) (
    IDX (0 : Int) 2 <|
    CALL prg f_spec_l06Comb #[.pointer (some (Addr.add x_0 3))] (fun q7 h8 =>
    asB q7 fun b9 =>
    BIF (!b9) (
    Post (.bool false) h8) (
    IDX (1 : Int) 2 <|
    CALL prg f_spec_l06Comb #[.pointer (some (Addr.add x_0 6))] (fun q10 h11 =>
    asB q10 fun b12 =>
    BIF (!b12) (
    Post (.bool false) h11) (
    CALL prg f_spec_l06Loops #[.pointer (some x_0)] (fun q13 h14 =>
    asL q13 fun l15b l15l l15c =>
    CALL prg f_spec_l04Rings #[.slice l15b l15l l15c] (fun q16 h17 =>
    asB q16 fun b18 =>
    BIF (!b18) (
    Post (.bool false) h17) (
    oL (cell h17 (Addr.add x_0 2)) fun l19b l19l l19c =>
    BIF ((decide ((6 : Int) < (l19l : Int)))) (
    Post (.bool false) h17) (
    spec_l06Ok.J3 Post x_0 h17))) h14) h11)) h8)) h5)) h3) h
noncomputable def spec_l06Ok.code : Code := (Tryz.f68.body).getD .skip
theorem spec_l06Ok.call {x_0 : Addr} {Post : Value → Heap → Prop} {h : Heap} (H : spec_l06Ok.S x_0 Post h) : CALL prg f_spec_l06Ok #[.pointer (some x_0)] Post h :=
  fn_call tau_ok mixed (c := spec_l06Ok.code) (Λ := lookL [(3, spec_l06Ok.j3 Post), (1000004, spec_l06Ok.l4 Post), (1000009, spec_l06Ok.l9 Post)]) Tryz.func68 (by kernel_rfl) (by kernel_rfl)
    (Rq.seq (by kernel_rfl) (Rq.free (by kernel_rfl)) (Rq.seqJ (spec_l06Ok.j3 Post) (by kernel_rfl) (seg (fun _ _ => by kernel_rfl)) (Rq.free (by kernel_rfl))
(Rq.seq (by kernel_rfl) (Rq.seq (by kernel_rfl) (Rq.free (by kernel_rfl)) (Rq.block (Rq.loop (spec_l06Ok.l4 Post) (by kernel_rfl) (segL (g := spec_l06Ok.g4) tau_ok mixed (Λ := fun N4 => lookL []) (fun _ _ _ => by kernel_rfl) (fun N4 => (Rq.free (by kernel_rfl))))))) (Rq.seq (by kernel_rfl) (Rq.seq (by kernel_rfl) (Rq.free (by kernel_rfl)) (Rq.block (Rq.loop (spec_l06Ok.l9 Post) (by kernel_rfl) (segL (g := spec_l06Ok.g9) tau_ok mixed (Λ := fun N9 => lookL []) (fun _ _ _ => by kernel_rfl) (fun N9 => (Rq.free (by kernel_rfl))))))) (Rq.free (by kernel_rfl))))))
    (Eq.mp (by kernel_rfl) H)

def spec_l06CopyComb.S (c_0 : Addr) (Post : Value → Heap → Prop) (h : Heap) : Prop :=
    ALC ⟨Z_impl_Comb⟩ T_impl_Comb (fun g1 h2 =>
    oF .f32 (cell h2 (Addr.add c_0 2)) fun r3 =>
    CALL prg f_spec_l02Copy #[.pointer (some c_0)] (fun q4 h5 =>
    asA q4 fun a6 =>
    PIN h2 (Addr.add c_0 2) 1 h5 <|
    SIZ (Array.size a6) 2 <|
    STA 3 h5 ⟨g1, 0, none⟩ ⟨(List.set (splice 0 2 a6 [.slice none 0 0, .int .i64 (0 : Int), .float .f32 0]) 2 (.float .f32 r3))⟩ fun h7 =>
    LDA 3 h7 ⟨g1, 0, none⟩ fun a8 =>
    Post (.agg a8) h7) h2) h
noncomputable def spec_l06CopyComb.code : Code := (Tryz.f142.body).getD .skip
theorem spec_l06CopyComb.call {c_0 : Addr} {Post : Value → Heap → Prop} {h : Heap} (H : spec_l06CopyComb.S c_0 Post h) : CALL prg f_spec_l06CopyComb #[.pointer (some c_0)] Post h :=
  fn_call tau_ok mixed (c := spec_l06CopyComb.code) (Λ := lookL []) Tryz.func142 (by kernel_rfl) (by kernel_rfl)
    (Rq.free (by kernel_rfl))
    (Eq.mp (by kernel_rfl) H)

def spec_l06Copy.B5 (Post : Value → Heap → Prop) (N5 : (Addr × Addr × Addr × Int) → Heap → Prop) : Addr × Addr × Addr × Int → Heap → Prop
  | (x_0, t2, y_3, i_4), h =>
    BIF ((decide (i_4 < (4 : Int)))) (
    IDX i_4 4 <|
    CALL prg f_spec_l02Copy #[.pointer (some ((Addr.add (Addr.add x_0 9) ((Int.toNat i_4) * 2))))] (fun q87 h88 =>
    asA q87 fun a89 =>
    IDX i_4 4 <|
    STA 2 h88 ((Addr.add (Addr.add y_3 9) ((Int.toNat i_4) * 2))) a89 fun h90 =>
    N5 (x_0, t2, y_3, ((IntKind.i64.wrap (i_4 + (1 : Int))))) h90) h) (
    LDA 47 h y_3 fun a91 =>
    STA 47 h t2 a91 fun h92 =>
    LDA 47 h92 t2 fun a93 =>
    Post (.agg a93) h92)
def spec_l06Copy.g5 (fr : Frame) : Addr × Addr × Addr × Int := ((gP (lget fr 0)), (gP (lget fr 2)), (gP (lget fr 3)), (gI (lget fr 4)))
def spec_l06Copy.l5 (Post : Value → Heap → Prop) : Frame → Heap → Prop := fun fr h => GRD (shape (kds 60 [(0, .p), (2, .p), (3, .p), (4, .i .i64)]) fr) (LOOP (spec_l06Copy.B5 Post) (spec_l06Copy.g5 fr) h)
def spec_l06Copy.J2 (Post : Value → Heap → Prop) (x_0 : Addr) (t2 : Addr) (y_3 : Addr) (h : Heap) : Prop :=
    IDX (0 : Int) 2 <|
    CALL prg f_spec_l06CopyComb #[.pointer (some (Addr.add x_0 3))] (fun q79 h80 =>
    asA q79 fun a81 =>
    IDX (0 : Int) 2 <|
    STA 3 h80 (Addr.add y_3 3) a81 fun h82 =>
    IDX (1 : Int) 2 <|
    CALL prg f_spec_l06CopyComb #[.pointer (some (Addr.add x_0 6))] (fun q83 h84 =>
    asA q83 fun a85 =>
    IDX (1 : Int) 2 <|
    STA 3 h84 (Addr.add y_3 6) a85 fun h86 =>
    LOOP (spec_l06Copy.B5 Post) (x_0, t2, y_3, (0 : Int)) h86) h82) h
def spec_l06Copy.j2 (Post : Value → Heap → Prop) : Frame → Heap → Prop := fun fr h => GRD (shape (kds 60 [(0, .p), (2, .p), (3, .p)]) fr) (spec_l06Copy.J2 Post (gP (lget fr 0)) (gP (lget fr 2)) (gP (lget fr 3)) h)
def spec_l06Copy.S (x_0 : Addr) (Post : Value → Heap → Prop) (h : Heap) : Prop :=
    ALC ⟨Z_impl_Room⟩ T_impl_Room (fun g1 h2 =>
    oL (cell h2 (Addr.add x_0 2)) fun l3b l3l l3c =>
    LDA 24 h2 (Addr.add x_0 17) fun a4 =>
    LDA 4 h2 (Addr.add x_0 41) fun a5 =>
    oF .f32 (cell h2 (Addr.add x_0 45)) fun r6 =>
    oF .f32 (cell h2 (Addr.add x_0 46)) fun r7 =>
    (CALL prg f_spec_l02Copy #[.pointer (some x_0)] (fun q8 h9 =>
    asA q8 fun a10 =>
    PIN h2 (Addr.add x_0 46) 1 h9 <|
    PIN h2 (Addr.add x_0 45) 1 h9 <|
    PIN h2 (Addr.add x_0 41) 4 h9 <|
    PIN h2 (Addr.add x_0 17) 24 h9 <|
    PIN h2 (Addr.add x_0 2) 1 h9 <|
    (ALC ⟨[]⟩ T_impl_Tap (fun g11 h12 =>
    PIN h2 (Addr.add x_0 46) 1 h12 <|
    PIN h2 (Addr.add x_0 45) 1 h12 <|
    PIN h2 (Addr.add x_0 41) 4 h12 <|
    PIN h2 (Addr.add x_0 17) 24 h12 <|
    PIN h2 (Addr.add x_0 2) 1 h12 <|
    (SEMV prg (Builtin.append_ #[T_sl_impl_Tap, T_sl_impl_Tap] T_sl_impl_Tap #[.slice (some ⟨g11, 0, none⟩) 0 0, .slice l3b l3l l3c]) (fun q13 h14 =>
    asL q13 fun l15b l15l l15c =>
    PIN h2 (Addr.add x_0 46) 1 h14 <|
    PIN h2 (Addr.add x_0 45) 1 h14 <|
    PIN h2 (Addr.add x_0 41) 4 h14 <|
    PIN h2 (Addr.add x_0 17) 24 h14 <|
    SIZ (Array.size a10) 2 <|
    SIZ (Array.size a4) 24 <|
    SIZ (Array.size a5) 4 <|
    ALC ⟨Z_impl_Room⟩ T_impl_Room (fun g16 h17 =>
    PIN h2 (Addr.add x_0 46) 1 h17 <|
    PIN h2 (Addr.add x_0 45) 1 h17 <|
    PIN h2 (Addr.add x_0 41) 4 h17 <|
    PIN h2 (Addr.add x_0 17) 24 h17 <|
    PIN h2 (Addr.add x_0 2) 1 h17 <|
    STA 47 h17 ⟨g16, 0, none⟩ ⟨(List.set (List.set (splice 41 4 a5 (splice 17 24 a4 (List.set (splice 0 2 a10 [.slice none 0 0, .int .i64 (0 : Int), .slice none 0 0, .slice none 0 0, .int .i64 (0 : Int), .float .f32 0, .slice none 0 0, .int .i64 (0 : Int), .float .f32 0, .slice none 0 0, .int .i64 (0 : Int), .slice none 0 0, .int .i64 (0 : Int), .slice none 0 0, .int .i64 (0 : Int), .slice none 0 0, .int .i64 (0 : Int), .int .i64 (0 : Int), .float .f32 0, .float .f32 0, .float .f32 0, .float .f32 0, .float .f32 0, .int .i64 (0 : Int), .float .f32 0, .float .f32 0, .float .f32 0, .float .f32 0, .float .f32 0, .int .i64 (0 : Int), .float .f32 0, .float .f32 0, .float .f32 0, .float .f32 0, .float .f32 0, .int .i64 (0 : Int), .float .f32 0, .float .f32 0, .float .f32 0, .float .f32 0, .float .f32 0, .float .f32 0, .float .f32 0, .float .f32 0, .float .f32 0, .float .f32 0, .float .f32 0]) 2 (.slice l15b l15l l15c)))) 45 (.float .f32 r6)) 46 (.float .f32 r7))⟩ fun h18 =>
    spec_l06Copy.J2 Post x_0 ⟨g1, 0, none⟩ ⟨g16, 0, none⟩ h18) h14) h12) ∧ (ALC ⟨Z_impl_Room⟩ T_impl_Room (fun g19 h20 =>
    PIN h2 (Addr.add x_0 46) 1 h20 <|
    PIN h2 (Addr.add x_0 45) 1 h20 <|
    PIN h2 (Addr.add x_0 41) 4 h20 <|
    PIN h2 (Addr.add x_0 17) 24 h20 <|
    PIN h2 (Addr.add x_0 2) 1 h20 <|
    SEMV prg (Builtin.append_ #[T_sl_impl_Tap, T_sl_impl_Tap] T_sl_impl_Tap #[.slice (some ⟨g11, 0, none⟩) 0 0, .slice l3b l3l l3c]) (fun q21 h22 =>
    asL q21 fun l23b l23l l23c =>
    PIN h2 (Addr.add x_0 46) 1 h22 <|
    PIN h2 (Addr.add x_0 45) 1 h22 <|
    PIN h2 (Addr.add x_0 41) 4 h22 <|
    PIN h2 (Addr.add x_0 17) 24 h22 <|
    SIZ (Array.size a10) 2 <|
    SIZ (Array.size a4) 24 <|
    SIZ (Array.size a5) 4 <|
    STA 47 h22 ⟨g19, 0, none⟩ ⟨(List.set (List.set (splice 41 4 a5 (splice 17 24 a4 (List.set (splice 0 2 a10 [.slice none 0 0, .int .i64 (0 : Int), .slice none 0 0, .slice none 0 0, .int .i64 (0 : Int), .float .f32 0, .slice none 0 0, .int .i64 (0 : Int), .float .f32 0, .slice none 0 0, .int .i64 (0 : Int), .slice none 0 0, .int .i64 (0 : Int), .slice none 0 0, .int .i64 (0 : Int), .slice none 0 0, .int .i64 (0 : Int), .int .i64 (0 : Int), .float .f32 0, .float .f32 0, .float .f32 0, .float .f32 0, .float .f32 0, .int .i64 (0 : Int), .float .f32 0, .float .f32 0, .float .f32 0, .float .f32 0, .float .f32 0, .int .i64 (0 : Int), .float .f32 0, .float .f32 0, .float .f32 0, .float .f32 0, .float .f32 0, .int .i64 (0 : Int), .float .f32 0, .float .f32 0, .float .f32 0, .float .f32 0, .float .f32 0, .float .f32 0, .float .f32 0, .float .f32 0, .float .f32 0, .float .f32 0, .float .f32 0]) 2 (.slice l23b l23l l23c)))) 45 (.float .f32 r6)) 46 (.float .f32 r7))⟩ fun h24 =>
    spec_l06Copy.J2 Post x_0 ⟨g1, 0, none⟩ ⟨g19, 0, none⟩ h24) h20) h12)) h9) ∧ (ALC ⟨Z_impl_Room⟩ T_impl_Room (fun g25 h26 =>
    PIN h2 (Addr.add x_0 46) 1 h26 <|
    PIN h2 (Addr.add x_0 45) 1 h26 <|
    PIN h2 (Addr.add x_0 41) 4 h26 <|
    PIN h2 (Addr.add x_0 17) 24 h26 <|
    PIN h2 (Addr.add x_0 2) 1 h26 <|
    ALC ⟨[]⟩ T_impl_Tap (fun g27 h28 =>
    PIN h2 (Addr.add x_0 46) 1 h28 <|
    PIN h2 (Addr.add x_0 45) 1 h28 <|
    PIN h2 (Addr.add x_0 41) 4 h28 <|
    PIN h2 (Addr.add x_0 17) 24 h28 <|
    PIN h2 (Addr.add x_0 2) 1 h28 <|
    SEMV prg (Builtin.append_ #[T_sl_impl_Tap, T_sl_impl_Tap] T_sl_impl_Tap #[.slice (some ⟨g27, 0, none⟩) 0 0, .slice l3b l3l l3c]) (fun q29 h30 =>
    asL q29 fun l31b l31l l31c =>
    PIN h2 (Addr.add x_0 46) 1 h30 <|
    PIN h2 (Addr.add x_0 45) 1 h30 <|
    PIN h2 (Addr.add x_0 41) 4 h30 <|
    PIN h2 (Addr.add x_0 17) 24 h30 <|
    SIZ (Array.size a10) 2 <|
    SIZ (Array.size a4) 24 <|
    SIZ (Array.size a5) 4 <|
    STA 47 h30 ⟨g25, 0, none⟩ ⟨(List.set (List.set (splice 41 4 a5 (splice 17 24 a4 (List.set (splice 0 2 a10 [.slice none 0 0, .int .i64 (0 : Int), .slice none 0 0, .slice none 0 0, .int .i64 (0 : Int), .float .f32 0, .slice none 0 0, .int .i64 (0 : Int), .float .f32 0, .slice none 0 0, .int .i64 (0 : Int), .slice none 0 0, .int .i64 (0 : Int), .slice none 0 0, .int .i64 (0 : Int), .slice none 0 0, .int .i64 (0 : Int), .int .i64 (0 : Int), .float .f32 0, .float .f32 0, .float .f32 0, .float .f32 0, .float .f32 0, .int .i64 (0 : Int), .float .f32 0, .float .f32 0, .float .f32 0, .float .f32 0, .float .f32 0, .int .i64 (0 : Int), .float .f32 0, .float .f32 0, .float .f32 0, .float .f32 0, .float .f32 0, .int .i64 (0 : Int), .float .f32 0, .float .f32 0, .float .f32 0, .float .f32 0, .float .f32 0, .float .f32 0, .float .f32 0, .float .f32 0, .float .f32 0, .float .f32 0, .float .f32 0]) 2 (.slice l31b l31l l31c)))) 45 (.float .f32 r6)) 46 (.float .f32 r7))⟩ fun h32 =>
    spec_l06Copy.J2 Post x_0 ⟨g1, 0, none⟩ ⟨g25, 0, none⟩ h32) h28) h26) h9)) h2) ∧ ((ALC ⟨[]⟩ T_impl_Tap (fun g33 h34 =>
    PIN h2 (Addr.add x_0 46) 1 h34 <|
    PIN h2 (Addr.add x_0 45) 1 h34 <|
    PIN h2 (Addr.add x_0 41) 4 h34 <|
    PIN h2 (Addr.add x_0 17) 24 h34 <|
    PIN h2 (Addr.add x_0 2) 1 h34 <|
    (CALL prg f_spec_l02Copy #[.pointer (some x_0)] (fun q35 h36 =>
    asA q35 fun a37 =>
    PIN h2 (Addr.add x_0 46) 1 h36 <|
    PIN h2 (Addr.add x_0 45) 1 h36 <|
    PIN h2 (Addr.add x_0 41) 4 h36 <|
    PIN h2 (Addr.add x_0 17) 24 h36 <|
    PIN h2 (Addr.add x_0 2) 1 h36 <|
    (SEMV prg (Builtin.append_ #[T_sl_impl_Tap, T_sl_impl_Tap] T_sl_impl_Tap #[.slice (some ⟨g33, 0, none⟩) 0 0, .slice l3b l3l l3c]) (fun q38 h39 =>
    asL q38 fun l40b l40l l40c =>
    PIN h2 (Addr.add x_0 46) 1 h39 <|
    PIN h2 (Addr.add x_0 45) 1 h39 <|
    PIN h2 (Addr.add x_0 41) 4 h39 <|
    PIN h2 (Addr.add x_0 17) 24 h39 <|
    SIZ (Array.size a37) 2 <|
    SIZ (Array.size a4) 24 <|
    SIZ (Array.size a5) 4 <|
    ALC ⟨Z_impl_Room⟩ T_impl_Room (fun g41 h42 =>
    PIN h2 (Addr.add x_0 46) 1 h42 <|
    PIN h2 (Addr.add x_0 45) 1 h42 <|
    PIN h2 (Addr.add x_0 41) 4 h42 <|
    PIN h2 (Addr.add x_0 17) 24 h42 <|
    PIN h2 (Addr.add x_0 2) 1 h42 <|
    STA 47 h42 ⟨g41, 0, none⟩ ⟨(List.set (List.set (splice 41 4 a5 (splice 17 24 a4 (List.set (splice 0 2 a37 [.slice none 0 0, .int .i64 (0 : Int), .slice none 0 0, .slice none 0 0, .int .i64 (0 : Int), .float .f32 0, .slice none 0 0, .int .i64 (0 : Int), .float .f32 0, .slice none 0 0, .int .i64 (0 : Int), .slice none 0 0, .int .i64 (0 : Int), .slice none 0 0, .int .i64 (0 : Int), .slice none 0 0, .int .i64 (0 : Int), .int .i64 (0 : Int), .float .f32 0, .float .f32 0, .float .f32 0, .float .f32 0, .float .f32 0, .int .i64 (0 : Int), .float .f32 0, .float .f32 0, .float .f32 0, .float .f32 0, .float .f32 0, .int .i64 (0 : Int), .float .f32 0, .float .f32 0, .float .f32 0, .float .f32 0, .float .f32 0, .int .i64 (0 : Int), .float .f32 0, .float .f32 0, .float .f32 0, .float .f32 0, .float .f32 0, .float .f32 0, .float .f32 0, .float .f32 0, .float .f32 0, .float .f32 0, .float .f32 0]) 2 (.slice l40b l40l l40c)))) 45 (.float .f32 r6)) 46 (.float .f32 r7))⟩ fun h43 =>
    spec_l06Copy.J2 Post x_0 ⟨g1, 0, none⟩ ⟨g41, 0, none⟩ h43) h39) h36) ∧ (ALC ⟨Z_impl_Room⟩ T_impl_Room (fun g44 h45 =>
    PIN h2 (Addr.add x_0 46) 1 h45 <|
    PIN h2 (Addr.add x_0 45) 1 h45 <|
    PIN h2 (Addr.add x_0 41) 4 h45 <|
    PIN h2 (Addr.add x_0 17) 24 h45 <|
    PIN h2 (Addr.add x_0 2) 1 h45 <|
    SEMV prg (Builtin.append_ #[T_sl_impl_Tap, T_sl_impl_Tap] T_sl_impl_Tap #[.slice (some ⟨g33, 0, none⟩) 0 0, .slice l3b l3l l3c]) (fun q46 h47 =>
    asL q46 fun l48b l48l l48c =>
    PIN h2 (Addr.add x_0 46) 1 h47 <|
    PIN h2 (Addr.add x_0 45) 1 h47 <|
    PIN h2 (Addr.add x_0 41) 4 h47 <|
    PIN h2 (Addr.add x_0 17) 24 h47 <|
    SIZ (Array.size a37) 2 <|
    SIZ (Array.size a4) 24 <|
    SIZ (Array.size a5) 4 <|
    STA 47 h47 ⟨g44, 0, none⟩ ⟨(List.set (List.set (splice 41 4 a5 (splice 17 24 a4 (List.set (splice 0 2 a37 [.slice none 0 0, .int .i64 (0 : Int), .slice none 0 0, .slice none 0 0, .int .i64 (0 : Int), .float .f32 0, .slice none 0 0, .int .i64 (0 : Int), .float .f32 0, .slice none 0 0, .int .i64 (0 : Int), .slice none 0 0, .int .i64 (0 : Int), .slice none 0 0, .int .i64 (0 : Int), .slice none 0 0, .int .i64 (0 : Int), .int .i64 (0 : Int), .float .f32 0, .float .f32 0, .float .f32 0, .float .f32 0, .float .f32 0, .int .i64 (0 : Int), .float .f32 0, .float .f32 0, .float .f32 0, .float .f32 0, .float .f32 0, .int .i64 (0 : Int), .float .f32 0, .float .f32 0, .float .f32 0, .float .f32 0, .float .f32 0, .int .i64 (0 : Int), .float .f32 0, .float .f32 0, .float .f32 0, .float .f32 0, .float .f32 0, .float .f32 0, .float .f32 0, .float .f32 0, .float .f32 0, .float .f32 0, .float .f32 0]) 2 (.slice l48b l48l l48c)))) 45 (.float .f32 r6)) 46 (.float .f32 r7))⟩ fun h49 =>
    spec_l06Copy.J2 Post x_0 ⟨g1, 0, none⟩ ⟨g44, 0, none⟩ h49) h45) h36)) h34) ∧ (ALC ⟨Z_impl_Room⟩ T_impl_Room (fun g50 h51 =>
    PIN h2 (Addr.add x_0 46) 1 h51 <|
    PIN h2 (Addr.add x_0 45) 1 h51 <|
    PIN h2 (Addr.add x_0 41) 4 h51 <|
    PIN h2 (Addr.add x_0 17) 24 h51 <|
    PIN h2 (Addr.add x_0 2) 1 h51 <|
    CALL prg f_spec_l02Copy #[.pointer (some x_0)] (fun q52 h53 =>
    asA q52 fun a54 =>
    PIN h2 (Addr.add x_0 46) 1 h53 <|
    PIN h2 (Addr.add x_0 45) 1 h53 <|
    PIN h2 (Addr.add x_0 41) 4 h53 <|
    PIN h2 (Addr.add x_0 17) 24 h53 <|
    PIN h2 (Addr.add x_0 2) 1 h53 <|
    SEMV prg (Builtin.append_ #[T_sl_impl_Tap, T_sl_impl_Tap] T_sl_impl_Tap #[.slice (some ⟨g33, 0, none⟩) 0 0, .slice l3b l3l l3c]) (fun q55 h56 =>
    asL q55 fun l57b l57l l57c =>
    PIN h2 (Addr.add x_0 46) 1 h56 <|
    PIN h2 (Addr.add x_0 45) 1 h56 <|
    PIN h2 (Addr.add x_0 41) 4 h56 <|
    PIN h2 (Addr.add x_0 17) 24 h56 <|
    SIZ (Array.size a54) 2 <|
    SIZ (Array.size a4) 24 <|
    SIZ (Array.size a5) 4 <|
    STA 47 h56 ⟨g50, 0, none⟩ ⟨(List.set (List.set (splice 41 4 a5 (splice 17 24 a4 (List.set (splice 0 2 a54 [.slice none 0 0, .int .i64 (0 : Int), .slice none 0 0, .slice none 0 0, .int .i64 (0 : Int), .float .f32 0, .slice none 0 0, .int .i64 (0 : Int), .float .f32 0, .slice none 0 0, .int .i64 (0 : Int), .slice none 0 0, .int .i64 (0 : Int), .slice none 0 0, .int .i64 (0 : Int), .slice none 0 0, .int .i64 (0 : Int), .int .i64 (0 : Int), .float .f32 0, .float .f32 0, .float .f32 0, .float .f32 0, .float .f32 0, .int .i64 (0 : Int), .float .f32 0, .float .f32 0, .float .f32 0, .float .f32 0, .float .f32 0, .int .i64 (0 : Int), .float .f32 0, .float .f32 0, .float .f32 0, .float .f32 0, .float .f32 0, .int .i64 (0 : Int), .float .f32 0, .float .f32 0, .float .f32 0, .float .f32 0, .float .f32 0, .float .f32 0, .float .f32 0, .float .f32 0, .float .f32 0, .float .f32 0, .float .f32 0]) 2 (.slice l57b l57l l57c)))) 45 (.float .f32 r6)) 46 (.float .f32 r7))⟩ fun h58 =>
    spec_l06Copy.J2 Post x_0 ⟨g1, 0, none⟩ ⟨g50, 0, none⟩ h58) h53) h51) h34)) h2) ∧ (ALC ⟨Z_impl_Room⟩ T_impl_Room (fun g59 h60 =>
    PIN h2 (Addr.add x_0 46) 1 h60 <|
    PIN h2 (Addr.add x_0 45) 1 h60 <|
    PIN h2 (Addr.add x_0 41) 4 h60 <|
    PIN h2 (Addr.add x_0 17) 24 h60 <|
    PIN h2 (Addr.add x_0 2) 1 h60 <|
    (CALL prg f_spec_l02Copy #[.pointer (some x_0)] (fun q61 h62 =>
    asA q61 fun a63 =>
    PIN h2 (Addr.add x_0 46) 1 h62 <|
    PIN h2 (Addr.add x_0 45) 1 h62 <|
    PIN h2 (Addr.add x_0 41) 4 h62 <|
    PIN h2 (Addr.add x_0 17) 24 h62 <|
    PIN h2 (Addr.add x_0 2) 1 h62 <|
    ALC ⟨[]⟩ T_impl_Tap (fun g64 h65 =>
    PIN h2 (Addr.add x_0 46) 1 h65 <|
    PIN h2 (Addr.add x_0 45) 1 h65 <|
    PIN h2 (Addr.add x_0 41) 4 h65 <|
    PIN h2 (Addr.add x_0 17) 24 h65 <|
    PIN h2 (Addr.add x_0 2) 1 h65 <|
    SEMV prg (Builtin.append_ #[T_sl_impl_Tap, T_sl_impl_Tap] T_sl_impl_Tap #[.slice (some ⟨g64, 0, none⟩) 0 0, .slice l3b l3l l3c]) (fun q66 h67 =>
    asL q66 fun l68b l68l l68c =>
    PIN h2 (Addr.add x_0 46) 1 h67 <|
    PIN h2 (Addr.add x_0 45) 1 h67 <|
    PIN h2 (Addr.add x_0 41) 4 h67 <|
    PIN h2 (Addr.add x_0 17) 24 h67 <|
    SIZ (Array.size a63) 2 <|
    SIZ (Array.size a4) 24 <|
    SIZ (Array.size a5) 4 <|
    STA 47 h67 ⟨g59, 0, none⟩ ⟨(List.set (List.set (splice 41 4 a5 (splice 17 24 a4 (List.set (splice 0 2 a63 [.slice none 0 0, .int .i64 (0 : Int), .slice none 0 0, .slice none 0 0, .int .i64 (0 : Int), .float .f32 0, .slice none 0 0, .int .i64 (0 : Int), .float .f32 0, .slice none 0 0, .int .i64 (0 : Int), .slice none 0 0, .int .i64 (0 : Int), .slice none 0 0, .int .i64 (0 : Int), .slice none 0 0, .int .i64 (0 : Int), .int .i64 (0 : Int), .float .f32 0, .float .f32 0, .float .f32 0, .float .f32 0, .float .f32 0, .int .i64 (0 : Int), .float .f32 0, .float .f32 0, .float .f32 0, .float .f32 0, .float .f32 0, .int .i64 (0 : Int), .float .f32 0, .float .f32 0, .float .f32 0, .float .f32 0, .float .f32 0, .int .i64 (0 : Int), .float .f32 0, .float .f32 0, .float .f32 0, .float .f32 0, .float .f32 0, .float .f32 0, .float .f32 0, .float .f32 0, .float .f32 0, .float .f32 0, .float .f32 0]) 2 (.slice l68b l68l l68c)))) 45 (.float .f32 r6)) 46 (.float .f32 r7))⟩ fun h69 =>
    spec_l06Copy.J2 Post x_0 ⟨g1, 0, none⟩ ⟨g59, 0, none⟩ h69) h65) h62) h60) ∧ (ALC ⟨[]⟩ T_impl_Tap (fun g70 h71 =>
    PIN h2 (Addr.add x_0 46) 1 h71 <|
    PIN h2 (Addr.add x_0 45) 1 h71 <|
    PIN h2 (Addr.add x_0 41) 4 h71 <|
    PIN h2 (Addr.add x_0 17) 24 h71 <|
    PIN h2 (Addr.add x_0 2) 1 h71 <|
    CALL prg f_spec_l02Copy #[.pointer (some x_0)] (fun q72 h73 =>
    asA q72 fun a74 =>
    PIN h2 (Addr.add x_0 46) 1 h73 <|
    PIN h2 (Addr.add x_0 45) 1 h73 <|
    PIN h2 (Addr.add x_0 41) 4 h73 <|
    PIN h2 (Addr.add x_0 17) 24 h73 <|
    PIN h2 (Addr.add x_0 2) 1 h73 <|
    SEMV prg (Builtin.append_ #[T_sl_impl_Tap, T_sl_impl_Tap] T_sl_impl_Tap #[.slice (some ⟨g70, 0, none⟩) 0 0, .slice l3b l3l l3c]) (fun q75 h76 =>
    asL q75 fun l77b l77l l77c =>
    PIN h2 (Addr.add x_0 46) 1 h76 <|
    PIN h2 (Addr.add x_0 45) 1 h76 <|
    PIN h2 (Addr.add x_0 41) 4 h76 <|
    PIN h2 (Addr.add x_0 17) 24 h76 <|
    SIZ (Array.size a74) 2 <|
    SIZ (Array.size a4) 24 <|
    SIZ (Array.size a5) 4 <|
    STA 47 h76 ⟨g59, 0, none⟩ ⟨(List.set (List.set (splice 41 4 a5 (splice 17 24 a4 (List.set (splice 0 2 a74 [.slice none 0 0, .int .i64 (0 : Int), .slice none 0 0, .slice none 0 0, .int .i64 (0 : Int), .float .f32 0, .slice none 0 0, .int .i64 (0 : Int), .float .f32 0, .slice none 0 0, .int .i64 (0 : Int), .slice none 0 0, .int .i64 (0 : Int), .slice none 0 0, .int .i64 (0 : Int), .slice none 0 0, .int .i64 (0 : Int), .int .i64 (0 : Int), .float .f32 0, .float .f32 0, .float .f32 0, .float .f32 0, .float .f32 0, .int .i64 (0 : Int), .float .f32 0, .float .f32 0, .float .f32 0, .float .f32 0, .float .f32 0, .int .i64 (0 : Int), .float .f32 0, .float .f32 0, .float .f32 0, .float .f32 0, .float .f32 0, .int .i64 (0 : Int), .float .f32 0, .float .f32 0, .float .f32 0, .float .f32 0, .float .f32 0, .float .f32 0, .float .f32 0, .float .f32 0, .float .f32 0, .float .f32 0, .float .f32 0]) 2 (.slice l77b l77l l77c)))) 45 (.float .f32 r6)) 46 (.float .f32 r7))⟩ fun h78 =>
    spec_l06Copy.J2 Post x_0 ⟨g1, 0, none⟩ ⟨g59, 0, none⟩ h78) h73) h71) h60)) h2))) h
noncomputable def spec_l06Copy.code : Code := (Tryz.f69.body).getD .skip
theorem spec_l06Copy.call {x_0 : Addr} {Post : Value → Heap → Prop} {h : Heap} (H : spec_l06Copy.S x_0 Post h) : CALL prg f_spec_l06Copy #[.pointer (some x_0)] Post h :=
  fn_call tau_ok mixed (c := spec_l06Copy.code) (Λ := lookL [(2, spec_l06Copy.j2 Post), (1000005, spec_l06Copy.l5 Post)]) Tryz.func69 (by kernel_rfl) (by kernel_rfl)
    (Rq.seq (by kernel_rfl) (Rq.free (by kernel_rfl)) (Rq.seqJ (spec_l06Copy.j2 Post) (by kernel_rfl) (seg (fun _ _ => by kernel_rfl)) (Rq.free (by kernel_rfl))
(Rq.seq (by kernel_rfl) (Rq.free (by kernel_rfl)) (Rq.seq (by kernel_rfl) (Rq.free (by kernel_rfl)) (Rq.seq (by kernel_rfl) (Rq.seq (by kernel_rfl) (Rq.free (by kernel_rfl)) (Rq.block (Rq.loop (spec_l06Copy.l5 Post) (by kernel_rfl) (segL (g := spec_l06Copy.g5) tau_ok mixed (Λ := fun N5 => lookL []) (fun _ _ _ => by kernel_rfl) (fun N5 => (Rq.free (by kernel_rfl))))))) (Rq.free (by kernel_rfl)))))))
    (Eq.mp (by kernel_rfl) H)

def spec_l06Silence.S (n_0 : Int) (Post : Value → Heap → Prop) (h : Heap) : Prop :=
    ALC ⟨Z_impl_Ring⟩ T_impl_Ring (fun g1 h2 =>
    MKS ti_float32 T_float32 n_0 n_0 (fun g3 h4 =>
    STA 2 h4 ⟨g1, 0, none⟩ (⟨[.slice (some ⟨g3, 0, none⟩) (Int.toNat n_0) (Int.toNat n_0), .int .i64 (0 : Int)]⟩ : Array Value) fun h5 =>
    LDA 2 h5 ⟨g1, 0, none⟩ fun a6 =>
    Post (.agg a6) h5) h2) h
noncomputable def spec_l06Silence.code : Code := (Tryz.f181.body).getD .skip
theorem spec_l06Silence.call {n_0 : Int} {Post : Value → Heap → Prop} {h : Heap} (H : spec_l06Silence.S n_0 Post h) : CALL prg f_spec_l06Silence #[.int .i64 n_0] Post h :=
  fn_call tau_ok mixed (c := spec_l06Silence.code) (Λ := lookL []) Tryz.func181 (by kernel_rfl) (by kernel_rfl)
    (Rq.free (by kernel_rfl))
    (Eq.mp (by kernel_rfl) H)

def spec_l06StepComb.S (c_0 : Addr) (in_1 : Nat) (Post : Value → Heap → Prop) (h : Heap) : Prop :=
    oL (cell h c_0) fun l1b l1l l1c =>
    oI .i64 (cell h (Addr.add c_0 1)) fun n2 =>
    IDXS l1b n2 l1l fun p3 =>
    oF .f32 (cell h ((Addr.add p3 ((Int.toNat n2) * 1)))) fun r4 =>
    oF .f32 (cell h (Addr.add c_0 2)) fun r5 =>
    FOP .f32 (FloatKind.f32.format.mul r5 r4) fun r6 =>
    FOP .f32 (FloatKind.f32.format.add in_1 r6) fun r7 =>
    CALL prg f_spec_l02Kept #[.float .f32 r7] (fun q8 h9 =>
    asF .f32 q8 fun r10 =>
    CALL prg f_spec_l02Push #[.pointer (some c_0), .float .f32 r10] (fun q11 h12 =>
    asF .f32 q11 fun r13 =>
    oF .f32 (cell h12 (Addr.add c_0 2)) fun r14 =>
    FOP .f32 (FloatKind.f32.format.mul r14 r7) fun r15 =>
    FOP .f32 (FloatKind.f32.format.sub r4 r15) fun r16 =>
    Post (.float .f32 r16) h12) h9) h
noncomputable def spec_l06StepComb.code : Code := (Tryz.f146.body).getD .skip
theorem spec_l06StepComb.call {c_0 : Addr} {in_1 : Nat} {Post : Value → Heap → Prop} {h : Heap} (H : spec_l06StepComb.S c_0 in_1 Post h) : CALL prg f_spec_l06StepComb #[.pointer (some c_0), .float .f32 in_1] Post h :=
  fn_call tau_ok mixed (c := spec_l06StepComb.code) (Λ := lookL []) Tryz.func146 (by kernel_rfl) (by kernel_rfl)
    (Rq.free (by kernel_rfl))
    (Eq.mp (by kernel_rfl) H)

def spec_l06Step.B20 (Post : Value → Heap → Prop) (N20 : (Addr × Nat × Nat × Addr × Addr × Int) → Heap → Prop) : Addr × Nat × Nat × Addr × Addr × Int → Heap → Prop
  | (x_0, in_1, f_8, o_9, h_12, i_13), h =>
    BIF ((decide (i_13 < (4 : Int)))) (
    IDX i_13 4 <|
    IDX i_13 4 <|
    oF .f32 (cell h ((Addr.add h_12 ((Int.toNat i_13) * 1)))) fun r53 =>
    FOP .f32 (FloatKind.f32.format.add f_8 r53) fun r54 =>
    CALL prg f_spec_l02Kept #[.float .f32 r54] (fun q55 h56 =>
    asF .f32 q55 fun r57 =>
    CALL prg f_spec_l02Push #[.pointer (some ((Addr.add (Addr.add x_0 9) ((Int.toNat i_13) * 2)))), .float .f32 r57] (fun q58 h59 =>
    asF .f32 q58 fun r60 =>
    N20 (x_0, in_1, f_8, o_9, h_12, ((IntKind.i64.wrap (i_13 + (1 : Int))))) h59) h56) h) (
    oF .f32 (cell h (Addr.add x_0 45)) fun r61 =>
    oF .f32 (cell h (Addr.add x_0 46)) fun r62 =>
    IDX (0 : Int) 4 <|
    oF .f32 (cell h o_9) fun r63 =>
    IDX (1 : Int) 4 <|
    oF .f32 (cell h (Addr.add o_9 1)) fun r64 =>
    IDX (2 : Int) 4 <|
    oF .f32 (cell h (Addr.add o_9 2)) fun r65 =>
    IDX (3 : Int) 4 <|
    oF .f32 (cell h (Addr.add o_9 3)) fun r66 =>
    (FOP .f32 (FloatKind.f32.format.mul r61 in_1) fun r67 =>
    PIN h (Addr.add o_9 3) 1 h <|
    PIN h (Addr.add o_9 2) 1 h <|
    PIN h (Addr.add o_9 1) 1 h <|
    PIN h o_9 1 h <|
    PIN h (Addr.add x_0 46) 1 h <|
    (FOP .f32 (FloatKind.f32.format.add r63 r64) fun r68 =>
    PIN h (Addr.add o_9 3) 1 h <|
    PIN h (Addr.add o_9 2) 1 h <|
    PIN h (Addr.add x_0 46) 1 h <|
    PIN h (Addr.add x_0 45) 1 h <|
    FOP .f32 (FloatKind.f32.format.add r65 r66) fun r69 =>
    PIN h (Addr.add o_9 1) 1 h <|
    PIN h o_9 1 h <|
    PIN h (Addr.add x_0 46) 1 h <|
    PIN h (Addr.add x_0 45) 1 h <|
    FOP .f32 (FloatKind.f32.format.add r68 r69) fun r70 =>
    PIN h (Addr.add x_0 46) 1 h <|
    PIN h (Addr.add x_0 45) 1 h <|
    FOP .f32 (FloatKind.f32.format.mul r62 r70) fun r71 =>
    PIN h (Addr.add x_0 45) 1 h <|
    FOP .f32 (FloatKind.f32.format.add r67 r71) fun r72 =>
    Post (.float .f32 r72) h) ∧ (FOP .f32 (FloatKind.f32.format.add r65 r66) fun r73 =>
    PIN h (Addr.add o_9 1) 1 h <|
    PIN h o_9 1 h <|
    PIN h (Addr.add x_0 46) 1 h <|
    PIN h (Addr.add x_0 45) 1 h <|
    FOP .f32 (FloatKind.f32.format.add r63 r64) fun r74 =>
    PIN h (Addr.add o_9 3) 1 h <|
    PIN h (Addr.add o_9 2) 1 h <|
    PIN h (Addr.add x_0 46) 1 h <|
    PIN h (Addr.add x_0 45) 1 h <|
    FOP .f32 (FloatKind.f32.format.add r74 r73) fun r75 =>
    PIN h (Addr.add x_0 46) 1 h <|
    PIN h (Addr.add x_0 45) 1 h <|
    FOP .f32 (FloatKind.f32.format.mul r62 r75) fun r76 =>
    PIN h (Addr.add x_0 45) 1 h <|
    FOP .f32 (FloatKind.f32.format.add r67 r76) fun r77 =>
    Post (.float .f32 r77) h)) ∧ ((FOP .f32 (FloatKind.f32.format.add r63 r64) fun r78 =>
    PIN h (Addr.add o_9 3) 1 h <|
    PIN h (Addr.add o_9 2) 1 h <|
    PIN h (Addr.add x_0 46) 1 h <|
    PIN h (Addr.add x_0 45) 1 h <|
    (FOP .f32 (FloatKind.f32.format.mul r61 in_1) fun r79 =>
    PIN h (Addr.add o_9 3) 1 h <|
    PIN h (Addr.add o_9 2) 1 h <|
    PIN h (Addr.add o_9 1) 1 h <|
    PIN h o_9 1 h <|
    PIN h (Addr.add x_0 46) 1 h <|
    FOP .f32 (FloatKind.f32.format.add r65 r66) fun r80 =>
    PIN h (Addr.add o_9 1) 1 h <|
    PIN h o_9 1 h <|
    PIN h (Addr.add x_0 46) 1 h <|
    PIN h (Addr.add x_0 45) 1 h <|
    FOP .f32 (FloatKind.f32.format.add r78 r80) fun r81 =>
    PIN h (Addr.add x_0 46) 1 h <|
    PIN h (Addr.add x_0 45) 1 h <|
    FOP .f32 (FloatKind.f32.format.mul r62 r81) fun r82 =>
    PIN h (Addr.add x_0 45) 1 h <|
    FOP .f32 (FloatKind.f32.format.add r79 r82) fun r83 =>
    Post (.float .f32 r83) h) ∧ (FOP .f32 (FloatKind.f32.format.add r65 r66) fun r84 =>
    PIN h (Addr.add o_9 1) 1 h <|
    PIN h o_9 1 h <|
    PIN h (Addr.add x_0 46) 1 h <|
    PIN h (Addr.add x_0 45) 1 h <|
    (FOP .f32 (FloatKind.f32.format.mul r61 in_1) fun r85 =>
    PIN h (Addr.add o_9 3) 1 h <|
    PIN h (Addr.add o_9 2) 1 h <|
    PIN h (Addr.add o_9 1) 1 h <|
    PIN h o_9 1 h <|
    PIN h (Addr.add x_0 46) 1 h <|
    FOP .f32 (FloatKind.f32.format.add r78 r84) fun r86 =>
    PIN h (Addr.add x_0 46) 1 h <|
    PIN h (Addr.add x_0 45) 1 h <|
    FOP .f32 (FloatKind.f32.format.mul r62 r86) fun r87 =>
    PIN h (Addr.add x_0 45) 1 h <|
    FOP .f32 (FloatKind.f32.format.add r85 r87) fun r88 =>
    Post (.float .f32 r88) h) ∧ (FOP .f32 (FloatKind.f32.format.add r78 r84) fun r89 =>
    PIN h (Addr.add x_0 46) 1 h <|
    PIN h (Addr.add x_0 45) 1 h <|
    (FOP .f32 (FloatKind.f32.format.mul r61 in_1) fun r90 =>
    PIN h (Addr.add o_9 3) 1 h <|
    PIN h (Addr.add o_9 2) 1 h <|
    PIN h (Addr.add o_9 1) 1 h <|
    PIN h o_9 1 h <|
    PIN h (Addr.add x_0 46) 1 h <|
    FOP .f32 (FloatKind.f32.format.mul r62 r89) fun r91 =>
    PIN h (Addr.add x_0 45) 1 h <|
    FOP .f32 (FloatKind.f32.format.add r90 r91) fun r92 =>
    Post (.float .f32 r92) h) ∧ (FOP .f32 (FloatKind.f32.format.mul r62 r89) fun r93 =>
    PIN h (Addr.add x_0 45) 1 h <|
    FOP .f32 (FloatKind.f32.format.mul r61 in_1) fun r94 =>
    PIN h (Addr.add o_9 3) 1 h <|
    PIN h (Addr.add o_9 2) 1 h <|
    PIN h (Addr.add o_9 1) 1 h <|
    PIN h o_9 1 h <|
    PIN h (Addr.add x_0 46) 1 h <|
    FOP .f32 (FloatKind.f32.format.add r94 r93) fun r95 =>
    Post (.float .f32 r95) h)))) ∧ (FOP .f32 (FloatKind.f32.format.add r65 r66) fun r96 =>
    PIN h (Addr.add o_9 1) 1 h <|
    PIN h o_9 1 h <|
    PIN h (Addr.add x_0 46) 1 h <|
    PIN h (Addr.add x_0 45) 1 h <|
    (FOP .f32 (FloatKind.f32.format.mul r61 in_1) fun r97 =>
    PIN h (Addr.add o_9 3) 1 h <|
    PIN h (Addr.add o_9 2) 1 h <|
    PIN h (Addr.add o_9 1) 1 h <|
    PIN h o_9 1 h <|
    PIN h (Addr.add x_0 46) 1 h <|
    FOP .f32 (FloatKind.f32.format.add r63 r64) fun r98 =>
    PIN h (Addr.add o_9 3) 1 h <|
    PIN h (Addr.add o_9 2) 1 h <|
    PIN h (Addr.add x_0 46) 1 h <|
    PIN h (Addr.add x_0 45) 1 h <|
    FOP .f32 (FloatKind.f32.format.add r98 r96) fun r99 =>
    PIN h (Addr.add x_0 46) 1 h <|
    PIN h (Addr.add x_0 45) 1 h <|
    FOP .f32 (FloatKind.f32.format.mul r62 r99) fun r100 =>
    PIN h (Addr.add x_0 45) 1 h <|
    FOP .f32 (FloatKind.f32.format.add r97 r100) fun r101 =>
    Post (.float .f32 r101) h) ∧ (FOP .f32 (FloatKind.f32.format.add r63 r64) fun r102 =>
    PIN h (Addr.add o_9 3) 1 h <|
    PIN h (Addr.add o_9 2) 1 h <|
    PIN h (Addr.add x_0 46) 1 h <|
    PIN h (Addr.add x_0 45) 1 h <|
    (FOP .f32 (FloatKind.f32.format.mul r61 in_1) fun r103 =>
    PIN h (Addr.add o_9 3) 1 h <|
    PIN h (Addr.add o_9 2) 1 h <|
    PIN h (Addr.add o_9 1) 1 h <|
    PIN h o_9 1 h <|
    PIN h (Addr.add x_0 46) 1 h <|
    FOP .f32 (FloatKind.f32.format.add r102 r96) fun r104 =>
    PIN h (Addr.add x_0 46) 1 h <|
    PIN h (Addr.add x_0 45) 1 h <|
    FOP .f32 (FloatKind.f32.format.mul r62 r104) fun r105 =>
    PIN h (Addr.add x_0 45) 1 h <|
    FOP .f32 (FloatKind.f32.format.add r103 r105) fun r106 =>
    Post (.float .f32 r106) h) ∧ (FOP .f32 (FloatKind.f32.format.add r102 r96) fun r107 =>
    PIN h (Addr.add x_0 46) 1 h <|
    PIN h (Addr.add x_0 45) 1 h <|
    (FOP .f32 (FloatKind.f32.format.mul r61 in_1) fun r108 =>
    PIN h (Addr.add o_9 3) 1 h <|
    PIN h (Addr.add o_9 2) 1 h <|
    PIN h (Addr.add o_9 1) 1 h <|
    PIN h o_9 1 h <|
    PIN h (Addr.add x_0 46) 1 h <|
    FOP .f32 (FloatKind.f32.format.mul r62 r107) fun r109 =>
    PIN h (Addr.add x_0 45) 1 h <|
    FOP .f32 (FloatKind.f32.format.add r108 r109) fun r110 =>
    Post (.float .f32 r110) h) ∧ (FOP .f32 (FloatKind.f32.format.mul r62 r107) fun r111 =>
    PIN h (Addr.add x_0 45) 1 h <|
    FOP .f32 (FloatKind.f32.format.mul r61 in_1) fun r112 =>
    PIN h (Addr.add o_9 3) 1 h <|
    PIN h (Addr.add o_9 2) 1 h <|
    PIN h (Addr.add o_9 1) 1 h <|
    PIN h o_9 1 h <|
    PIN h (Addr.add x_0 46) 1 h <|
    FOP .f32 (FloatKind.f32.format.add r112 r111) fun r113 =>
    Post (.float .f32 r113) h))))))
def spec_l06Step.g20 (fr : Frame) : Addr × Nat × Nat × Addr × Addr × Int := ((gP (lget fr 0)), (gF (lget fr 1)), (gF (lget fr 8)), (gP (lget fr 9)), (gP (lget fr 12)), (gI (lget fr 13)))
def spec_l06Step.l20 (Post : Value → Heap → Prop) : Frame → Heap → Prop := fun fr h => GRD (shape (kds 152 [(0, .p), (1, .f .f32), (8, .f .f32), (9, .p), (12, .p), (13, .i .i64)]) fr) (LOOP (spec_l06Step.B20 Post) (spec_l06Step.g20 fr) h)
def spec_l06Step.B14 (Post : Value → Heap → Prop) (N14 : (Addr × Nat × Nat × Addr × Addr × Int) → Heap → Prop) : Addr × Nat × Nat × Addr × Addr × Int → Heap → Prop
  | (x_0, in_1, f_8, o_9, d_10, i_11), h =>
    BIF ((decide (i_11 < (4 : Int)))) (
    IDX i_11 4 <|
    oL (cell h ((Addr.add (Addr.add x_0 9) ((Int.toNat i_11) * 2)))) fun l34b l34l l34c =>
    IDX i_11 4 <|
    oI .i64 (cell h ((Addr.add ((Addr.add (Addr.add x_0 9) ((Int.toNat i_11) * 2))) 1))) fun n35 =>
    IDXS l34b n35 l34l fun p36 =>
    oF .f32 (cell h ((Addr.add p36 ((Int.toNat n35) * 1)))) fun r37 =>
    IDX i_11 4 <|
    ST1 h ((Addr.add o_9 ((Int.toNat i_11) * 1))) (.float .f32 r37) fun h38 =>
    IDX i_11 4 <|
    IDX i_11 4 <|
    oF .f32 (cell h38 ((Addr.add (Addr.add x_0 41) ((Int.toNat i_11) * 1)))) fun r39 =>
    IDX i_11 4 <|
    oF .f32 (cell h38 ((Addr.add o_9 ((Int.toNat i_11) * 1)))) fun r40 =>
    FOP .f32 (FloatKind.f32.format.mul r39 r40) fun r41 =>
    CALL prg f_spec_l02Step #[.pointer (some ((Addr.add (Addr.add x_0 17) ((Int.toNat i_11) * 6)))), .float .f32 r41] (fun q42 h43 =>
    asF .f32 q42 fun r44 =>
    IDX i_11 4 <|
    ST1 h43 ((Addr.add d_10 ((Int.toNat i_11) * 1))) (.float .f32 r44) fun h45 =>
    N14 (x_0, in_1, f_8, o_9, d_10, ((IntKind.i64.wrap (i_11 + (1 : Int))))) h45) h38) (
    LDA 4 h d_10 fun a46 =>
    CALL prg f_spec_MixFour #[.agg a46] (fun q47 h48 =>
    asA q47 fun a49 =>
    ALC ⟨Z_4_float32⟩ T_4_float32 (fun g50 h51 =>
    STA 4 h51 ⟨g50, 0, none⟩ a49 fun h52 =>
    LOOP (spec_l06Step.B20 Post) (x_0, in_1, f_8, o_9, ⟨g50, 0, none⟩, (0 : Int)) h52) h48) h)
def spec_l06Step.g14 (fr : Frame) : Addr × Nat × Nat × Addr × Addr × Int := ((gP (lget fr 0)), (gF (lget fr 1)), (gF (lget fr 8)), (gP (lget fr 9)), (gP (lget fr 10)), (gI (lget fr 11)))
def spec_l06Step.l14 (Post : Value → Heap → Prop) : Frame → Heap → Prop := fun fr h => GRD (shape (kds 152 [(0, .p), (1, .f .f32), (8, .f .f32), (9, .p), (10, .p), (11, .i .i64)]) fr) (LOOP (spec_l06Step.B14 Post) (spec_l06Step.g14 fr) h)
def spec_l06Step.B3 (Post : Value → Heap → Prop) (N3 : (Addr × Nat × Nat × Int) → Heap → Prop) : Addr × Nat × Nat × Int → Heap → Prop
  | (x_0, in_1, m_5, i_6), h =>
    oL (cell h (Addr.add x_0 2)) fun l1b l1l l1c =>
    BIF ((decide (i_6 < (l1l : Int)))) (
    oL (cell h (Addr.add x_0 2)) fun l4b l4l l4c =>
    IDXS l4b i_6 l4l fun p5 =>
    oF .f32 (cell h ((Addr.add ((Addr.add p5 ((Int.toNat i_6) * 2))) 1))) fun r6 =>
    oL (cell h (Addr.add x_0 2)) fun l7b l7l l7c =>
    IDXS l7b i_6 l7l fun p8 =>
    oI .i64 (cell h ((Addr.add p8 ((Int.toNat i_6) * 2)))) fun n9 =>
    CALL prg f_spec_l02Back #[.pointer (some x_0), .int .i64 n9] (fun q10 h11 =>
    asF .f32 q10 fun r12 =>
    PIN h ((Addr.add ((Addr.add p5 ((Int.toNat i_6) * 2))) 1)) 1 h11 <|
    PIN h (Addr.add x_0 2) 1 h11 <|
    FOP .f32 (FloatKind.f32.format.mul r6 r12) fun r13 =>
    BIF (i_6 == (0 : Int)) (
    N3 (x_0, in_1, r13, ((IntKind.i64.wrap (i_6 + (1 : Int))))) h11) (
    FOP .f32 (FloatKind.f32.format.add m_5 r13) fun r14 =>
    N3 (x_0, in_1, r14, ((IntKind.i64.wrap (i_6 + (1 : Int))))) h11)) h) (
    CALL prg f_spec_l02Kept #[.float .f32 in_1] (fun q15 h16 =>
    asF .f32 q15 fun r17 =>
    CALL prg f_spec_l02Push #[.pointer (some x_0), .float .f32 r17] (fun q18 h19 =>
    asF .f32 q18 fun r20 =>
    IDX (1 : Int) 2 <|
    IDX (0 : Int) 2 <|
    FOP .f32 (FloatKind.f32.format.add in_1 m_5) fun r21 =>
    CALL prg f_spec_l06StepComb #[.pointer (some (Addr.add x_0 3)), .float .f32 r21] (fun q22 h23 =>
    asF .f32 q22 fun r24 =>
    CALL prg f_spec_l06StepComb #[.pointer (some (Addr.add x_0 6)), .float .f32 r24] (fun q25 h26 =>
    asF .f32 q25 fun r27 =>
    ALC ⟨Z_4_float32⟩ T_4_float32 (fun g28 h29 =>
    STA 4 h29 ⟨g28, 0, none⟩ (⟨[.float .f32 0, .float .f32 0, .float .f32 0, .float .f32 0]⟩ : Array Value) fun h30 =>
    ALC ⟨Z_4_float32⟩ T_4_float32 (fun g31 h32 =>
    STA 4 h32 ⟨g31, 0, none⟩ (⟨[.float .f32 0, .float .f32 0, .float .f32 0, .float .f32 0]⟩ : Array Value) fun h33 =>
    LOOP (spec_l06Step.B14 Post) (x_0, in_1, r27, ⟨g28, 0, none⟩, ⟨g31, 0, none⟩, (0 : Int)) h33) h30) h26) h23) h19) h16) h)
def spec_l06Step.g3 (fr : Frame) : Addr × Nat × Nat × Int := ((gP (lget fr 0)), (gF (lget fr 1)), (gF (lget fr 5)), (gI (lget fr 6)))
def spec_l06Step.l3 (Post : Value → Heap → Prop) : Frame → Heap → Prop := fun fr h => GRD (shape (kds 152 [(0, .p), (1, .f .f32), (5, .f .f32), (6, .i .i64)]) fr) (LOOP (spec_l06Step.B3 Post) (spec_l06Step.g3 fr) h)
def spec_l06Step.S (x_0 : Addr) (in_1 : Nat) (Post : Value → Heap → Prop) (h : Heap) : Prop :=
    LOOP (spec_l06Step.B3 Post) (x_0, in_1, 0, (0 : Int)) h
noncomputable def spec_l06Step.code : Code := (Tryz.f70.body).getD .skip
theorem spec_l06Step.call {x_0 : Addr} {in_1 : Nat} {Post : Value → Heap → Prop} {h : Heap} (H : spec_l06Step.S x_0 in_1 Post h) : CALL prg f_spec_l06Step #[.pointer (some x_0), .float .f32 in_1] Post h :=
  fn_call tau_ok mixed (c := spec_l06Step.code) (Λ := lookL [(1000003, spec_l06Step.l3 Post), (1000014, spec_l06Step.l14 Post), (1000020, spec_l06Step.l20 Post)]) Tryz.func70 (by kernel_rfl) (by kernel_rfl)
    (Rq.seq (by kernel_rfl) (Rq.free (by kernel_rfl)) (Rq.seq (by kernel_rfl) (Rq.free (by kernel_rfl)) (Rq.seq (by kernel_rfl) (Rq.seq (by kernel_rfl) (Rq.free (by kernel_rfl)) (Rq.block (Rq.loop (spec_l06Step.l3 Post) (by kernel_rfl) (segL (g := spec_l06Step.g3) tau_ok mixed (Λ := fun N3 => lookL []) (fun _ _ _ => by kernel_rfl) (fun N3 => (Rq.free (by kernel_rfl))))))) (Rq.seq (by kernel_rfl) (Rq.free (by kernel_rfl)) (Rq.seq (by kernel_rfl) (Rq.free (by kernel_rfl)) (Rq.seq (by kernel_rfl) (Rq.free (by kernel_rfl)) (Rq.seq (by kernel_rfl) (Rq.free (by kernel_rfl)) (Rq.seq (by kernel_rfl) (Rq.seq (by kernel_rfl) (Rq.free (by kernel_rfl)) (Rq.block (Rq.loop (spec_l06Step.l14 Post) (by kernel_rfl) (segL (g := spec_l06Step.g14) tau_ok mixed (Λ := fun N14 => lookL []) (fun _ _ _ => by kernel_rfl) (fun N14 => (Rq.free (by kernel_rfl))))))) (Rq.seq (by kernel_rfl) (Rq.free (by kernel_rfl)) (Rq.seq (by kernel_rfl) (Rq.seq (by kernel_rfl) (Rq.free (by kernel_rfl)) (Rq.block (Rq.loop (spec_l06Step.l20 Post) (by kernel_rfl) (segL (g := spec_l06Step.g20) tau_ok mixed (Λ := fun N20 => lookL []) (fun _ _ _ => by kernel_rfl) (fun N20 => (Rq.free (by kernel_rfl))))))) (Rq.free (by kernel_rfl))))))))))))
    (Eq.mp (by kernel_rfl) H)

def spec_MixFour.S (x_0 : Array Value) (Post : Value → Heap → Prop) (h : Heap) : Prop :=
    ALC x_0 T_4_float32 (fun g1 h2 =>
    ALC ⟨Z_4_float32⟩ T_4_float32 (fun g3 h4 =>
    IDX (0 : Int) 4 <|
    oF .f32 (cell h4 ⟨g1, 0, none⟩) fun r5 =>
    IDX (1 : Int) 4 <|
    oF .f32 (cell h4 ⟨g1, 1, none⟩) fun r6 =>
    FOP .f32 (FloatKind.f32.format.add r5 r6) fun r7 =>
    IDX (0 : Int) 4 <|
    oF .f32 (cell h4 ⟨g1, 0, none⟩) fun r8 =>
    IDX (1 : Int) 4 <|
    oF .f32 (cell h4 ⟨g1, 1, none⟩) fun r9 =>
    FOP .f32 (FloatKind.f32.format.sub r8 r9) fun r10 =>
    IDX (2 : Int) 4 <|
    oF .f32 (cell h4 ⟨g1, 2, none⟩) fun r11 =>
    IDX (3 : Int) 4 <|
    oF .f32 (cell h4 ⟨g1, 3, none⟩) fun r12 =>
    FOP .f32 (FloatKind.f32.format.add r11 r12) fun r13 =>
    IDX (2 : Int) 4 <|
    oF .f32 (cell h4 ⟨g1, 2, none⟩) fun r14 =>
    IDX (3 : Int) 4 <|
    oF .f32 (cell h4 ⟨g1, 3, none⟩) fun r15 =>
    FOP .f32 (FloatKind.f32.format.sub r14 r15) fun r16 =>
    FOP .f32 (FloatKind.f32.format.add r7 r13) fun r17 =>
    FOP .f32 (FloatKind.f32.format.mul 1056964608 r17) fun r18 =>
    FOP .f32 (FloatKind.f32.format.add r10 r16) fun r19 =>
    FOP .f32 (FloatKind.f32.format.mul 1056964608 r19) fun r20 =>
    FOP .f32 (FloatKind.f32.format.sub r7 r13) fun r21 =>
    FOP .f32 (FloatKind.f32.format.mul 1056964608 r21) fun r22 =>
    FOP .f32 (FloatKind.f32.format.sub r10 r16) fun r23 =>
    FOP .f32 (FloatKind.f32.format.mul 1056964608 r23) fun r24 =>
    STA 4 h4 ⟨g3, 0, none⟩ (⟨[.float .f32 r18, .float .f32 r20, .float .f32 r22, .float .f32 r24]⟩ : Array Value) fun h25 =>
    LDA 4 h25 ⟨g3, 0, none⟩ fun a26 =>
    Post (.agg a26) h25) h2) h
noncomputable def spec_MixFour.code : Code := (Tryz.f148.body).getD .skip
theorem spec_MixFour.call {x_0 : Array Value} {Post : Value → Heap → Prop} {h : Heap} (H : spec_MixFour.S x_0 Post h) : CALL prg f_spec_MixFour #[.agg x_0] Post h :=
  fn_call tau_ok mixed (c := spec_MixFour.code) (Λ := lookL []) Tryz.func148 (by kernel_rfl) (by kernel_rfl)
    (Rq.free (by kernel_rfl))
    (Eq.mp (by kernel_rfl) H)

def spec_l05Muted.S (r_0 : Addr) (Post : Value → Heap → Prop) (h : Heap) : Prop :=
    ALC ⟨Z_impl_Ring⟩ T_impl_Ring (fun g1 h2 =>
    oL (cell h2 r_0) fun l3b l3l l3c =>
    oI .i64 (cell h2 (Addr.add r_0 1)) fun n6 =>
    MKS ti_float32 T_float32 (l3l : Int) (l3l : Int) (fun g7 h8 =>
    PIN h2 (Addr.add r_0 1) 1 h8 <|
    STA 2 h8 ⟨g1, 0, none⟩ (⟨[.slice (some ⟨g7, 0, none⟩) l3l l3l, .int .i64 n6]⟩ : Array Value) fun h9 =>
    LDA 2 h9 ⟨g1, 0, none⟩ fun a10 =>
    Post (.agg a10) h9) h2) h
noncomputable def spec_l05Muted.code : Code := (Tryz.f83.body).getD .skip
theorem spec_l05Muted.call {r_0 : Addr} {Post : Value → Heap → Prop} {h : Heap} (H : spec_l05Muted.S r_0 Post h) : CALL prg f_spec_l05Muted #[.pointer (some r_0)] Post h :=
  fn_call tau_ok mixed (c := spec_l05Muted.code) (Λ := lookL []) Tryz.func83 (by kernel_rfl) (by kernel_rfl)
    (Rq.free (by kernel_rfl))
    (Eq.mp (by kernel_rfl) H)

def impl_ValidComb.S (c_0 : Array Value) (Post : Value → Heap → Prop) (h : Heap) : Prop :=
    ALC c_0 T_impl_Comb (fun g1 h2 =>
    LDA 2 h2 ⟨g1, 0, none⟩ fun a3 =>
    CALL prg f_impl_isRing #[.agg a3] (fun q4 h5 =>
    asB q4 fun b6 =>
    BIF b6 (
    oF .f32 (cell h5 ⟨g1, 2, none⟩) fun r7 =>
    CALL prg f_impl_isFinite #[.float .f32 r7] (fun q8 h9 =>
    asB q8 fun b10 =>
    Post (.bool b10) h9) h5) (
    Post (.bool false) h5)) h2) h
noncomputable def impl_ValidComb.code : Code := (Tryz.f86.body).getD .skip
theorem impl_ValidComb.call {c_0 : Array Value} {Post : Value → Heap → Prop} {h : Heap} (H : impl_ValidComb.S c_0 Post h) : CALL prg f_impl_ValidComb #[.agg c_0] Post h :=
  fn_call tau_ok mixed (c := impl_ValidComb.code) (Λ := lookL []) Tryz.func86 (by kernel_rfl) (by kernel_rfl)
    (Rq.free (by kernel_rfl))
    (Eq.mp (by kernel_rfl) H)

def impl_isTap.S (t_0 : Array Value) (length_1 : Int) (Post : Value → Heap → Prop) (h : Heap) : Prop :=
    ALC t_0 T_impl_Tap (fun g1 h2 =>
    oI .i64 (cell h2 ⟨g1, 0, none⟩) fun n3 =>
    CALL prg f_impl_within #[.int .i64 n3, .int .i64 (1 : Int), .int .i64 length_1] (fun q4 h5 =>
    asB q4 fun b6 =>
    BIF b6 (
    oF .f32 (cell h5 ⟨g1, 1, none⟩) fun r7 =>
    CALL prg f_impl_isFinite #[.float .f32 r7] (fun q8 h9 =>
    asB q8 fun b10 =>
    Post (.bool b10) h9) h5) (
    Post (.bool false) h5)) h2) h
noncomputable def impl_isTap.code : Code := (Tryz.f90.body).getD .skip
theorem impl_isTap.call {t_0 : Array Value} {length_1 : Int} {Post : Value → Heap → Prop} {h : Heap} (H : impl_isTap.S t_0 length_1 Post h) : CALL prg f_impl_isTap #[.agg t_0, .int .i64 length_1] Post h :=
  fn_call tau_ok mixed (c := impl_isTap.code) (Λ := lookL []) Tryz.func90 (by kernel_rfl) (by kernel_rfl)
    (Rq.free (by kernel_rfl))
    (Eq.mp (by kernel_rfl) H)

def impl_ValidRoom_c1.S (t_0 : Array Value) (t1 : Addr) (Post : Value → Heap → Prop) (h : Heap) : Prop :=
    ALC t_0 T_impl_Tap (fun g1 h2 =>
    LDA 2 h2 ⟨g1, 0, none⟩ fun a3 =>
    oL (cell h2 t1) fun l4b l4l l4c =>
    CALL prg f_impl_length_float32 #[.slice l4b l4l l4c] (fun q5 h6 =>
    asI .i64 q5 fun n7 =>
    PIN h2 ⟨g1, 0, none⟩ 2 h6 <|
    CALL prg f_impl_isTap #[.agg a3, .int .i64 n7] (fun q8 h9 =>
    asB q8 fun b10 =>
    Post (.bool (!b10)) h9) h6) h2) h
noncomputable def impl_ValidRoom_c1.code : Code := (Tryz.f89.body).getD .skip
theorem impl_ValidRoom_c1.call {t_0 : Array Value} {t1 : Addr} {Post : Value → Heap → Prop} {h : Heap} (H : impl_ValidRoom_c1.S t_0 t1 Post h) : CALL prg f_impl_ValidRoom_c1 #[.agg t_0, .pointer (some t1)] Post h :=
  fn_call tau_ok mixed (c := impl_ValidRoom_c1.code) (Λ := lookL []) Tryz.func89 (by kernel_rfl) (by kernel_rfl)
    (Rq.free (by kernel_rfl))
    (Eq.mp (by kernel_rfl) H)

def slices_IndexFunc_sl_impl_Tap_impl_Tap.B2 (Post : Value → Heap → Prop) (N2 : (Option Addr × Nat × Nat × Value × Int × Int) → Heap → Prop) : Option Addr × Nat × Nat × Value × Int × Int → Heap → Prop
  | (s_0b, s_0l, s_0c, f_1, t7, t8), h =>
    BIF (decide (t8 < t7)) (
    IDXS s_0b t8 s_0l fun p3 =>
    LDA 2 h ((Addr.add p3 ((Int.toNat t8) * 2))) fun a4 =>
    CALLD prg f_1 #[.agg a4] (fun q5 h6 =>
    asB q5 fun b7 =>
    BIF b7 (
    Post (.int .i64 t8) h6) (
    N2 (s_0b, s_0l, s_0c, f_1, t7, ((IntKind.i64.wrap (t8 + (1 : Int))))) h6)) h) (
    Post (.int .i64 (-1 : Int)) h)
def slices_IndexFunc_sl_impl_Tap_impl_Tap.g2 (fr : Frame) : Option Addr × Nat × Nat × Value × Int × Int := ((gLb (lget fr 0)), (gLl (lget fr 0)), (gLc (lget fr 0)), (lget fr 1), (gI (lget fr 7)), (gI (lget fr 8)))
def slices_IndexFunc_sl_impl_Tap_impl_Tap.l2 (Post : Value → Heap → Prop) : Frame → Heap → Prop := fun fr h => GRD (shape (kds 19 [(0, .l), (1, .v), (7, .i .i64), (8, .i .i64)]) fr) (LOOP (slices_IndexFunc_sl_impl_Tap_impl_Tap.B2 Post) (slices_IndexFunc_sl_impl_Tap_impl_Tap.g2 fr) h)
def slices_IndexFunc_sl_impl_Tap_impl_Tap.S (s_0b : Option Addr) (s_0l s_0c : Nat) (f_1 : Value) (Post : Value → Heap → Prop) (h : Heap) : Prop :=
    LOOP (slices_IndexFunc_sl_impl_Tap_impl_Tap.B2 Post) (s_0b, s_0l, s_0c, f_1, (s_0l : Int), (0 : Int)) h
noncomputable def slices_IndexFunc_sl_impl_Tap_impl_Tap.code : Code := (Tryz.f156.body).getD .skip
theorem slices_IndexFunc_sl_impl_Tap_impl_Tap.call {s_0b : Option Addr} {s_0l s_0c : Nat} {f_1 : Value} {Post : Value → Heap → Prop} {h : Heap} (H : slices_IndexFunc_sl_impl_Tap_impl_Tap.S s_0b s_0l s_0c f_1 Post h) : CALL prg f_slices_IndexFunc_sl_impl_Tap_impl_Tap #[.slice s_0b s_0l s_0c, f_1] Post h :=
  fn_call tau_ok mixed (c := slices_IndexFunc_sl_impl_Tap_impl_Tap.code) (Λ := lookL [(1000002, slices_IndexFunc_sl_impl_Tap_impl_Tap.l2 Post)]) Tryz.func156 (by kernel_rfl) (by kernel_rfl)
    (Rq.seq (by kernel_rfl) (Rq.free (by kernel_rfl)) (Rq.seq (by kernel_rfl) (Rq.seq (by kernel_rfl) (Rq.free (by kernel_rfl)) (Rq.block (Rq.loop (slices_IndexFunc_sl_impl_Tap_impl_Tap.l2 Post) (by kernel_rfl) (segL (g := slices_IndexFunc_sl_impl_Tap_impl_Tap.g2) tau_ok mixed (Λ := fun N2 => lookL []) (fun _ _ _ => by kernel_rfl) (fun N2 => (Rq.free (by kernel_rfl))))))) (Rq.free (by kernel_rfl))))
    (Eq.mp (by kernel_rfl) H)

def slices_ContainsFunc_sl_impl_Tap_impl_Tap.S (s_0b : Option Addr) (s_0l s_0c : Nat) (f_1 : Value) (Post : Value → Heap → Prop) (h : Heap) : Prop :=
    CALL prg f_slices_IndexFunc_sl_impl_Tap_impl_Tap #[.slice s_0b s_0l s_0c, f_1] (fun q1 h2 =>
    asI .i64 q1 fun n3 =>
    Post (.bool ((decide ((0 : Int) ≤ n3)))) h2) h
noncomputable def slices_ContainsFunc_sl_impl_Tap_impl_Tap.code : Code := (Tryz.f88.body).getD .skip
theorem slices_ContainsFunc_sl_impl_Tap_impl_Tap.call {s_0b : Option Addr} {s_0l s_0c : Nat} {f_1 : Value} {Post : Value → Heap → Prop} {h : Heap} (H : slices_ContainsFunc_sl_impl_Tap_impl_Tap.S s_0b s_0l s_0c f_1 Post h) : CALL prg f_slices_ContainsFunc_sl_impl_Tap_impl_Tap #[.slice s_0b s_0l s_0c, f_1] Post h :=
  fn_call tau_ok mixed (c := slices_ContainsFunc_sl_impl_Tap_impl_Tap.code) (Λ := lookL []) Tryz.func88 (by kernel_rfl) (by kernel_rfl)
    (Rq.free (by kernel_rfl))
    (Eq.mp (by kernel_rfl) H)

def impl_ValidRoom.B4 (Post : Value → Heap → Prop) (N4 : (Addr × Array Value × Int) → Heap → Prop) : Addr × Array Value × Int → Heap → Prop
  | (x_1, t45, t46), h =>
    BIF ((decide (t46 < (4 : Int)))) (
    IDX t46 4 <|
    ALC ⟨Z_impl_Ring⟩ T_impl_Ring (fun g29 h30 =>
    STA 2 h30 ⟨g29, 0, none⟩ ((Array.extract t45 ((Int.toNat t46) * 2) (((Int.toNat t46) * 2) + 2))) fun h31 =>
    LDA 2 h31 ⟨g29, 0, none⟩ fun a32 =>
    CALL prg f_impl_isRing #[.agg a32] (fun q33 h34 =>
    asB q33 fun b35 =>
    BIF (!b35) (
    Post (.bool false) h34) (
    IDX t46 4 <|
    LDA 6 h34 ((Addr.add (Addr.add x_1 17) ((Int.toNat t46) * 6))) fun a36 =>
    CALL prg f_impl_isFilter #[.agg a36, .int .i64 (1 : Int)] (fun q37 h38 =>
    asB q37 fun b39 =>
    BIF (!b39) (
    Post (.bool false) h38) (
    N4 (x_1, t45, ((IntKind.i64.wrap (t46 + (1 : Int))))) h38)) h34)) h31) h) (
    oL (cell h (Addr.add x_1 2)) fun l40b l40l l40c =>
    CALL prg f_slices_ContainsFunc_sl_impl_Tap_impl_Tap #[.slice l40b l40l l40c, .func (.func 89) #[] #[.pointer (some x_1)]] (fun q41 h42 =>
    asB q41 fun b43 =>
    Post (.bool (!b43)) h42) h)
def impl_ValidRoom.g4 (fr : Frame) : Addr × Array Value × Int := ((gP (lget fr 1)), (gA (lget fr 45)), (gI (lget fr 46)))
def impl_ValidRoom.l4 (Post : Value → Heap → Prop) : Frame → Heap → Prop := fun fr h => GRD (shape (kds 67 [(1, .p), (45, .a), (46, .i .i64)]) fr) (LOOP (impl_ValidRoom.B4 Post) (impl_ValidRoom.g4 fr) h)
def impl_ValidRoom.J3 (Post : Value → Heap → Prop) (x_1 : Addr) (h : Heap) : Prop :=
    LDA 8 h (Addr.add x_1 9) fun a28 =>
    LOOP (impl_ValidRoom.B4 Post) (x_1, a28, (0 : Int)) h
def impl_ValidRoom.j3 (Post : Value → Heap → Prop) : Frame → Heap → Prop := fun fr h => GRD (shape (kds 67 [(1, .p)]) fr) (impl_ValidRoom.J3 Post (gP (lget fr 1)) h)
def impl_ValidRoom.S (x_0 : Array Value) (Post : Value → Heap → Prop) (h : Heap) : Prop :=
    ALC x_0 T_impl_Room (fun g1 h2 =>
    LDA 2 h2 ⟨g1, 0, none⟩ fun a3 =>
    CALL prg f_impl_isRing #[.agg a3] (fun q4 h5 =>
    asB q4 fun b6 =>
    BIF (!b6) (
    Post (.bool false) h5) (
    oL (cell h5 ⟨g1, 2, none⟩) fun l7b l7l l7c =>
    BIF ((decide ((6 : Int) < (l7l : Int)))) (
    Post (.bool false) h5) (
    SLB (0 : Int) (4 : Int) (4 : Int) <|
    CALL prg f_impl_areFinite #[.slice (some (slP ⟨g1, 41, none⟩ 4 0 1)) (4 - 0) (4 - 0)] (fun q10 h11 =>
    asB q10 fun b12 =>
    BIF (!b12) (
    Post (.bool false) h11) (
    oF .f32 (cell h11 ⟨g1, 45, none⟩) fun r13 =>
    oF .f32 (cell h11 ⟨g1, 46, none⟩) fun r14 =>
    ALC ⟨[.float .f32 r13, .float .f32 r14]⟩ T_float32 (fun g15 h16 =>
    CALL prg f_impl_areFinite #[.slice (some ⟨g15, 0, none⟩) 2 2] (fun q17 h18 =>
    asB q17 fun b19 =>
    BIF (!b19) (
    Post (.bool false) h18) (
    IDX (0 : Int) 2 <|
    LDA 3 h18 ⟨g1, 3, none⟩ fun a20 =>
    CALL prg f_impl_ValidComb #[.agg a20] (fun q21 h22 =>
    asB q21 fun b23 =>
    BIF (!b23) (
    Post (.bool false) h22) (
    IDX (1 : Int) 2 <|
    LDA 3 h22 ⟨g1, 6, none⟩ fun a24 =>
    CALL prg f_impl_ValidComb #[.agg a24] (fun q25 h26 =>
    asB q25 fun b27 =>
    BIF (!b27) (
    Post (.bool false) h26) (
    impl_ValidRoom.J3 Post ⟨g1, 0, none⟩ h26)) h22)) h18)) h16) h11)) h5))) h2) h
noncomputable def impl_ValidRoom.code : Code := (Tryz.f32.body).getD .skip
theorem impl_ValidRoom.call {x_0 : Array Value} {Post : Value → Heap → Prop} {h : Heap} (H : impl_ValidRoom.S x_0 Post h) : CALL prg f_impl_ValidRoom #[.agg x_0] Post h :=
  fn_call tau_ok mixed (c := impl_ValidRoom.code) (Λ := lookL [(3, impl_ValidRoom.j3 Post), (1000004, impl_ValidRoom.l4 Post)]) Tryz.func32 (by kernel_rfl) (by kernel_rfl)
    (Rq.seq (by kernel_rfl) (Rq.free (by kernel_rfl)) (Rq.seqJ (impl_ValidRoom.j3 Post) (by kernel_rfl) (seg (fun _ _ => by kernel_rfl)) (Rq.free (by kernel_rfl))
(Rq.seq (by kernel_rfl) (Rq.seq (by kernel_rfl) (Rq.free (by kernel_rfl)) (Rq.block (Rq.loop (impl_ValidRoom.l4 Post) (by kernel_rfl) (segL (g := impl_ValidRoom.g4) tau_ok mixed (Λ := fun N4 => lookL []) (fun _ _ _ => by kernel_rfl) (fun N4 => (Rq.free (by kernel_rfl))))))) (Rq.free (by kernel_rfl)))))
    (Eq.mp (by kernel_rfl) H)

def slices_Clone_sl_impl_Tap_impl_Tap.S (s_0b : Option Addr) (s_0l s_0c : Nat) (Post : Value → Heap → Prop) (h : Heap) : Prop :=
    CMP prg .eql T_sl_impl_Tap (.tmp 3) (.const (.slice none 0 0)) (.slice s_0b s_0l s_0c) (.slice none 0 0) (fun b1 h2 =>
    BIF b1 (
    Post (.slice none 0 0) h2) (
    ALC ⟨[]⟩ T_impl_Tap (fun g3 h4 =>
    SEMV prg (Builtin.append_ #[T_sl_impl_Tap, T_sl_impl_Tap] T_sl_impl_Tap #[.slice (some ⟨g3, 0, none⟩) 0 0, .slice s_0b s_0l s_0c]) (fun q5 h6 =>
    asL q5 fun l7b l7l l7c =>
    Post (.slice l7b l7l l7c) h6) h4) h2)) h
noncomputable def slices_Clone_sl_impl_Tap_impl_Tap.code : Code := (Tryz.f129.body).getD .skip
theorem slices_Clone_sl_impl_Tap_impl_Tap.call {s_0b : Option Addr} {s_0l s_0c : Nat} {Post : Value → Heap → Prop} {h : Heap} (H : slices_Clone_sl_impl_Tap_impl_Tap.S s_0b s_0l s_0c Post h) : CALL prg f_slices_Clone_sl_impl_Tap_impl_Tap #[.slice s_0b s_0l s_0c] Post h :=
  fn_call tau_ok mixed (c := slices_Clone_sl_impl_Tap_impl_Tap.code) (Λ := lookL []) Tryz.func129 (by kernel_rfl) (by kernel_rfl)
    (Rq.free (by kernel_rfl))
    (Eq.mp (by kernel_rfl) H)

def impl_Room_clone.B8 (Post : Value → Heap → Prop) (N8 : (Addr × Addr × Int) → Heap → Prop) : Addr × Addr × Int → Heap → Prop
  | (x_1, t2, t27), h =>
    BIF ((decide (t27 < (4 : Int)))) (
    IDX t27 4 <|
    LDA 2 h ((Addr.add (Addr.add x_1 9) ((Int.toNat t27) * 2))) fun a20 =>
    CALL prg f_impl_Ring_clone #[.agg a20] (fun q21 h22 =>
    asA q21 fun a23 =>
    IDX t27 4 <|
    STA 2 h22 ((Addr.add (Addr.add x_1 9) ((Int.toNat t27) * 2))) a23 fun h24 =>
    N8 (x_1, t2, ((IntKind.i64.wrap (t27 + (1 : Int))))) h24) h) (
    LDA 47 h x_1 fun a25 =>
    STA 47 h t2 a25 fun h26 =>
    LDA 47 h26 t2 fun a27 =>
    Post (.agg a27) h26)
def impl_Room_clone.g8 (fr : Frame) : Addr × Addr × Int := ((gP (lget fr 1)), (gP (lget fr 2)), (gI (lget fr 27)))
def impl_Room_clone.l8 (Post : Value → Heap → Prop) : Frame → Heap → Prop := fun fr h => GRD (shape (kds 40 [(1, .p), (2, .p), (27, .i .i64)]) fr) (LOOP (impl_Room_clone.B8 Post) (impl_Room_clone.g8 fr) h)
def impl_Room_clone.B3 (Post : Value → Heap → Prop) (N3 : (Addr × Addr × Int) → Heap → Prop) : Addr × Addr × Int → Heap → Prop
  | (x_1, t2, t13), h =>
    BIF ((decide (t13 < (2 : Int)))) (
    IDX t13 2 <|
    LDA 2 h ((Addr.add (Addr.add x_1 3) ((Int.toNat t13) * 3))) fun a15 =>
    CALL prg f_impl_Ring_clone #[.agg a15] (fun q16 h17 =>
    asA q16 fun a18 =>
    IDX t13 2 <|
    STA 2 h17 ((Addr.add (Addr.add x_1 3) ((Int.toNat t13) * 3))) a18 fun h19 =>
    N3 (x_1, t2, ((IntKind.i64.wrap (t13 + (1 : Int))))) h19) h) (
    LOOP (impl_Room_clone.B8 Post) (x_1, t2, (0 : Int)) h)
def impl_Room_clone.g3 (fr : Frame) : Addr × Addr × Int := ((gP (lget fr 1)), (gP (lget fr 2)), (gI (lget fr 13)))
def impl_Room_clone.l3 (Post : Value → Heap → Prop) : Frame → Heap → Prop := fun fr h => GRD (shape (kds 40 [(1, .p), (2, .p), (13, .i .i64)]) fr) (LOOP (impl_Room_clone.B3 Post) (impl_Room_clone.g3 fr) h)
def impl_Room_clone.S (x_0 : Array Value) (Post : Value → Heap → Prop) (h : Heap) : Prop :=
    ALC x_0 T_impl_Room (fun g1 h2 =>
    ALC ⟨Z_impl_Room⟩ T_impl_Room (fun g3 h4 =>
    LDA 2 h4 ⟨g1, 0, none⟩ fun a5 =>
    oL (cell h4 ⟨g1, 2, none⟩) fun l6b l6l l6c =>
    CALL prg f_impl_Ring_clone #[.agg a5] (fun q7 h8 =>
    asA q7 fun a9 =>
    PIN h4 ⟨g1, 2, none⟩ 1 h8 <|
    CALL prg f_slices_Clone_sl_impl_Tap_impl_Tap #[.slice l6b l6l l6c] (fun q10 h11 =>
    asL q10 fun l12b l12l l12c =>
    STA 2 h11 ⟨g1, 0, none⟩ a9 fun h13 =>
    ST1 h13 ⟨g1, 2, none⟩ (.slice l12b l12l l12c) fun h14 =>
    LOOP (impl_Room_clone.B3 Post) (⟨g1, 0, none⟩, ⟨g3, 0, none⟩, (0 : Int)) h14) h8) h4) h2) h
noncomputable def impl_Room_clone.code : Code := (Tryz.f66.body).getD .skip
theorem impl_Room_clone.call {x_0 : Array Value} {Post : Value → Heap → Prop} {h : Heap} (H : impl_Room_clone.S x_0 Post h) : CALL prg f_impl_Room_clone #[.agg x_0] Post h :=
  fn_call tau_ok mixed (c := impl_Room_clone.code) (Λ := lookL [(1000003, impl_Room_clone.l3 Post), (1000008, impl_Room_clone.l8 Post)]) Tryz.func66 (by kernel_rfl) (by kernel_rfl)
    (Rq.seq (by kernel_rfl) (Rq.free (by kernel_rfl)) (Rq.seq (by kernel_rfl) (Rq.free (by kernel_rfl)) (Rq.seq (by kernel_rfl) (Rq.seq (by kernel_rfl) (Rq.free (by kernel_rfl)) (Rq.block (Rq.loop (impl_Room_clone.l3 Post) (by kernel_rfl) (segL (g := impl_Room_clone.g3) tau_ok mixed (Λ := fun N3 => lookL []) (fun _ _ _ => by kernel_rfl) (fun N3 => (Rq.free (by kernel_rfl))))))) (Rq.seq (by kernel_rfl) (Rq.seq (by kernel_rfl) (Rq.free (by kernel_rfl)) (Rq.block (Rq.loop (impl_Room_clone.l8 Post) (by kernel_rfl) (segL (g := impl_Room_clone.g8) tau_ok mixed (Λ := fun N8 => lookL []) (fun _ _ _ => by kernel_rfl) (fun N8 => (Rq.free (by kernel_rfl))))))) (Rq.free (by kernel_rfl))))))
    (Eq.mp (by kernel_rfl) H)

def p_impl_Room_rings.B8 (Post : Value → Heap → Prop) (N8 : (Addr × Option Addr × Nat × Nat × Int) → Heap → Prop) : Addr × Option Addr × Nat × Nat × Int → Heap → Prop
  | (x_0, out_3b, out_3l, out_3c, t23), h =>
    BIF ((decide (t23 < (4 : Int)))) (
    IDX t23 4 <|
    ALC ⟨[.pointer (some ((Addr.add (Addr.add x_0 9) ((Int.toNat t23) * 2))))]⟩ T_p_impl_Ring (fun g8 h9 =>
    SEMV prg (Builtin.append_ #[T_sl_p_impl_Ring, T_sl_p_impl_Ring] T_sl_p_impl_Ring #[.slice out_3b out_3l out_3c, .slice (some ⟨g8, 0, none⟩) 1 1]) (fun q10 h11 =>
    asL q10 fun l12b l12l l12c =>
    N8 (x_0, l12b, l12l, l12c, ((IntKind.i64.wrap (t23 + (1 : Int))))) h11) h9) h) (
    Post (.slice out_3b out_3l out_3c) h)
def p_impl_Room_rings.g8 (fr : Frame) : Addr × Option Addr × Nat × Nat × Int := ((gP (lget fr 0)), (gLb (lget fr 3)), (gLl (lget fr 3)), (gLc (lget fr 3)), (gI (lget fr 23)))
def p_impl_Room_rings.l8 (Post : Value → Heap → Prop) : Frame → Heap → Prop := fun fr h => GRD (shape (kds 36 [(0, .p), (3, .l), (23, .i .i64)]) fr) (LOOP (p_impl_Room_rings.B8 Post) (p_impl_Room_rings.g8 fr) h)
def p_impl_Room_rings.B3 (Post : Value → Heap → Prop) (N3 : (Addr × Option Addr × Nat × Nat × Int) → Heap → Prop) : Addr × Option Addr × Nat × Nat × Int → Heap → Prop
  | (x_0, out_3b, out_3l, out_3c, t10), h =>
    BIF ((decide (t10 < (2 : Int)))) (
    IDX t10 2 <|
    ALC ⟨[.pointer (some ((Addr.add (Addr.add x_0 3) ((Int.toNat t10) * 3))))]⟩ T_p_impl_Ring (fun g3 h4 =>
    SEMV prg (Builtin.append_ #[T_sl_p_impl_Ring, T_sl_p_impl_Ring] T_sl_p_impl_Ring #[.slice out_3b out_3l out_3c, .slice (some ⟨g3, 0, none⟩) 1 1]) (fun q5 h6 =>
    asL q5 fun l7b l7l l7c =>
    N3 (x_0, l7b, l7l, l7c, ((IntKind.i64.wrap (t10 + (1 : Int))))) h6) h4) h) (
    LOOP (p_impl_Room_rings.B8 Post) (x_0, out_3b, out_3l, out_3c, (0 : Int)) h)
def p_impl_Room_rings.g3 (fr : Frame) : Addr × Option Addr × Nat × Nat × Int := ((gP (lget fr 0)), (gLb (lget fr 3)), (gLl (lget fr 3)), (gLc (lget fr 3)), (gI (lget fr 10)))
def p_impl_Room_rings.l3 (Post : Value → Heap → Prop) : Frame → Heap → Prop := fun fr h => GRD (shape (kds 36 [(0, .p), (3, .l), (10, .i .i64)]) fr) (LOOP (p_impl_Room_rings.B3 Post) (p_impl_Room_rings.g3 fr) h)
def p_impl_Room_rings.S (x_0 : Addr) (Post : Value → Heap → Prop) (h : Heap) : Prop :=
    ALC ⟨[.pointer (some x_0)]⟩ T_p_impl_Ring (fun g1 h2 =>
    LOOP (p_impl_Room_rings.B3 Post) (x_0, (some ⟨g1, 0, none⟩), 1, 1, (0 : Int)) h2) h
noncomputable def p_impl_Room_rings.code : Code := (Tryz.f82.body).getD .skip
theorem p_impl_Room_rings.call {x_0 : Addr} {Post : Value → Heap → Prop} {h : Heap} (H : p_impl_Room_rings.S x_0 Post h) : CALL prg f_p_impl_Room_rings #[.pointer (some x_0)] Post h :=
  fn_call tau_ok mixed (c := p_impl_Room_rings.code) (Λ := lookL [(1000003, p_impl_Room_rings.l3 Post), (1000008, p_impl_Room_rings.l8 Post)]) Tryz.func82 (by kernel_rfl) (by kernel_rfl)
    (Rq.seq (by kernel_rfl) (Rq.free (by kernel_rfl)) (Rq.seq (by kernel_rfl) (Rq.free (by kernel_rfl)) (Rq.seq (by kernel_rfl) (Rq.seq (by kernel_rfl) (Rq.free (by kernel_rfl)) (Rq.block (Rq.loop (p_impl_Room_rings.l3 Post) (by kernel_rfl) (segL (g := p_impl_Room_rings.g3) tau_ok mixed (Λ := fun N3 => lookL []) (fun _ _ _ => by kernel_rfl) (fun N3 => (Rq.free (by kernel_rfl))))))) (Rq.seq (by kernel_rfl) (Rq.seq (by kernel_rfl) (Rq.free (by kernel_rfl)) (Rq.block (Rq.loop (p_impl_Room_rings.l8 Post) (by kernel_rfl) (segL (g := p_impl_Room_rings.g8) tau_ok mixed (Λ := fun N8 => lookL []) (fun _ _ _ => by kernel_rfl) (fun N8 => (Rq.free (by kernel_rfl))))))) (Rq.free (by kernel_rfl))))))
    (Eq.mp (by kernel_rfl) H)

def p_impl_Ring_mute.S (r_0 : Addr) (Post : Value → Heap → Prop) (h : Heap) : Prop :=
    oL (cell h r_0) fun l1b l1l l1c =>
    MKS ti_float32 T_float32 (l1l : Int) (l1l : Int) (fun g4 h5 =>
    ST1 h5 r_0 (.slice (some ⟨g4, 0, none⟩) l1l l1l) fun h6 =>
    Post (.tuple ⟨[]⟩) h6) h
noncomputable def p_impl_Ring_mute.code : Code := (Tryz.f50.body).getD .skip
theorem p_impl_Ring_mute.call {r_0 : Addr} {Post : Value → Heap → Prop} {h : Heap} (H : p_impl_Ring_mute.S r_0 Post h) : CALL prg f_p_impl_Ring_mute #[.pointer (some r_0)] Post h :=
  fn_call tau_ok mixed (c := p_impl_Ring_mute.code) (Λ := lookL []) Tryz.func50 (by kernel_rfl) (by kernel_rfl)
    (Rq.free (by kernel_rfl))
    (Eq.mp (by kernel_rfl) H)

def p_impl_Comb_step.S (c_0 : Addr) (in_1 : Nat) (Post : Value → Heap → Prop) (h : Heap) : Prop :=
    LDA 2 h c_0 fun a1 =>
    CALL prg f_impl_Ring_oldest #[.agg a1] (fun q2 h3 =>
    asF .f32 q2 fun r4 =>
    oF .f32 (cell h3 (Addr.add c_0 2)) fun r5 =>
    FOP .f32 (FloatKind.f32.format.mul r5 r4) fun r6 =>
    FOP .f32 (FloatKind.f32.format.add in_1 r6) fun r7 =>
    CALL prg f_impl_kept #[.float .f32 r7] (fun q8 h9 =>
    asF .f32 q8 fun r10 =>
    CALL prg f_p_impl_Ring_push #[.pointer (some c_0), .float .f32 r10] (fun q11 h12 =>
    asF .f32 q11 fun r13 =>
    oF .f32 (cell h12 (Addr.add c_0 2)) fun r14 =>
    FOP .f32 (FloatKind.f32.format.mul r14 r7) fun r15 =>
    FOP .f32 (FloatKind.f32.format.sub r4 r15) fun r16 =>
    Post (.float .f32 r16) h12) h9) h3) h
noncomputable def p_impl_Comb_step.code : Code := (Tryz.f133.body).getD .skip
theorem p_impl_Comb_step.call {c_0 : Addr} {in_1 : Nat} {Post : Value → Heap → Prop} {h : Heap} (H : p_impl_Comb_step.S c_0 in_1 Post h) : CALL prg f_p_impl_Comb_step #[.pointer (some c_0), .float .f32 in_1] Post h :=
  fn_call tau_ok mixed (c := p_impl_Comb_step.code) (Λ := lookL []) Tryz.func133 (by kernel_rfl) (by kernel_rfl)
    (Rq.free (by kernel_rfl))
    (Eq.mp (by kernel_rfl) H)

def impl_MixFour.S (x_0 : Array Value) (Post : Value → Heap → Prop) (h : Heap) : Prop :=
    ALC x_0 T_4_float32 (fun g1 h2 =>
    ALC ⟨Z_4_float32⟩ T_4_float32 (fun g3 h4 =>
    IDX (0 : Int) 4 <|
    oF .f32 (cell h4 ⟨g1, 0, none⟩) fun r5 =>
    IDX (1 : Int) 4 <|
    oF .f32 (cell h4 ⟨g1, 1, none⟩) fun r6 =>
    IDX (0 : Int) 4 <|
    oF .f32 (cell h4 ⟨g1, 0, none⟩) fun r7 =>
    IDX (1 : Int) 4 <|
    oF .f32 (cell h4 ⟨g1, 1, none⟩) fun r8 =>
    IDX (2 : Int) 4 <|
    oF .f32 (cell h4 ⟨g1, 2, none⟩) fun r9 =>
    IDX (3 : Int) 4 <|
    oF .f32 (cell h4 ⟨g1, 3, none⟩) fun r10 =>
    IDX (2 : Int) 4 <|
    oF .f32 (cell h4 ⟨g1, 2, none⟩) fun r11 =>
    IDX (3 : Int) 4 <|
    oF .f32 (cell h4 ⟨g1, 3, none⟩) fun r12 =>
    (FOP .f32 (FloatKind.f32.format.add r5 r6) fun r13 =>
    PIN h4 ⟨g1, 3, none⟩ 1 h4 <|
    PIN h4 ⟨g1, 2, none⟩ 1 h4 <|
    PIN h4 ⟨g1, 3, none⟩ 1 h4 <|
    PIN h4 ⟨g1, 2, none⟩ 1 h4 <|
    PIN h4 ⟨g1, 1, none⟩ 1 h4 <|
    PIN h4 ⟨g1, 0, none⟩ 1 h4 <|
    (FOP .f32 (FloatKind.f32.format.sub r7 r8) fun r14 =>
    PIN h4 ⟨g1, 3, none⟩ 1 h4 <|
    PIN h4 ⟨g1, 2, none⟩ 1 h4 <|
    PIN h4 ⟨g1, 3, none⟩ 1 h4 <|
    PIN h4 ⟨g1, 2, none⟩ 1 h4 <|
    PIN h4 ⟨g1, 1, none⟩ 1 h4 <|
    PIN h4 ⟨g1, 0, none⟩ 1 h4 <|
    (FOP .f32 (FloatKind.f32.format.add r9 r10) fun r15 =>
    PIN h4 ⟨g1, 3, none⟩ 1 h4 <|
    PIN h4 ⟨g1, 2, none⟩ 1 h4 <|
    PIN h4 ⟨g1, 1, none⟩ 1 h4 <|
    PIN h4 ⟨g1, 0, none⟩ 1 h4 <|
    PIN h4 ⟨g1, 1, none⟩ 1 h4 <|
    PIN h4 ⟨g1, 0, none⟩ 1 h4 <|
    FOP .f32 (FloatKind.f32.format.sub r11 r12) fun r16 =>
    PIN h4 ⟨g1, 3, none⟩ 1 h4 <|
    PIN h4 ⟨g1, 2, none⟩ 1 h4 <|
    PIN h4 ⟨g1, 1, none⟩ 1 h4 <|
    PIN h4 ⟨g1, 0, none⟩ 1 h4 <|
    PIN h4 ⟨g1, 1, none⟩ 1 h4 <|
    PIN h4 ⟨g1, 0, none⟩ 1 h4 <|
    FOP .f32 (FloatKind.f32.format.add r13 r15) fun r17 =>
    FOP .f32 (FloatKind.f32.format.mul 1056964608 r17) fun r18 =>
    FOP .f32 (FloatKind.f32.format.add r14 r16) fun r19 =>
    FOP .f32 (FloatKind.f32.format.mul 1056964608 r19) fun r20 =>
    FOP .f32 (FloatKind.f32.format.sub r13 r15) fun r21 =>
    FOP .f32 (FloatKind.f32.format.mul 1056964608 r21) fun r22 =>
    FOP .f32 (FloatKind.f32.format.sub r14 r16) fun r23 =>
    FOP .f32 (FloatKind.f32.format.mul 1056964608 r23) fun r24 =>
    STA 4 h4 ⟨g3, 0, none⟩ (⟨[.float .f32 r18, .float .f32 r20, .float .f32 r22, .float .f32 r24]⟩ : Array Value) fun h25 =>
    LDA 4 h25 ⟨g3, 0, none⟩ fun a26 =>
    Post (.agg a26) h25) ∧ (FOP .f32 (FloatKind.f32.format.sub r11 r12) fun r27 =>
    PIN h4 ⟨g1, 3, none⟩ 1 h4 <|
    PIN h4 ⟨g1, 2, none⟩ 1 h4 <|
    PIN h4 ⟨g1, 1, none⟩ 1 h4 <|
    PIN h4 ⟨g1, 0, none⟩ 1 h4 <|
    PIN h4 ⟨g1, 1, none⟩ 1 h4 <|
    PIN h4 ⟨g1, 0, none⟩ 1 h4 <|
    FOP .f32 (FloatKind.f32.format.add r9 r10) fun r28 =>
    PIN h4 ⟨g1, 3, none⟩ 1 h4 <|
    PIN h4 ⟨g1, 2, none⟩ 1 h4 <|
    PIN h4 ⟨g1, 1, none⟩ 1 h4 <|
    PIN h4 ⟨g1, 0, none⟩ 1 h4 <|
    PIN h4 ⟨g1, 1, none⟩ 1 h4 <|
    PIN h4 ⟨g1, 0, none⟩ 1 h4 <|
    FOP .f32 (FloatKind.f32.format.add r13 r28) fun r29 =>
    FOP .f32 (FloatKind.f32.format.mul 1056964608 r29) fun r30 =>
    FOP .f32 (FloatKind.f32.format.add r14 r27) fun r31 =>
    FOP .f32 (FloatKind.f32.format.mul 1056964608 r31) fun r32 =>
    FOP .f32 (FloatKind.f32.format.sub r13 r28) fun r33 =>
    FOP .f32 (FloatKind.f32.format.mul 1056964608 r33) fun r34 =>
    FOP .f32 (FloatKind.f32.format.sub r14 r27) fun r35 =>
    FOP .f32 (FloatKind.f32.format.mul 1056964608 r35) fun r36 =>
    STA 4 h4 ⟨g3, 0, none⟩ (⟨[.float .f32 r30, .float .f32 r32, .float .f32 r34, .float .f32 r36]⟩ : Array Value) fun h37 =>
    LDA 4 h37 ⟨g3, 0, none⟩ fun a38 =>
    Post (.agg a38) h37)) ∧ ((FOP .f32 (FloatKind.f32.format.add r9 r10) fun r39 =>
    PIN h4 ⟨g1, 3, none⟩ 1 h4 <|
    PIN h4 ⟨g1, 2, none⟩ 1 h4 <|
    PIN h4 ⟨g1, 1, none⟩ 1 h4 <|
    PIN h4 ⟨g1, 0, none⟩ 1 h4 <|
    PIN h4 ⟨g1, 1, none⟩ 1 h4 <|
    PIN h4 ⟨g1, 0, none⟩ 1 h4 <|
    (FOP .f32 (FloatKind.f32.format.sub r7 r8) fun r40 =>
    PIN h4 ⟨g1, 3, none⟩ 1 h4 <|
    PIN h4 ⟨g1, 2, none⟩ 1 h4 <|
    PIN h4 ⟨g1, 3, none⟩ 1 h4 <|
    PIN h4 ⟨g1, 2, none⟩ 1 h4 <|
    PIN h4 ⟨g1, 1, none⟩ 1 h4 <|
    PIN h4 ⟨g1, 0, none⟩ 1 h4 <|
    FOP .f32 (FloatKind.f32.format.sub r11 r12) fun r41 =>
    PIN h4 ⟨g1, 3, none⟩ 1 h4 <|
    PIN h4 ⟨g1, 2, none⟩ 1 h4 <|
    PIN h4 ⟨g1, 1, none⟩ 1 h4 <|
    PIN h4 ⟨g1, 0, none⟩ 1 h4 <|
    PIN h4 ⟨g1, 1, none⟩ 1 h4 <|
    PIN h4 ⟨g1, 0, none⟩ 1 h4 <|
    FOP .f32 (FloatKind.f32.format.add r13 r39) fun r42 =>
    FOP .f32 (FloatKind.f32.format.mul 1056964608 r42) fun r43 =>
    FOP .f32 (FloatKind.f32.format.add r40 r41) fun r44 =>
    FOP .f32 (FloatKind.f32.format.mul 1056964608 r44) fun r45 =>
    FOP .f32 (FloatKind.f32.format.sub r13 r39) fun r46 =>
    FOP .f32 (FloatKind.f32.format.mul 1056964608 r46) fun r47 =>
    FOP .f32 (FloatKind.f32.format.sub r40 r41) fun r48 =>
    FOP .f32 (FloatKind.f32.format.mul 1056964608 r48) fun r49 =>
    STA 4 h4 ⟨g3, 0, none⟩ (⟨[.float .f32 r43, .float .f32 r45, .float .f32 r47, .float .f32 r49]⟩ : Array Value) fun h50 =>
    LDA 4 h50 ⟨g3, 0, none⟩ fun a51 =>
    Post (.agg a51) h50) ∧ (FOP .f32 (FloatKind.f32.format.sub r11 r12) fun r52 =>
    PIN h4 ⟨g1, 3, none⟩ 1 h4 <|
    PIN h4 ⟨g1, 2, none⟩ 1 h4 <|
    PIN h4 ⟨g1, 1, none⟩ 1 h4 <|
    PIN h4 ⟨g1, 0, none⟩ 1 h4 <|
    PIN h4 ⟨g1, 1, none⟩ 1 h4 <|
    PIN h4 ⟨g1, 0, none⟩ 1 h4 <|
    FOP .f32 (FloatKind.f32.format.sub r7 r8) fun r53 =>
    PIN h4 ⟨g1, 3, none⟩ 1 h4 <|
    PIN h4 ⟨g1, 2, none⟩ 1 h4 <|
    PIN h4 ⟨g1, 3, none⟩ 1 h4 <|
    PIN h4 ⟨g1, 2, none⟩ 1 h4 <|
    PIN h4 ⟨g1, 1, none⟩ 1 h4 <|
    PIN h4 ⟨g1, 0, none⟩ 1 h4 <|
    FOP .f32 (FloatKind.f32.format.add r13 r39) fun r54 =>
    FOP .f32 (FloatKind.f32.format.mul 1056964608 r54) fun r55 =>
    FOP .f32 (FloatKind.f32.format.add r53 r52) fun r56 =>
    FOP .f32 (FloatKind.f32.format.mul 1056964608 r56) fun r57 =>
    FOP .f32 (FloatKind.f32.format.sub r13 r39) fun r58 =>
    FOP .f32 (FloatKind.f32.format.mul 1056964608 r58) fun r59 =>
    FOP .f32 (FloatKind.f32.format.sub r53 r52) fun r60 =>
    FOP .f32 (FloatKind.f32.format.mul 1056964608 r60) fun r61 =>
    STA 4 h4 ⟨g3, 0, none⟩ (⟨[.float .f32 r55, .float .f32 r57, .float .f32 r59, .float .f32 r61]⟩ : Array Value) fun h62 =>
    LDA 4 h62 ⟨g3, 0, none⟩ fun a63 =>
    Post (.agg a63) h62)) ∧ (FOP .f32 (FloatKind.f32.format.sub r11 r12) fun r64 =>
    PIN h4 ⟨g1, 3, none⟩ 1 h4 <|
    PIN h4 ⟨g1, 2, none⟩ 1 h4 <|
    PIN h4 ⟨g1, 1, none⟩ 1 h4 <|
    PIN h4 ⟨g1, 0, none⟩ 1 h4 <|
    PIN h4 ⟨g1, 1, none⟩ 1 h4 <|
    PIN h4 ⟨g1, 0, none⟩ 1 h4 <|
    (FOP .f32 (FloatKind.f32.format.sub r7 r8) fun r65 =>
    PIN h4 ⟨g1, 3, none⟩ 1 h4 <|
    PIN h4 ⟨g1, 2, none⟩ 1 h4 <|
    PIN h4 ⟨g1, 3, none⟩ 1 h4 <|
    PIN h4 ⟨g1, 2, none⟩ 1 h4 <|
    PIN h4 ⟨g1, 1, none⟩ 1 h4 <|
    PIN h4 ⟨g1, 0, none⟩ 1 h4 <|
    FOP .f32 (FloatKind.f32.format.add r9 r10) fun r66 =>
    PIN h4 ⟨g1, 3, none⟩ 1 h4 <|
    PIN h4 ⟨g1, 2, none⟩ 1 h4 <|
    PIN h4 ⟨g1, 1, none⟩ 1 h4 <|
    PIN h4 ⟨g1, 0, none⟩ 1 h4 <|
    PIN h4 ⟨g1, 1, none⟩ 1 h4 <|
    PIN h4 ⟨g1, 0, none⟩ 1 h4 <|
    FOP .f32 (FloatKind.f32.format.add r13 r66) fun r67 =>
    FOP .f32 (FloatKind.f32.format.mul 1056964608 r67) fun r68 =>
    FOP .f32 (FloatKind.f32.format.add r65 r64) fun r69 =>
    FOP .f32 (FloatKind.f32.format.mul 1056964608 r69) fun r70 =>
    FOP .f32 (FloatKind.f32.format.sub r13 r66) fun r71 =>
    FOP .f32 (FloatKind.f32.format.mul 1056964608 r71) fun r72 =>
    FOP .f32 (FloatKind.f32.format.sub r65 r64) fun r73 =>
    FOP .f32 (FloatKind.f32.format.mul 1056964608 r73) fun r74 =>
    STA 4 h4 ⟨g3, 0, none⟩ (⟨[.float .f32 r68, .float .f32 r70, .float .f32 r72, .float .f32 r74]⟩ : Array Value) fun h75 =>
    LDA 4 h75 ⟨g3, 0, none⟩ fun a76 =>
    Post (.agg a76) h75) ∧ (FOP .f32 (FloatKind.f32.format.add r9 r10) fun r77 =>
    PIN h4 ⟨g1, 3, none⟩ 1 h4 <|
    PIN h4 ⟨g1, 2, none⟩ 1 h4 <|
    PIN h4 ⟨g1, 1, none⟩ 1 h4 <|
    PIN h4 ⟨g1, 0, none⟩ 1 h4 <|
    PIN h4 ⟨g1, 1, none⟩ 1 h4 <|
    PIN h4 ⟨g1, 0, none⟩ 1 h4 <|
    FOP .f32 (FloatKind.f32.format.sub r7 r8) fun r78 =>
    PIN h4 ⟨g1, 3, none⟩ 1 h4 <|
    PIN h4 ⟨g1, 2, none⟩ 1 h4 <|
    PIN h4 ⟨g1, 3, none⟩ 1 h4 <|
    PIN h4 ⟨g1, 2, none⟩ 1 h4 <|
    PIN h4 ⟨g1, 1, none⟩ 1 h4 <|
    PIN h4 ⟨g1, 0, none⟩ 1 h4 <|
    FOP .f32 (FloatKind.f32.format.add r13 r77) fun r79 =>
    FOP .f32 (FloatKind.f32.format.mul 1056964608 r79) fun r80 =>
    FOP .f32 (FloatKind.f32.format.add r78 r64) fun r81 =>
    FOP .f32 (FloatKind.f32.format.mul 1056964608 r81) fun r82 =>
    FOP .f32 (FloatKind.f32.format.sub r13 r77) fun r83 =>
    FOP .f32 (FloatKind.f32.format.mul 1056964608 r83) fun r84 =>
    FOP .f32 (FloatKind.f32.format.sub r78 r64) fun r85 =>
    FOP .f32 (FloatKind.f32.format.mul 1056964608 r85) fun r86 =>
    STA 4 h4 ⟨g3, 0, none⟩ (⟨[.float .f32 r80, .float .f32 r82, .float .f32 r84, .float .f32 r86]⟩ : Array Value) fun h87 =>
    LDA 4 h87 ⟨g3, 0, none⟩ fun a88 =>
    Post (.agg a88) h87)))) ∧ ((FOP .f32 (FloatKind.f32.format.sub r7 r8) fun r89 =>
    PIN h4 ⟨g1, 3, none⟩ 1 h4 <|
    PIN h4 ⟨g1, 2, none⟩ 1 h4 <|
    PIN h4 ⟨g1, 3, none⟩ 1 h4 <|
    PIN h4 ⟨g1, 2, none⟩ 1 h4 <|
    PIN h4 ⟨g1, 1, none⟩ 1 h4 <|
    PIN h4 ⟨g1, 0, none⟩ 1 h4 <|
    (FOP .f32 (FloatKind.f32.format.add r5 r6) fun r90 =>
    PIN h4 ⟨g1, 3, none⟩ 1 h4 <|
    PIN h4 ⟨g1, 2, none⟩ 1 h4 <|
    PIN h4 ⟨g1, 3, none⟩ 1 h4 <|
    PIN h4 ⟨g1, 2, none⟩ 1 h4 <|
    PIN h4 ⟨g1, 1, none⟩ 1 h4 <|
    PIN h4 ⟨g1, 0, none⟩ 1 h4 <|
    (FOP .f32 (FloatKind.f32.format.add r9 r10) fun r91 =>
    PIN h4 ⟨g1, 3, none⟩ 1 h4 <|
    PIN h4 ⟨g1, 2, none⟩ 1 h4 <|
    PIN h4 ⟨g1, 1, none⟩ 1 h4 <|
    PIN h4 ⟨g1, 0, none⟩ 1 h4 <|
    PIN h4 ⟨g1, 1, none⟩ 1 h4 <|
    PIN h4 ⟨g1, 0, none⟩ 1 h4 <|
    FOP .f32 (FloatKind.f32.format.sub r11 r12) fun r92 =>
    PIN h4 ⟨g1, 3, none⟩ 1 h4 <|
    PIN h4 ⟨g1, 2, none⟩ 1 h4 <|
    PIN h4 ⟨g1, 1, none⟩ 1 h4 <|
    PIN h4 ⟨g1, 0, none⟩ 1 h4 <|
    PIN h4 ⟨g1, 1, none⟩ 1 h4 <|
    PIN h4 ⟨g1, 0, none⟩ 1 h4 <|
    FOP .f32 (FloatKind.f32.format.add r90 r91) fun r93 =>
    FOP .f32 (FloatKind.f32.format.mul 1056964608 r93) fun r94 =>
    FOP .f32 (FloatKind.f32.format.add r89 r92) fun r95 =>
    FOP .f32 (FloatKind.f32.format.mul 1056964608 r95) fun r96 =>
    FOP .f32 (FloatKind.f32.format.sub r90 r91) fun r97 =>
    FOP .f32 (FloatKind.f32.format.mul 1056964608 r97) fun r98 =>
    FOP .f32 (FloatKind.f32.format.sub r89 r92) fun r99 =>
    FOP .f32 (FloatKind.f32.format.mul 1056964608 r99) fun r100 =>
    STA 4 h4 ⟨g3, 0, none⟩ (⟨[.float .f32 r94, .float .f32 r96, .float .f32 r98, .float .f32 r100]⟩ : Array Value) fun h101 =>
    LDA 4 h101 ⟨g3, 0, none⟩ fun a102 =>
    Post (.agg a102) h101) ∧ (FOP .f32 (FloatKind.f32.format.sub r11 r12) fun r103 =>
    PIN h4 ⟨g1, 3, none⟩ 1 h4 <|
    PIN h4 ⟨g1, 2, none⟩ 1 h4 <|
    PIN h4 ⟨g1, 1, none⟩ 1 h4 <|
    PIN h4 ⟨g1, 0, none⟩ 1 h4 <|
    PIN h4 ⟨g1, 1, none⟩ 1 h4 <|
    PIN h4 ⟨g1, 0, none⟩ 1 h4 <|
    FOP .f32 (FloatKind.f32.format.add r9 r10) fun r104 =>
    PIN h4 ⟨g1, 3, none⟩ 1 h4 <|
    PIN h4 ⟨g1, 2, none⟩ 1 h4 <|
    PIN h4 ⟨g1, 1, none⟩ 1 h4 <|
    PIN h4 ⟨g1, 0, none⟩ 1 h4 <|
    PIN h4 ⟨g1, 1, none⟩ 1 h4 <|
    PIN h4 ⟨g1, 0, none⟩ 1 h4 <|
    FOP .f32 (FloatKind.f32.format.add r90 r104) fun r105 =>
    FOP .f32 (FloatKind.f32.format.mul 1056964608 r105) fun r106 =>
    FOP .f32 (FloatKind.f32.format.add r89 r103) fun r107 =>
    FOP .f32 (FloatKind.f32.format.mul 1056964608 r107) fun r108 =>
    FOP .f32 (FloatKind.f32.format.sub r90 r104) fun r109 =>
    FOP .f32 (FloatKind.f32.format.mul 1056964608 r109) fun r110 =>
    FOP .f32 (FloatKind.f32.format.sub r89 r103) fun r111 =>
    FOP .f32 (FloatKind.f32.format.mul 1056964608 r111) fun r112 =>
    STA 4 h4 ⟨g3, 0, none⟩ (⟨[.float .f32 r106, .float .f32 r108, .float .f32 r110, .float .f32 r112]⟩ : Array Value) fun h113 =>
    LDA 4 h113 ⟨g3, 0, none⟩ fun a114 =>
    Post (.agg a114) h113)) ∧ ((FOP .f32 (FloatKind.f32.format.add r9 r10) fun r115 =>
    PIN h4 ⟨g1, 3, none⟩ 1 h4 <|
    PIN h4 ⟨g1, 2, none⟩ 1 h4 <|
    PIN h4 ⟨g1, 1, none⟩ 1 h4 <|
    PIN h4 ⟨g1, 0, none⟩ 1 h4 <|
    PIN h4 ⟨g1, 1, none⟩ 1 h4 <|
    PIN h4 ⟨g1, 0, none⟩ 1 h4 <|
    (FOP .f32 (FloatKind.f32.format.add r5 r6) fun r116 =>
    PIN h4 ⟨g1, 3, none⟩ 1 h4 <|
    PIN h4 ⟨g1, 2, none⟩ 1 h4 <|
    PIN h4 ⟨g1, 3, none⟩ 1 h4 <|
    PIN h4 ⟨g1, 2, none⟩ 1 h4 <|
    PIN h4 ⟨g1, 1, none⟩ 1 h4 <|
    PIN h4 ⟨g1, 0, none⟩ 1 h4 <|
    FOP .f32 (FloatKind.f32.format.sub r11 r12) fun r117 =>
    PIN h4 ⟨g1, 3, none⟩ 1 h4 <|
    PIN h4 ⟨g1, 2, none⟩ 1 h4 <|
    PIN h4 ⟨g1, 1, none⟩ 1 h4 <|
    PIN h4 ⟨g1, 0, none⟩ 1 h4 <|
    PIN h4 ⟨g1, 1, none⟩ 1 h4 <|
    PIN h4 ⟨g1, 0, none⟩ 1 h4 <|
    FOP .f32 (FloatKind.f32.format.add r116 r115) fun r118 =>
    FOP .f32 (FloatKind.f32.format.mul 1056964608 r118) fun r119 =>
    FOP .f32 (FloatKind.f32.format.add r89 r117) fun r120 =>
    FOP .f32 (FloatKind.f32.format.mul 1056964608 r120) fun r121 =>
    FOP .f32 (FloatKind.f32.format.sub r116 r115) fun r122 =>
    FOP .f32 (FloatKind.f32.format.mul 1056964608 r122) fun r123 =>
    FOP .f32 (FloatKind.f32.format.sub r89 r117) fun r124 =>
    FOP .f32 (FloatKind.f32.format.mul 1056964608 r124) fun r125 =>
    STA 4 h4 ⟨g3, 0, none⟩ (⟨[.float .f32 r119, .float .f32 r121, .float .f32 r123, .float .f32 r125]⟩ : Array Value) fun h126 =>
    LDA 4 h126 ⟨g3, 0, none⟩ fun a127 =>
    Post (.agg a127) h126) ∧ (FOP .f32 (FloatKind.f32.format.sub r11 r12) fun r128 =>
    PIN h4 ⟨g1, 3, none⟩ 1 h4 <|
    PIN h4 ⟨g1, 2, none⟩ 1 h4 <|
    PIN h4 ⟨g1, 1, none⟩ 1 h4 <|
    PIN h4 ⟨g1, 0, none⟩ 1 h4 <|
    PIN h4 ⟨g1, 1, none⟩ 1 h4 <|
    PIN h4 ⟨g1, 0, none⟩ 1 h4 <|
    FOP .f32 (FloatKind.f32.format.add r5 r6) fun r129 =>
    PIN h4 ⟨g1, 3, none⟩ 1 h4 <|
    PIN h4 ⟨g1, 2, none⟩ 1 h4 <|
    PIN h4 ⟨g1, 3, none⟩ 1 h4 <|
    PIN h4 ⟨g1, 2, none⟩ 1 h4 <|
    PIN h4 ⟨g1, 1, none⟩ 1 h4 <|
    PIN h4 ⟨g1, 0, none⟩ 1 h4 <|
    FOP .f32 (FloatKind.f32.format.add r129 r115) fun r130 =>
    FOP .f32 (FloatKind.f32.format.mul 1056964608 r130) fun r131 =>
    FOP .f32 (FloatKind.f32.format.add r89 r128) fun r132 =>
    FOP .f32 (FloatKind.f32.format.mul 1056964608 r132) fun r133 =>
    FOP .f32 (FloatKind.f32.format.sub r129 r115) fun r134 =>
    FOP .f32 (FloatKind.f32.format.mul 1056964608 r134) fun r135 =>
    FOP .f32 (FloatKind.f32.format.sub r89 r128) fun r136 =>
    FOP .f32 (FloatKind.f32.format.mul 1056964608 r136) fun r137 =>
    STA 4 h4 ⟨g3, 0, none⟩ (⟨[.float .f32 r131, .float .f32 r133, .float .f32 r135, .float .f32 r137]⟩ : Array Value) fun h138 =>
    LDA 4 h138 ⟨g3, 0, none⟩ fun a139 =>
    Post (.agg a139) h138)) ∧ (FOP .f32 (FloatKind.f32.format.sub r11 r12) fun r140 =>
    PIN h4 ⟨g1, 3, none⟩ 1 h4 <|
    PIN h4 ⟨g1, 2, none⟩ 1 h4 <|
    PIN h4 ⟨g1, 1, none⟩ 1 h4 <|
    PIN h4 ⟨g1, 0, none⟩ 1 h4 <|
    PIN h4 ⟨g1, 1, none⟩ 1 h4 <|
    PIN h4 ⟨g1, 0, none⟩ 1 h4 <|
    (FOP .f32 (FloatKind.f32.format.add r5 r6) fun r141 =>
    PIN h4 ⟨g1, 3, none⟩ 1 h4 <|
    PIN h4 ⟨g1, 2, none⟩ 1 h4 <|
    PIN h4 ⟨g1, 3, none⟩ 1 h4 <|
    PIN h4 ⟨g1, 2, none⟩ 1 h4 <|
    PIN h4 ⟨g1, 1, none⟩ 1 h4 <|
    PIN h4 ⟨g1, 0, none⟩ 1 h4 <|
    FOP .f32 (FloatKind.f32.format.add r9 r10) fun r142 =>
    PIN h4 ⟨g1, 3, none⟩ 1 h4 <|
    PIN h4 ⟨g1, 2, none⟩ 1 h4 <|
    PIN h4 ⟨g1, 1, none⟩ 1 h4 <|
    PIN h4 ⟨g1, 0, none⟩ 1 h4 <|
    PIN h4 ⟨g1, 1, none⟩ 1 h4 <|
    PIN h4 ⟨g1, 0, none⟩ 1 h4 <|
    FOP .f32 (FloatKind.f32.format.add r141 r142) fun r143 =>
    FOP .f32 (FloatKind.f32.format.mul 1056964608 r143) fun r144 =>
    FOP .f32 (FloatKind.f32.format.add r89 r140) fun r145 =>
    FOP .f32 (FloatKind.f32.format.mul 1056964608 r145) fun r146 =>
    FOP .f32 (FloatKind.f32.format.sub r141 r142) fun r147 =>
    FOP .f32 (FloatKind.f32.format.mul 1056964608 r147) fun r148 =>
    FOP .f32 (FloatKind.f32.format.sub r89 r140) fun r149 =>
    FOP .f32 (FloatKind.f32.format.mul 1056964608 r149) fun r150 =>
    STA 4 h4 ⟨g3, 0, none⟩ (⟨[.float .f32 r144, .float .f32 r146, .float .f32 r148, .float .f32 r150]⟩ : Array Value) fun h151 =>
    LDA 4 h151 ⟨g3, 0, none⟩ fun a152 =>
    Post (.agg a152) h151) ∧ (FOP .f32 (FloatKind.f32.format.add r9 r10) fun r153 =>
    PIN h4 ⟨g1, 3, none⟩ 1 h4 <|
    PIN h4 ⟨g1, 2, none⟩ 1 h4 <|
    PIN h4 ⟨g1, 1, none⟩ 1 h4 <|
    PIN h4 ⟨g1, 0, none⟩ 1 h4 <|
    PIN h4 ⟨g1, 1, none⟩ 1 h4 <|
    PIN h4 ⟨g1, 0, none⟩ 1 h4 <|
    FOP .f32 (FloatKind.f32.format.add r5 r6) fun r154 =>
    PIN h4 ⟨g1, 3, none⟩ 1 h4 <|
    PIN h4 ⟨g1, 2, none⟩ 1 h4 <|
    PIN h4 ⟨g1, 3, none⟩ 1 h4 <|
    PIN h4 ⟨g1, 2, none⟩ 1 h4 <|
    PIN h4 ⟨g1, 1, none⟩ 1 h4 <|
    PIN h4 ⟨g1, 0, none⟩ 1 h4 <|
    FOP .f32 (FloatKind.f32.format.add r154 r153) fun r155 =>
    FOP .f32 (FloatKind.f32.format.mul 1056964608 r155) fun r156 =>
    FOP .f32 (FloatKind.f32.format.add r89 r140) fun r157 =>
    FOP .f32 (FloatKind.f32.format.mul 1056964608 r157) fun r158 =>
    FOP .f32 (FloatKind.f32.format.sub r154 r153) fun r159 =>
    FOP .f32 (FloatKind.f32.format.mul 1056964608 r159) fun r160 =>
    FOP .f32 (FloatKind.f32.format.sub r89 r140) fun r161 =>
    FOP .f32 (FloatKind.f32.format.mul 1056964608 r161) fun r162 =>
    STA 4 h4 ⟨g3, 0, none⟩ (⟨[.float .f32 r156, .float .f32 r158, .float .f32 r160, .float .f32 r162]⟩ : Array Value) fun h163 =>
    LDA 4 h163 ⟨g3, 0, none⟩ fun a164 =>
    Post (.agg a164) h163)))) ∧ ((FOP .f32 (FloatKind.f32.format.add r9 r10) fun r165 =>
    PIN h4 ⟨g1, 3, none⟩ 1 h4 <|
    PIN h4 ⟨g1, 2, none⟩ 1 h4 <|
    PIN h4 ⟨g1, 1, none⟩ 1 h4 <|
    PIN h4 ⟨g1, 0, none⟩ 1 h4 <|
    PIN h4 ⟨g1, 1, none⟩ 1 h4 <|
    PIN h4 ⟨g1, 0, none⟩ 1 h4 <|
    (FOP .f32 (FloatKind.f32.format.add r5 r6) fun r166 =>
    PIN h4 ⟨g1, 3, none⟩ 1 h4 <|
    PIN h4 ⟨g1, 2, none⟩ 1 h4 <|
    PIN h4 ⟨g1, 3, none⟩ 1 h4 <|
    PIN h4 ⟨g1, 2, none⟩ 1 h4 <|
    PIN h4 ⟨g1, 1, none⟩ 1 h4 <|
    PIN h4 ⟨g1, 0, none⟩ 1 h4 <|
    (FOP .f32 (FloatKind.f32.format.sub r7 r8) fun r167 =>
    PIN h4 ⟨g1, 3, none⟩ 1 h4 <|
    PIN h4 ⟨g1, 2, none⟩ 1 h4 <|
    PIN h4 ⟨g1, 3, none⟩ 1 h4 <|
    PIN h4 ⟨g1, 2, none⟩ 1 h4 <|
    PIN h4 ⟨g1, 1, none⟩ 1 h4 <|
    PIN h4 ⟨g1, 0, none⟩ 1 h4 <|
    FOP .f32 (FloatKind.f32.format.sub r11 r12) fun r168 =>
    PIN h4 ⟨g1, 3, none⟩ 1 h4 <|
    PIN h4 ⟨g1, 2, none⟩ 1 h4 <|
    PIN h4 ⟨g1, 1, none⟩ 1 h4 <|
    PIN h4 ⟨g1, 0, none⟩ 1 h4 <|
    PIN h4 ⟨g1, 1, none⟩ 1 h4 <|
    PIN h4 ⟨g1, 0, none⟩ 1 h4 <|
    FOP .f32 (FloatKind.f32.format.add r166 r165) fun r169 =>
    FOP .f32 (FloatKind.f32.format.mul 1056964608 r169) fun r170 =>
    FOP .f32 (FloatKind.f32.format.add r167 r168) fun r171 =>
    FOP .f32 (FloatKind.f32.format.mul 1056964608 r171) fun r172 =>
    FOP .f32 (FloatKind.f32.format.sub r166 r165) fun r173 =>
    FOP .f32 (FloatKind.f32.format.mul 1056964608 r173) fun r174 =>
    FOP .f32 (FloatKind.f32.format.sub r167 r168) fun r175 =>
    FOP .f32 (FloatKind.f32.format.mul 1056964608 r175) fun r176 =>
    STA 4 h4 ⟨g3, 0, none⟩ (⟨[.float .f32 r170, .float .f32 r172, .float .f32 r174, .float .f32 r176]⟩ : Array Value) fun h177 =>
    LDA 4 h177 ⟨g3, 0, none⟩ fun a178 =>
    Post (.agg a178) h177) ∧ (FOP .f32 (FloatKind.f32.format.sub r11 r12) fun r179 =>
    PIN h4 ⟨g1, 3, none⟩ 1 h4 <|
    PIN h4 ⟨g1, 2, none⟩ 1 h4 <|
    PIN h4 ⟨g1, 1, none⟩ 1 h4 <|
    PIN h4 ⟨g1, 0, none⟩ 1 h4 <|
    PIN h4 ⟨g1, 1, none⟩ 1 h4 <|
    PIN h4 ⟨g1, 0, none⟩ 1 h4 <|
    FOP .f32 (FloatKind.f32.format.sub r7 r8) fun r180 =>
    PIN h4 ⟨g1, 3, none⟩ 1 h4 <|
    PIN h4 ⟨g1, 2, none⟩ 1 h4 <|
    PIN h4 ⟨g1, 3, none⟩ 1 h4 <|
    PIN h4 ⟨g1, 2, none⟩ 1 h4 <|
    PIN h4 ⟨g1, 1, none⟩ 1 h4 <|
    PIN h4 ⟨g1, 0, none⟩ 1 h4 <|
    FOP .f32 (FloatKind.f32.format.add r166 r165) fun r181 =>
    FOP .f32 (FloatKind.f32.format.mul 1056964608 r181) fun r182 =>
    FOP .f32 (FloatKind.f32.format.add r180 r179) fun r183 =>
    FOP .f32 (FloatKind.f32.format.mul 1056964608 r183) fun r184 =>
    FOP .f32 (FloatKind.f32.format.sub r166 r165) fun r185 =>
    FOP .f32 (FloatKind.f32.format.mul 1056964608 r185) fun r186 =>
    FOP .f32 (FloatKind.f32.format.sub r180 r179) fun r187 =>
    FOP .f32 (FloatKind.f32.format.mul 1056964608 r187) fun r188 =>
    STA 4 h4 ⟨g3, 0, none⟩ (⟨[.float .f32 r182, .float .f32 r184, .float .f32 r186, .float .f32 r188]⟩ : Array Value) fun h189 =>
    LDA 4 h189 ⟨g3, 0, none⟩ fun a190 =>
    Post (.agg a190) h189)) ∧ ((FOP .f32 (FloatKind.f32.format.sub r7 r8) fun r191 =>
    PIN h4 ⟨g1, 3, none⟩ 1 h4 <|
    PIN h4 ⟨g1, 2, none⟩ 1 h4 <|
    PIN h4 ⟨g1, 3, none⟩ 1 h4 <|
    PIN h4 ⟨g1, 2, none⟩ 1 h4 <|
    PIN h4 ⟨g1, 1, none⟩ 1 h4 <|
    PIN h4 ⟨g1, 0, none⟩ 1 h4 <|
    (FOP .f32 (FloatKind.f32.format.add r5 r6) fun r192 =>
    PIN h4 ⟨g1, 3, none⟩ 1 h4 <|
    PIN h4 ⟨g1, 2, none⟩ 1 h4 <|
    PIN h4 ⟨g1, 3, none⟩ 1 h4 <|
    PIN h4 ⟨g1, 2, none⟩ 1 h4 <|
    PIN h4 ⟨g1, 1, none⟩ 1 h4 <|
    PIN h4 ⟨g1, 0, none⟩ 1 h4 <|
    FOP .f32 (FloatKind.f32.format.sub r11 r12) fun r193 =>
    PIN h4 ⟨g1, 3, none⟩ 1 h4 <|
    PIN h4 ⟨g1, 2, none⟩ 1 h4 <|
    PIN h4 ⟨g1, 1, none⟩ 1 h4 <|
    PIN h4 ⟨g1, 0, none⟩ 1 h4 <|
    PIN h4 ⟨g1, 1, none⟩ 1 h4 <|
    PIN h4 ⟨g1, 0, none⟩ 1 h4 <|
    FOP .f32 (FloatKind.f32.format.add r192 r165) fun r194 =>
    FOP .f32 (FloatKind.f32.format.mul 1056964608 r194) fun r195 =>
    FOP .f32 (FloatKind.f32.format.add r191 r193) fun r196 =>
    FOP .f32 (FloatKind.f32.format.mul 1056964608 r196) fun r197 =>
    FOP .f32 (FloatKind.f32.format.sub r192 r165) fun r198 =>
    FOP .f32 (FloatKind.f32.format.mul 1056964608 r198) fun r199 =>
    FOP .f32 (FloatKind.f32.format.sub r191 r193) fun r200 =>
    FOP .f32 (FloatKind.f32.format.mul 1056964608 r200) fun r201 =>
    STA 4 h4 ⟨g3, 0, none⟩ (⟨[.float .f32 r195, .float .f32 r197, .float .f32 r199, .float .f32 r201]⟩ : Array Value) fun h202 =>
    LDA 4 h202 ⟨g3, 0, none⟩ fun a203 =>
    Post (.agg a203) h202) ∧ (FOP .f32 (FloatKind.f32.format.sub r11 r12) fun r204 =>
    PIN h4 ⟨g1, 3, none⟩ 1 h4 <|
    PIN h4 ⟨g1, 2, none⟩ 1 h4 <|
    PIN h4 ⟨g1, 1, none⟩ 1 h4 <|
    PIN h4 ⟨g1, 0, none⟩ 1 h4 <|
    PIN h4 ⟨g1, 1, none⟩ 1 h4 <|
    PIN h4 ⟨g1, 0, none⟩ 1 h4 <|
    FOP .f32 (FloatKind.f32.format.add r5 r6) fun r205 =>
    PIN h4 ⟨g1, 3, none⟩ 1 h4 <|
    PIN h4 ⟨g1, 2, none⟩ 1 h4 <|
    PIN h4 ⟨g1, 3, none⟩ 1 h4 <|
    PIN h4 ⟨g1, 2, none⟩ 1 h4 <|
    PIN h4 ⟨g1, 1, none⟩ 1 h4 <|
    PIN h4 ⟨g1, 0, none⟩ 1 h4 <|
    FOP .f32 (FloatKind.f32.format.add r205 r165) fun r206 =>
    FOP .f32 (FloatKind.f32.format.mul 1056964608 r206) fun r207 =>
    FOP .f32 (FloatKind.f32.format.add r191 r204) fun r208 =>
    FOP .f32 (FloatKind.f32.format.mul 1056964608 r208) fun r209 =>
    FOP .f32 (FloatKind.f32.format.sub r205 r165) fun r210 =>
    FOP .f32 (FloatKind.f32.format.mul 1056964608 r210) fun r211 =>
    FOP .f32 (FloatKind.f32.format.sub r191 r204) fun r212 =>
    FOP .f32 (FloatKind.f32.format.mul 1056964608 r212) fun r213 =>
    STA 4 h4 ⟨g3, 0, none⟩ (⟨[.float .f32 r207, .float .f32 r209, .float .f32 r211, .float .f32 r213]⟩ : Array Value) fun h214 =>
    LDA 4 h214 ⟨g3, 0, none⟩ fun a215 =>
    Post (.agg a215) h214)) ∧ (FOP .f32 (FloatKind.f32.format.sub r11 r12) fun r216 =>
    PIN h4 ⟨g1, 3, none⟩ 1 h4 <|
    PIN h4 ⟨g1, 2, none⟩ 1 h4 <|
    PIN h4 ⟨g1, 1, none⟩ 1 h4 <|
    PIN h4 ⟨g1, 0, none⟩ 1 h4 <|
    PIN h4 ⟨g1, 1, none⟩ 1 h4 <|
    PIN h4 ⟨g1, 0, none⟩ 1 h4 <|
    (FOP .f32 (FloatKind.f32.format.add r5 r6) fun r217 =>
    PIN h4 ⟨g1, 3, none⟩ 1 h4 <|
    PIN h4 ⟨g1, 2, none⟩ 1 h4 <|
    PIN h4 ⟨g1, 3, none⟩ 1 h4 <|
    PIN h4 ⟨g1, 2, none⟩ 1 h4 <|
    PIN h4 ⟨g1, 1, none⟩ 1 h4 <|
    PIN h4 ⟨g1, 0, none⟩ 1 h4 <|
    FOP .f32 (FloatKind.f32.format.sub r7 r8) fun r218 =>
    PIN h4 ⟨g1, 3, none⟩ 1 h4 <|
    PIN h4 ⟨g1, 2, none⟩ 1 h4 <|
    PIN h4 ⟨g1, 3, none⟩ 1 h4 <|
    PIN h4 ⟨g1, 2, none⟩ 1 h4 <|
    PIN h4 ⟨g1, 1, none⟩ 1 h4 <|
    PIN h4 ⟨g1, 0, none⟩ 1 h4 <|
    FOP .f32 (FloatKind.f32.format.add r217 r165) fun r219 =>
    FOP .f32 (FloatKind.f32.format.mul 1056964608 r219) fun r220 =>
    FOP .f32 (FloatKind.f32.format.add r218 r216) fun r221 =>
    FOP .f32 (FloatKind.f32.format.mul 1056964608 r221) fun r222 =>
    FOP .f32 (FloatKind.f32.format.sub r217 r165) fun r223 =>
    FOP .f32 (FloatKind.f32.format.mul 1056964608 r223) fun r224 =>
    FOP .f32 (FloatKind.f32.format.sub r218 r216) fun r225 =>
    FOP .f32 (FloatKind.f32.format.mul 1056964608 r225) fun r226 =>
    STA 4 h4 ⟨g3, 0, none⟩ (⟨[.float .f32 r220, .float .f32 r222, .float .f32 r224, .float .f32 r226]⟩ : Array Value) fun h227 =>
    LDA 4 h227 ⟨g3, 0, none⟩ fun a228 =>
    Post (.agg a228) h227) ∧ (FOP .f32 (FloatKind.f32.format.sub r7 r8) fun r229 =>
    PIN h4 ⟨g1, 3, none⟩ 1 h4 <|
    PIN h4 ⟨g1, 2, none⟩ 1 h4 <|
    PIN h4 ⟨g1, 3, none⟩ 1 h4 <|
    PIN h4 ⟨g1, 2, none⟩ 1 h4 <|
    PIN h4 ⟨g1, 1, none⟩ 1 h4 <|
    PIN h4 ⟨g1, 0, none⟩ 1 h4 <|
    FOP .f32 (FloatKind.f32.format.add r5 r6) fun r230 =>
    PIN h4 ⟨g1, 3, none⟩ 1 h4 <|
    PIN h4 ⟨g1, 2, none⟩ 1 h4 <|
    PIN h4 ⟨g1, 3, none⟩ 1 h4 <|
    PIN h4 ⟨g1, 2, none⟩ 1 h4 <|
    PIN h4 ⟨g1, 1, none⟩ 1 h4 <|
    PIN h4 ⟨g1, 0, none⟩ 1 h4 <|
    FOP .f32 (FloatKind.f32.format.add r230 r165) fun r231 =>
    FOP .f32 (FloatKind.f32.format.mul 1056964608 r231) fun r232 =>
    FOP .f32 (FloatKind.f32.format.add r229 r216) fun r233 =>
    FOP .f32 (FloatKind.f32.format.mul 1056964608 r233) fun r234 =>
    FOP .f32 (FloatKind.f32.format.sub r230 r165) fun r235 =>
    FOP .f32 (FloatKind.f32.format.mul 1056964608 r235) fun r236 =>
    FOP .f32 (FloatKind.f32.format.sub r229 r216) fun r237 =>
    FOP .f32 (FloatKind.f32.format.mul 1056964608 r237) fun r238 =>
    STA 4 h4 ⟨g3, 0, none⟩ (⟨[.float .f32 r232, .float .f32 r234, .float .f32 r236, .float .f32 r238]⟩ : Array Value) fun h239 =>
    LDA 4 h239 ⟨g3, 0, none⟩ fun a240 =>
    Post (.agg a240) h239)))) ∧ (FOP .f32 (FloatKind.f32.format.sub r11 r12) fun r241 =>
    PIN h4 ⟨g1, 3, none⟩ 1 h4 <|
    PIN h4 ⟨g1, 2, none⟩ 1 h4 <|
    PIN h4 ⟨g1, 1, none⟩ 1 h4 <|
    PIN h4 ⟨g1, 0, none⟩ 1 h4 <|
    PIN h4 ⟨g1, 1, none⟩ 1 h4 <|
    PIN h4 ⟨g1, 0, none⟩ 1 h4 <|
    (FOP .f32 (FloatKind.f32.format.add r5 r6) fun r242 =>
    PIN h4 ⟨g1, 3, none⟩ 1 h4 <|
    PIN h4 ⟨g1, 2, none⟩ 1 h4 <|
    PIN h4 ⟨g1, 3, none⟩ 1 h4 <|
    PIN h4 ⟨g1, 2, none⟩ 1 h4 <|
    PIN h4 ⟨g1, 1, none⟩ 1 h4 <|
    PIN h4 ⟨g1, 0, none⟩ 1 h4 <|
    (FOP .f32 (FloatKind.f32.format.sub r7 r8) fun r243 =>
    PIN h4 ⟨g1, 3, none⟩ 1 h4 <|
    PIN h4 ⟨g1, 2, none⟩ 1 h4 <|
    PIN h4 ⟨g1, 3, none⟩ 1 h4 <|
    PIN h4 ⟨g1, 2, none⟩ 1 h4 <|
    PIN h4 ⟨g1, 1, none⟩ 1 h4 <|
    PIN h4 ⟨g1, 0, none⟩ 1 h4 <|
    FOP .f32 (FloatKind.f32.format.add r9 r10) fun r244 =>
    PIN h4 ⟨g1, 3, none⟩ 1 h4 <|
    PIN h4 ⟨g1, 2, none⟩ 1 h4 <|
    PIN h4 ⟨g1, 1, none⟩ 1 h4 <|
    PIN h4 ⟨g1, 0, none⟩ 1 h4 <|
    PIN h4 ⟨g1, 1, none⟩ 1 h4 <|
    PIN h4 ⟨g1, 0, none⟩ 1 h4 <|
    FOP .f32 (FloatKind.f32.format.add r242 r244) fun r245 =>
    FOP .f32 (FloatKind.f32.format.mul 1056964608 r245) fun r246 =>
    FOP .f32 (FloatKind.f32.format.add r243 r241) fun r247 =>
    FOP .f32 (FloatKind.f32.format.mul 1056964608 r247) fun r248 =>
    FOP .f32 (FloatKind.f32.format.sub r242 r244) fun r249 =>
    FOP .f32 (FloatKind.f32.format.mul 1056964608 r249) fun r250 =>
    FOP .f32 (FloatKind.f32.format.sub r243 r241) fun r251 =>
    FOP .f32 (FloatKind.f32.format.mul 1056964608 r251) fun r252 =>
    STA 4 h4 ⟨g3, 0, none⟩ (⟨[.float .f32 r246, .float .f32 r248, .float .f32 r250, .float .f32 r252]⟩ : Array Value) fun h253 =>
    LDA 4 h253 ⟨g3, 0, none⟩ fun a254 =>
    Post (.agg a254) h253) ∧ (FOP .f32 (FloatKind.f32.format.add r9 r10) fun r255 =>
    PIN h4 ⟨g1, 3, none⟩ 1 h4 <|
    PIN h4 ⟨g1, 2, none⟩ 1 h4 <|
    PIN h4 ⟨g1, 1, none⟩ 1 h4 <|
    PIN h4 ⟨g1, 0, none⟩ 1 h4 <|
    PIN h4 ⟨g1, 1, none⟩ 1 h4 <|
    PIN h4 ⟨g1, 0, none⟩ 1 h4 <|
    FOP .f32 (FloatKind.f32.format.sub r7 r8) fun r256 =>
    PIN h4 ⟨g1, 3, none⟩ 1 h4 <|
    PIN h4 ⟨g1, 2, none⟩ 1 h4 <|
    PIN h4 ⟨g1, 3, none⟩ 1 h4 <|
    PIN h4 ⟨g1, 2, none⟩ 1 h4 <|
    PIN h4 ⟨g1, 1, none⟩ 1 h4 <|
    PIN h4 ⟨g1, 0, none⟩ 1 h4 <|
    FOP .f32 (FloatKind.f32.format.add r242 r255) fun r257 =>
    FOP .f32 (FloatKind.f32.format.mul 1056964608 r257) fun r258 =>
    FOP .f32 (FloatKind.f32.format.add r256 r241) fun r259 =>
    FOP .f32 (FloatKind.f32.format.mul 1056964608 r259) fun r260 =>
    FOP .f32 (FloatKind.f32.format.sub r242 r255) fun r261 =>
    FOP .f32 (FloatKind.f32.format.mul 1056964608 r261) fun r262 =>
    FOP .f32 (FloatKind.f32.format.sub r256 r241) fun r263 =>
    FOP .f32 (FloatKind.f32.format.mul 1056964608 r263) fun r264 =>
    STA 4 h4 ⟨g3, 0, none⟩ (⟨[.float .f32 r258, .float .f32 r260, .float .f32 r262, .float .f32 r264]⟩ : Array Value) fun h265 =>
    LDA 4 h265 ⟨g3, 0, none⟩ fun a266 =>
    Post (.agg a266) h265)) ∧ ((FOP .f32 (FloatKind.f32.format.sub r7 r8) fun r267 =>
    PIN h4 ⟨g1, 3, none⟩ 1 h4 <|
    PIN h4 ⟨g1, 2, none⟩ 1 h4 <|
    PIN h4 ⟨g1, 3, none⟩ 1 h4 <|
    PIN h4 ⟨g1, 2, none⟩ 1 h4 <|
    PIN h4 ⟨g1, 1, none⟩ 1 h4 <|
    PIN h4 ⟨g1, 0, none⟩ 1 h4 <|
    (FOP .f32 (FloatKind.f32.format.add r5 r6) fun r268 =>
    PIN h4 ⟨g1, 3, none⟩ 1 h4 <|
    PIN h4 ⟨g1, 2, none⟩ 1 h4 <|
    PIN h4 ⟨g1, 3, none⟩ 1 h4 <|
    PIN h4 ⟨g1, 2, none⟩ 1 h4 <|
    PIN h4 ⟨g1, 1, none⟩ 1 h4 <|
    PIN h4 ⟨g1, 0, none⟩ 1 h4 <|
    FOP .f32 (FloatKind.f32.format.add r9 r10) fun r269 =>
    PIN h4 ⟨g1, 3, none⟩ 1 h4 <|
    PIN h4 ⟨g1, 2, none⟩ 1 h4 <|
    PIN h4 ⟨g1, 1, none⟩ 1 h4 <|
    PIN h4 ⟨g1, 0, none⟩ 1 h4 <|
    PIN h4 ⟨g1, 1, none⟩ 1 h4 <|
    PIN h4 ⟨g1, 0, none⟩ 1 h4 <|
    FOP .f32 (FloatKind.f32.format.add r268 r269) fun r270 =>
    FOP .f32 (FloatKind.f32.format.mul 1056964608 r270) fun r271 =>
    FOP .f32 (FloatKind.f32.format.add r267 r241) fun r272 =>
    FOP .f32 (FloatKind.f32.format.mul 1056964608 r272) fun r273 =>
    FOP .f32 (FloatKind.f32.format.sub r268 r269) fun r274 =>
    FOP .f32 (FloatKind.f32.format.mul 1056964608 r274) fun r275 =>
    FOP .f32 (FloatKind.f32.format.sub r267 r241) fun r276 =>
    FOP .f32 (FloatKind.f32.format.mul 1056964608 r276) fun r277 =>
    STA 4 h4 ⟨g3, 0, none⟩ (⟨[.float .f32 r271, .float .f32 r273, .float .f32 r275, .float .f32 r277]⟩ : Array Value) fun h278 =>
    LDA 4 h278 ⟨g3, 0, none⟩ fun a279 =>
    Post (.agg a279) h278) ∧ (FOP .f32 (FloatKind.f32.format.add r9 r10) fun r280 =>
    PIN h4 ⟨g1, 3, none⟩ 1 h4 <|
    PIN h4 ⟨g1, 2, none⟩ 1 h4 <|
    PIN h4 ⟨g1, 1, none⟩ 1 h4 <|
    PIN h4 ⟨g1, 0, none⟩ 1 h4 <|
    PIN h4 ⟨g1, 1, none⟩ 1 h4 <|
    PIN h4 ⟨g1, 0, none⟩ 1 h4 <|
    FOP .f32 (FloatKind.f32.format.add r5 r6) fun r281 =>
    PIN h4 ⟨g1, 3, none⟩ 1 h4 <|
    PIN h4 ⟨g1, 2, none⟩ 1 h4 <|
    PIN h4 ⟨g1, 3, none⟩ 1 h4 <|
    PIN h4 ⟨g1, 2, none⟩ 1 h4 <|
    PIN h4 ⟨g1, 1, none⟩ 1 h4 <|
    PIN h4 ⟨g1, 0, none⟩ 1 h4 <|
    FOP .f32 (FloatKind.f32.format.add r281 r280) fun r282 =>
    FOP .f32 (FloatKind.f32.format.mul 1056964608 r282) fun r283 =>
    FOP .f32 (FloatKind.f32.format.add r267 r241) fun r284 =>
    FOP .f32 (FloatKind.f32.format.mul 1056964608 r284) fun r285 =>
    FOP .f32 (FloatKind.f32.format.sub r281 r280) fun r286 =>
    FOP .f32 (FloatKind.f32.format.mul 1056964608 r286) fun r287 =>
    FOP .f32 (FloatKind.f32.format.sub r267 r241) fun r288 =>
    FOP .f32 (FloatKind.f32.format.mul 1056964608 r288) fun r289 =>
    STA 4 h4 ⟨g3, 0, none⟩ (⟨[.float .f32 r283, .float .f32 r285, .float .f32 r287, .float .f32 r289]⟩ : Array Value) fun h290 =>
    LDA 4 h290 ⟨g3, 0, none⟩ fun a291 =>
    Post (.agg a291) h290)) ∧ (FOP .f32 (FloatKind.f32.format.add r9 r10) fun r292 =>
    PIN h4 ⟨g1, 3, none⟩ 1 h4 <|
    PIN h4 ⟨g1, 2, none⟩ 1 h4 <|
    PIN h4 ⟨g1, 1, none⟩ 1 h4 <|
    PIN h4 ⟨g1, 0, none⟩ 1 h4 <|
    PIN h4 ⟨g1, 1, none⟩ 1 h4 <|
    PIN h4 ⟨g1, 0, none⟩ 1 h4 <|
    (FOP .f32 (FloatKind.f32.format.add r5 r6) fun r293 =>
    PIN h4 ⟨g1, 3, none⟩ 1 h4 <|
    PIN h4 ⟨g1, 2, none⟩ 1 h4 <|
    PIN h4 ⟨g1, 3, none⟩ 1 h4 <|
    PIN h4 ⟨g1, 2, none⟩ 1 h4 <|
    PIN h4 ⟨g1, 1, none⟩ 1 h4 <|
    PIN h4 ⟨g1, 0, none⟩ 1 h4 <|
    FOP .f32 (FloatKind.f32.format.sub r7 r8) fun r294 =>
    PIN h4 ⟨g1, 3, none⟩ 1 h4 <|
    PIN h4 ⟨g1, 2, none⟩ 1 h4 <|
    PIN h4 ⟨g1, 3, none⟩ 1 h4 <|
    PIN h4 ⟨g1, 2, none⟩ 1 h4 <|
    PIN h4 ⟨g1, 1, none⟩ 1 h4 <|
    PIN h4 ⟨g1, 0, none⟩ 1 h4 <|
    FOP .f32 (FloatKind.f32.format.add r293 r292) fun r295 =>
    FOP .f32 (FloatKind.f32.format.mul 1056964608 r295) fun r296 =>
    FOP .f32 (FloatKind.f32.format.add r294 r241) fun r297 =>
    FOP .f32 (FloatKind.f32.format.mul 1056964608 r297) fun r298 =>
    FOP .f32 (FloatKind.f32.format.sub r293 r292) fun r299 =>
    FOP .f32 (FloatKind.f32.format.mul 1056964608 r299) fun r300 =>
    FOP .f32 (FloatKind.f32.format.sub r294 r241) fun r301 =>
    FOP .f32 (FloatKind.f32.format.mul 1056964608 r301) fun r302 =>
    STA 4 h4 ⟨g3, 0, none⟩ (⟨[.float .f32 r296, .float .f32 r298, .float .f32 r300, .float .f32 r302]⟩ : Array Value) fun h303 =>
    LDA 4 h303 ⟨g3, 0, none⟩ fun a304 =>
    Post (.agg a304) h303) ∧ (FOP .f32 (FloatKind.f32.format.sub r7 r8) fun r305 =>
    PIN h4 ⟨g1, 3, none⟩ 1 h4 <|
    PIN h4 ⟨g1, 2, none⟩ 1 h4 <|
    PIN h4 ⟨g1, 3, none⟩ 1 h4 <|
    PIN h4 ⟨g1, 2, none⟩ 1 h4 <|
    PIN h4 ⟨g1, 1, none⟩ 1 h4 <|
    PIN h4 ⟨g1, 0, none⟩ 1 h4 <|
    FOP .f32 (FloatKind.f32.format.add r5 r6) fun r306 =>
    PIN h4 ⟨g1, 3, none⟩ 1 h4 <|
    PIN h4 ⟨g1, 2, none⟩ 1 h4 <|
    PIN h4 ⟨g1, 3, none⟩ 1 h4 <|
    PIN h4 ⟨g1, 2, none⟩ 1 h4 <|
    PIN h4 ⟨g1, 1, none⟩ 1 h4 <|
    PIN h4 ⟨g1, 0, none⟩ 1 h4 <|
    FOP .f32 (FloatKind.f32.format.add r306 r292) fun r307 =>
    FOP .f32 (FloatKind.f32.format.mul 1056964608 r307) fun r308 =>
    FOP .f32 (FloatKind.f32.format.add r305 r241) fun r309 =>
    FOP .f32 (FloatKind.f32.format.mul 1056964608 r309) fun r310 =>
    FOP .f32 (FloatKind.f32.format.sub r306 r292) fun r311 =>
    FOP .f32 (FloatKind.f32.format.mul 1056964608 r311) fun r312 =>
    FOP .f32 (FloatKind.f32.format.sub r305 r241) fun r313 =>
    FOP .f32 (FloatKind.f32.format.mul 1056964608 r313) fun r314 =>
    STA 4 h4 ⟨g3, 0, none⟩ (⟨[.float .f32 r308, .float .f32 r310, .float .f32 r312, .float .f32 r314]⟩ : Array Value) fun h315 =>
    LDA 4 h315 ⟨g3, 0, none⟩ fun a316 =>
    Post (.agg a316) h315))))))) h2) h
noncomputable def impl_MixFour.code : Code := (Tryz.f136.body).getD .skip
theorem impl_MixFour.call {x_0 : Array Value} {Post : Value → Heap → Prop} {h : Heap} (H : impl_MixFour.S x_0 Post h) : CALL prg f_impl_MixFour #[.agg x_0] Post h :=
  fn_call tau_ok mixed (c := impl_MixFour.code) (Λ := lookL []) Tryz.func136 (by kernel_rfl) (by kernel_rfl)
    (Rq.free (by kernel_rfl))
    (Eq.mp (by kernel_rfl) H)

def p_impl_Room_early.B3 (Post : Value → Heap → Prop) (N3 : (Addr × Nat × Option Addr × Nat × Nat × Int × Int) → Heap → Prop) : Addr × Nat × Option Addr × Nat × Nat × Int × Int → Heap → Prop
  | (x_0, m_3, t10b, t10l, t10c, t11, t12), h =>
    BIF (decide (t12 < t11)) (
    IDXS t10b t12 t10l fun p4 =>
    LDA 2 h ((Addr.add p4 ((Int.toNat t12) * 2))) fun a5 =>
    ALC ⟨Z_impl_Tap⟩ T_impl_Tap (fun g6 h7 =>
    STA 2 h7 ⟨g6, 0, none⟩ a5 fun h8 =>
    oF .f32 (cell h8 ⟨g6, 1, none⟩) fun r9 =>
    LDA 2 h8 x_0 fun a10 =>
    oI .i64 (cell h8 ⟨g6, 0, none⟩) fun n11 =>
    CALL prg f_impl_Ring_back #[.agg a10, .int .i64 n11] (fun q12 h13 =>
    asF .f32 q12 fun r14 =>
    PIN h8 ⟨g6, 1, none⟩ 1 h13 <|
    FOP .f32 (FloatKind.f32.format.mul r9 r14) fun r15 =>
    BIF (t12 == (0 : Int)) (
    N3 (x_0, r15, t10b, t10l, t10c, t11, ((IntKind.i64.wrap (t12 + (1 : Int))))) h13) (
    FOP .f32 (FloatKind.f32.format.add m_3 r15) fun r16 =>
    N3 (x_0, r16, t10b, t10l, t10c, t11, ((IntKind.i64.wrap (t12 + (1 : Int))))) h13)) h8) h) (
    Post (.float .f32 m_3) h)
def p_impl_Room_early.g3 (fr : Frame) : Addr × Nat × Option Addr × Nat × Nat × Int × Int := ((gP (lget fr 0)), (gF (lget fr 3)), (gLb (lget fr 10)), (gLl (lget fr 10)), (gLc (lget fr 10)), (gI (lget fr 11)), (gI (lget fr 12)))
def p_impl_Room_early.l3 (Post : Value → Heap → Prop) : Frame → Heap → Prop := fun fr h => GRD (shape (kds 35 [(0, .p), (3, .f .f32), (10, .l), (11, .i .i64), (12, .i .i64)]) fr) (LOOP (p_impl_Room_early.B3 Post) (p_impl_Room_early.g3 fr) h)
def p_impl_Room_early.S (x_0 : Addr) (Post : Value → Heap → Prop) (h : Heap) : Prop :=
    oL (cell h (Addr.add x_0 2)) fun l1b l1l l1c =>
    LOOP (p_impl_Room_early.B3 Post) (x_0, 0, l1b, l1l, l1c, (l1l : Int), (0 : Int)) h
noncomputable def p_impl_Room_early.code : Code := (Tryz.f130.body).getD .skip
theorem p_impl_Room_early.call {x_0 : Addr} {Post : Value → Heap → Prop} {h : Heap} (H : p_impl_Room_early.S x_0 Post h) : CALL prg f_p_impl_Room_early #[.pointer (some x_0)] Post h :=
  fn_call tau_ok mixed (c := p_impl_Room_early.code) (Λ := lookL [(1000003, p_impl_Room_early.l3 Post)]) Tryz.func130 (by kernel_rfl) (by kernel_rfl)
    (Rq.seq (by kernel_rfl) (Rq.free (by kernel_rfl)) (Rq.seq (by kernel_rfl) (Rq.free (by kernel_rfl)) (Rq.seq (by kernel_rfl) (Rq.seq (by kernel_rfl) (Rq.free (by kernel_rfl)) (Rq.block (Rq.loop (p_impl_Room_early.l3 Post) (by kernel_rfl) (segL (g := p_impl_Room_early.g3) tau_ok mixed (Λ := fun N3 => lookL []) (fun _ _ _ => by kernel_rfl) (fun N3 => (Rq.free (by kernel_rfl))))))) (Rq.free (by kernel_rfl)))))
    (Eq.mp (by kernel_rfl) H)

def p_impl_Room_step.B12 (Post : Value → Heap → Prop) (N12 : (Addr × Nat × Nat × Addr × Array Value × Int) → Heap → Prop) : Addr × Nat × Nat × Addr × Array Value × Int → Heap → Prop
  | (x_0, in_1, f_6, o_7, t65, t66), h =>
    BIF ((decide (t66 < (4 : Int)))) (
    IDX t66 4 <|
    oF .f32 t65[((Int.toNat t66) * 1)]? fun r37 =>
    IDX t66 4 <|
    FOP .f32 (FloatKind.f32.format.add f_6 r37) fun r38 =>
    CALL prg f_impl_kept #[.float .f32 r38] (fun q39 h40 =>
    asF .f32 q39 fun r41 =>
    CALL prg f_p_impl_Ring_push #[.pointer (some ((Addr.add (Addr.add x_0 9) ((Int.toNat t66) * 2)))), .float .f32 r41] (fun q42 h43 =>
    asF .f32 q42 fun r44 =>
    N12 (x_0, in_1, f_6, o_7, t65, ((IntKind.i64.wrap (t66 + (1 : Int))))) h43) h40) h) (
    oF .f32 (cell h (Addr.add x_0 45)) fun r45 =>
    oF .f32 (cell h (Addr.add x_0 46)) fun r46 =>
    IDX (0 : Int) 4 <|
    oF .f32 (cell h o_7) fun r47 =>
    IDX (1 : Int) 4 <|
    oF .f32 (cell h (Addr.add o_7 1)) fun r48 =>
    IDX (2 : Int) 4 <|
    oF .f32 (cell h (Addr.add o_7 2)) fun r49 =>
    IDX (3 : Int) 4 <|
    oF .f32 (cell h (Addr.add o_7 3)) fun r50 =>
    (FOP .f32 (FloatKind.f32.format.mul r45 in_1) fun r51 =>
    PIN h (Addr.add o_7 3) 1 h <|
    PIN h (Addr.add o_7 2) 1 h <|
    PIN h (Addr.add o_7 1) 1 h <|
    PIN h o_7 1 h <|
    PIN h (Addr.add x_0 46) 1 h <|
    (FOP .f32 (FloatKind.f32.format.add r47 r48) fun r52 =>
    PIN h (Addr.add o_7 3) 1 h <|
    PIN h (Addr.add o_7 2) 1 h <|
    PIN h (Addr.add x_0 46) 1 h <|
    PIN h (Addr.add x_0 45) 1 h <|
    FOP .f32 (FloatKind.f32.format.add r49 r50) fun r53 =>
    PIN h (Addr.add o_7 1) 1 h <|
    PIN h o_7 1 h <|
    PIN h (Addr.add x_0 46) 1 h <|
    PIN h (Addr.add x_0 45) 1 h <|
    FOP .f32 (FloatKind.f32.format.add r52 r53) fun r54 =>
    PIN h (Addr.add x_0 46) 1 h <|
    PIN h (Addr.add x_0 45) 1 h <|
    FOP .f32 (FloatKind.f32.format.mul r46 r54) fun r55 =>
    PIN h (Addr.add x_0 45) 1 h <|
    FOP .f32 (FloatKind.f32.format.add r51 r55) fun r56 =>
    Post (.float .f32 r56) h) ∧ (FOP .f32 (FloatKind.f32.format.add r49 r50) fun r57 =>
    PIN h (Addr.add o_7 1) 1 h <|
    PIN h o_7 1 h <|
    PIN h (Addr.add x_0 46) 1 h <|
    PIN h (Addr.add x_0 45) 1 h <|
    FOP .f32 (FloatKind.f32.format.add r47 r48) fun r58 =>
    PIN h (Addr.add o_7 3) 1 h <|
    PIN h (Addr.add o_7 2) 1 h <|
    PIN h (Addr.add x_0 46) 1 h <|
    PIN h (Addr.add x_0 45) 1 h <|
    FOP .f32 (FloatKind.f32.format.add r58 r57) fun r59 =>
    PIN h (Addr.add x_0 46) 1 h <|
    PIN h (Addr.add x_0 45) 1 h <|
    FOP .f32 (FloatKind.f32.format.mul r46 r59) fun r60 =>
    PIN h (Addr.add x_0 45) 1 h <|
    FOP .f32 (FloatKind.f32.format.add r51 r60) fun r61 =>
    Post (.float .f32 r61) h)) ∧ ((FOP .f32 (FloatKind.f32.format.add r47 r48) fun r62 =>
    PIN h (Addr.add o_7 3) 1 h <|
    PIN h (Addr.add o_7 2) 1 h <|
    PIN h (Addr.add x_0 46) 1 h <|
    PIN h (Addr.add x_0 45) 1 h <|
    (FOP .f32 (FloatKind.f32.format.mul r45 in_1) fun r63 =>
    PIN h (Addr.add o_7 3) 1 h <|
    PIN h (Addr.add o_7 2) 1 h <|
    PIN h (Addr.add o_7 1) 1 h <|
    PIN h o_7 1 h <|
    PIN h (Addr.add x_0 46) 1 h <|
    FOP .f32 (FloatKind.f32.format.add r49 r50) fun r64 =>
    PIN h (Addr.add o_7 1) 1 h <|
    PIN h o_7 1 h <|
    PIN h (Addr.add x_0 46) 1 h <|
    PIN h (Addr.add x_0 45) 1 h <|
    FOP .f32 (FloatKind.f32.format.add r62 r64) fun r65 =>
    PIN h (Addr.add x_0 46) 1 h <|
    PIN h (Addr.add x_0 45) 1 h <|
    FOP .f32 (FloatKind.f32.format.mul r46 r65) fun r66 =>
    PIN h (Addr.add x_0 45) 1 h <|
    FOP .f32 (FloatKind.f32.format.add r63 r66) fun r67 =>
    Post (.float .f32 r67) h) ∧ (FOP .f32 (FloatKind.f32.format.add r49 r50) fun r68 =>
    PIN h (Addr.add o_7 1) 1 h <|
    PIN h o_7 1 h <|
    PIN h (Addr.add x_0 46) 1 h <|
    PIN h (Addr.add x_0 45) 1 h <|
    (FOP .f32 (FloatKind.f32.format.mul r45 in_1) fun r69 =>
    PIN h (Addr.add o_7 3) 1 h <|
    PIN h (Addr.add o_7 2) 1 h <|
    PIN h (Addr.add o_7 1) 1 h <|
    PIN h o_7 1 h <|
    PIN h (Addr.add x_0 46) 1 h <|
    FOP .f32 (FloatKind.f32.format.add r62 r68) fun r70 =>
    PIN h (Addr.add x_0 46) 1 h <|
    PIN h (Addr.add x_0 45) 1 h <|
    FOP .f32 (FloatKind.f32.format.mul r46 r70) fun r71 =>
    PIN h (Addr.add x_0 45) 1 h <|
    FOP .f32 (FloatKind.f32.format.add r69 r71) fun r72 =>
    Post (.float .f32 r72) h) ∧ (FOP .f32 (FloatKind.f32.format.add r62 r68) fun r73 =>
    PIN h (Addr.add x_0 46) 1 h <|
    PIN h (Addr.add x_0 45) 1 h <|
    (FOP .f32 (FloatKind.f32.format.mul r45 in_1) fun r74 =>
    PIN h (Addr.add o_7 3) 1 h <|
    PIN h (Addr.add o_7 2) 1 h <|
    PIN h (Addr.add o_7 1) 1 h <|
    PIN h o_7 1 h <|
    PIN h (Addr.add x_0 46) 1 h <|
    FOP .f32 (FloatKind.f32.format.mul r46 r73) fun r75 =>
    PIN h (Addr.add x_0 45) 1 h <|
    FOP .f32 (FloatKind.f32.format.add r74 r75) fun r76 =>
    Post (.float .f32 r76) h) ∧ (FOP .f32 (FloatKind.f32.format.mul r46 r73) fun r77 =>
    PIN h (Addr.add x_0 45) 1 h <|
    FOP .f32 (FloatKind.f32.format.mul r45 in_1) fun r78 =>
    PIN h (Addr.add o_7 3) 1 h <|
    PIN h (Addr.add o_7 2) 1 h <|
    PIN h (Addr.add o_7 1) 1 h <|
    PIN h o_7 1 h <|
    PIN h (Addr.add x_0 46) 1 h <|
    FOP .f32 (FloatKind.f32.format.add r78 r77) fun r79 =>
    Post (.float .f32 r79) h)))) ∧ (FOP .f32 (FloatKind.f32.format.add r49 r50) fun r80 =>
    PIN h (Addr.add o_7 1) 1 h <|
    PIN h o_7 1 h <|
    PIN h (Addr.add x_0 46) 1 h <|
    PIN h (Addr.add x_0 45) 1 h <|
    (FOP .f32 (FloatKind.f32.format.mul r45 in_1) fun r81 =>
    PIN h (Addr.add o_7 3) 1 h <|
    PIN h (Addr.add o_7 2) 1 h <|
    PIN h (Addr.add o_7 1) 1 h <|
    PIN h o_7 1 h <|
    PIN h (Addr.add x_0 46) 1 h <|
    FOP .f32 (FloatKind.f32.format.add r47 r48) fun r82 =>
    PIN h (Addr.add o_7 3) 1 h <|
    PIN h (Addr.add o_7 2) 1 h <|
    PIN h (Addr.add x_0 46) 1 h <|
    PIN h (Addr.add x_0 45) 1 h <|
    FOP .f32 (FloatKind.f32.format.add r82 r80) fun r83 =>
    PIN h (Addr.add x_0 46) 1 h <|
    PIN h (Addr.add x_0 45) 1 h <|
    FOP .f32 (FloatKind.f32.format.mul r46 r83) fun r84 =>
    PIN h (Addr.add x_0 45) 1 h <|
    FOP .f32 (FloatKind.f32.format.add r81 r84) fun r85 =>
    Post (.float .f32 r85) h) ∧ (FOP .f32 (FloatKind.f32.format.add r47 r48) fun r86 =>
    PIN h (Addr.add o_7 3) 1 h <|
    PIN h (Addr.add o_7 2) 1 h <|
    PIN h (Addr.add x_0 46) 1 h <|
    PIN h (Addr.add x_0 45) 1 h <|
    (FOP .f32 (FloatKind.f32.format.mul r45 in_1) fun r87 =>
    PIN h (Addr.add o_7 3) 1 h <|
    PIN h (Addr.add o_7 2) 1 h <|
    PIN h (Addr.add o_7 1) 1 h <|
    PIN h o_7 1 h <|
    PIN h (Addr.add x_0 46) 1 h <|
    FOP .f32 (FloatKind.f32.format.add r86 r80) fun r88 =>
    PIN h (Addr.add x_0 46) 1 h <|
    PIN h (Addr.add x_0 45) 1 h <|
    FOP .f32 (FloatKind.f32.format.mul r46 r88) fun r89 =>
    PIN h (Addr.add x_0 45) 1 h <|
    FOP .f32 (FloatKind.f32.format.add r87 r89) fun r90 =>
    Post (.float .f32 r90) h) ∧ (FOP .f32 (FloatKind.f32.format.add r86 r80) fun r91 =>
    PIN h (Addr.add x_0 46) 1 h <|
    PIN h (Addr.add x_0 45) 1 h <|
    (FOP .f32 (FloatKind.f32.format.mul r45 in_1) fun r92 =>
    PIN h (Addr.add o_7 3) 1 h <|
    PIN h (Addr.add o_7 2) 1 h <|
    PIN h (Addr.add o_7 1) 1 h <|
    PIN h o_7 1 h <|
    PIN h (Addr.add x_0 46) 1 h <|
    FOP .f32 (FloatKind.f32.format.mul r46 r91) fun r93 =>
    PIN h (Addr.add x_0 45) 1 h <|
    FOP .f32 (FloatKind.f32.format.add r92 r93) fun r94 =>
    Post (.float .f32 r94) h) ∧ (FOP .f32 (FloatKind.f32.format.mul r46 r91) fun r95 =>
    PIN h (Addr.add x_0 45) 1 h <|
    FOP .f32 (FloatKind.f32.format.mul r45 in_1) fun r96 =>
    PIN h (Addr.add o_7 3) 1 h <|
    PIN h (Addr.add o_7 2) 1 h <|
    PIN h (Addr.add o_7 1) 1 h <|
    PIN h o_7 1 h <|
    PIN h (Addr.add x_0 46) 1 h <|
    FOP .f32 (FloatKind.f32.format.add r96 r95) fun r97 =>
    Post (.float .f32 r97) h))))))
def p_impl_Room_step.g12 (fr : Frame) : Addr × Nat × Nat × Addr × Array Value × Int := ((gP (lget fr 0)), (gF (lget fr 1)), (gF (lget fr 6)), (gP (lget fr 7)), (gA (lget fr 65)), (gI (lget fr 66)))
def p_impl_Room_step.l12 (Post : Value → Heap → Prop) : Frame → Heap → Prop := fun fr h => GRD (shape (kds 104 [(0, .p), (1, .f .f32), (6, .f .f32), (7, .p), (65, .a), (66, .i .i64)]) fr) (LOOP (p_impl_Room_step.B12 Post) (p_impl_Room_step.g12 fr) h)
def p_impl_Room_step.B6 (Post : Value → Heap → Prop) (N6 : (Addr × Nat × Nat × Addr × Addr × Int) → Heap → Prop) : Addr × Nat × Nat × Addr × Addr × Int → Heap → Prop
  | (x_0, in_1, f_6, o_7, d_8, t33), h =>
    BIF ((decide (t33 < (4 : Int)))) (
    IDX t33 4 <|
    LDA 2 h ((Addr.add (Addr.add x_0 9) ((Int.toNat t33) * 2))) fun a21 =>
    CALL prg f_impl_Ring_oldest #[.agg a21] (fun q22 h23 =>
    asF .f32 q22 fun r24 =>
    IDX t33 4 <|
    ST1 h23 ((Addr.add o_7 ((Int.toNat t33) * 1))) (.float .f32 r24) fun h25 =>
    IDX t33 4 <|
    IDX t33 4 <|
    oF .f32 (cell h25 ((Addr.add (Addr.add x_0 41) ((Int.toNat t33) * 1)))) fun r26 =>
    IDX t33 4 <|
    oF .f32 (cell h25 ((Addr.add o_7 ((Int.toNat t33) * 1)))) fun r27 =>
    FOP .f32 (FloatKind.f32.format.mul r26 r27) fun r28 =>
    CALL prg f_p_impl_Filter_step #[.pointer (some ((Addr.add (Addr.add x_0 17) ((Int.toNat t33) * 6)))), .float .f32 r28] (fun q29 h30 =>
    asF .f32 q29 fun r31 =>
    IDX t33 4 <|
    ST1 h30 ((Addr.add d_8 ((Int.toNat t33) * 1))) (.float .f32 r31) fun h32 =>
    N6 (x_0, in_1, f_6, o_7, d_8, ((IntKind.i64.wrap (t33 + (1 : Int))))) h32) h25) h) (
    LDA 4 h d_8 fun a33 =>
    CALL prg f_impl_MixFour #[.agg a33] (fun q34 h35 =>
    asA q34 fun a36 =>
    LOOP (p_impl_Room_step.B12 Post) (x_0, in_1, f_6, o_7, a36, (0 : Int)) h35) h)
def p_impl_Room_step.g6 (fr : Frame) : Addr × Nat × Nat × Addr × Addr × Int := ((gP (lget fr 0)), (gF (lget fr 1)), (gF (lget fr 6)), (gP (lget fr 7)), (gP (lget fr 8)), (gI (lget fr 33)))
def p_impl_Room_step.l6 (Post : Value → Heap → Prop) : Frame → Heap → Prop := fun fr h => GRD (shape (kds 104 [(0, .p), (1, .f .f32), (6, .f .f32), (7, .p), (8, .p), (33, .i .i64)]) fr) (LOOP (p_impl_Room_step.B6 Post) (p_impl_Room_step.g6 fr) h)
def p_impl_Room_step.S (x_0 : Addr) (in_1 : Nat) (Post : Value → Heap → Prop) (h : Heap) : Prop :=
    CALL prg f_p_impl_Room_early #[.pointer (some x_0)] (fun q1 h2 =>
    asF .f32 q1 fun r3 =>
    CALL prg f_impl_kept #[.float .f32 in_1] (fun q4 h5 =>
    asF .f32 q4 fun r6 =>
    CALL prg f_p_impl_Ring_push #[.pointer (some x_0), .float .f32 r6] (fun q7 h8 =>
    asF .f32 q7 fun r9 =>
    IDX (1 : Int) 2 <|
    IDX (0 : Int) 2 <|
    FOP .f32 (FloatKind.f32.format.add in_1 r3) fun r10 =>
    CALL prg f_p_impl_Comb_step #[.pointer (some (Addr.add x_0 3)), .float .f32 r10] (fun q11 h12 =>
    asF .f32 q11 fun r13 =>
    CALL prg f_p_impl_Comb_step #[.pointer (some (Addr.add x_0 6)), .float .f32 r13] (fun q14 h15 =>
    asF .f32 q14 fun r16 =>
    ALC ⟨Z_4_float32⟩ T_4_float32 (fun g17 h18 =>
    ALC ⟨Z_4_float32⟩ T_4_float32 (fun g19 h20 =>
    LOOP (p_impl_Room_step.B6 Post) (x_0, in_1, r16, ⟨g17, 0, none⟩, ⟨g19, 0, none⟩, (0 : Int)) h20) h18) h15) h12) h8) h5) h2) h
noncomputable def p_impl_Room_step.code : Code := (Tryz.f67.body).getD .skip
theorem p_impl_Room_step.call {x_0 : Addr} {in_1 : Nat} {Post : Value → Heap → Prop} {h : Heap} (H : p_impl_Room_step.S x_0 in_1 Post h) : CALL prg f_p_impl_Room_step #[.pointer (some x_0), .float .f32 in_1] Post h :=
  fn_call tau_ok mixed (c := p_impl_Room_step.code) (Λ := lookL [(1000006, p_impl_Room_step.l6 Post), (1000012, p_impl_Room_step.l12 Post)]) Tryz.func67 (by kernel_rfl) (by kernel_rfl)
    (Rq.seq (by kernel_rfl) (Rq.free (by kernel_rfl)) (Rq.seq (by kernel_rfl) (Rq.free (by kernel_rfl)) (Rq.seq (by kernel_rfl) (Rq.free (by kernel_rfl)) (Rq.seq (by kernel_rfl) (Rq.free (by kernel_rfl)) (Rq.seq (by kernel_rfl) (Rq.free (by kernel_rfl)) (Rq.seq (by kernel_rfl) (Rq.seq (by kernel_rfl) (Rq.free (by kernel_rfl)) (Rq.block (Rq.loop (p_impl_Room_step.l6 Post) (by kernel_rfl) (segL (g := p_impl_Room_step.g6) tau_ok mixed (Λ := fun N6 => lookL []) (fun _ _ _ => by kernel_rfl) (fun N6 => (Rq.free (by kernel_rfl))))))) (Rq.seq (by kernel_rfl) (Rq.seq (by kernel_rfl) (Rq.free (by kernel_rfl)) (Rq.block (Rq.loop (p_impl_Room_step.l12 Post) (by kernel_rfl) (segL (g := p_impl_Room_step.g12) tau_ok mixed (Λ := fun N12 => lookL []) (fun _ _ _ => by kernel_rfl) (fun N12 => (Rq.free (by kernel_rfl))))))) (Rq.free (by kernel_rfl)))))))))
    (Eq.mp (by kernel_rfl) H)

def p_impl_Room_isStill.B2 (Post : Value → Heap → Prop) (N2 : (Array Value × Int) → Heap → Prop) : Array Value × Int → Heap → Prop
  | (t8, t9), h =>
    BIF ((decide (t9 < (4 : Int)))) (
    IDX t9 4 <|
    ALC ⟨Z_impl_Filter⟩ T_impl_Filter (fun g2 h3 =>
    STA 6 h3 ⟨g2, 0, none⟩ ((Array.extract t8 ((Int.toNat t9) * 6) (((Int.toNat t9) * 6) + 6))) fun h4 =>
    LDA 6 h4 ⟨g2, 0, none⟩ fun a5 =>
    CALL prg f_impl_Filter_isStill #[.agg a5] (fun q6 h7 =>
    asB q6 fun b8 =>
    BIF (!b8) (
    Post (.bool false) h7) (
    N2 (t8, ((IntKind.i64.wrap (t9 + (1 : Int))))) h7)) h4) h) (
    Post (.bool true) h)
def p_impl_Room_isStill.g2 (fr : Frame) : Array Value × Int := ((gA (lget fr 8)), (gI (lget fr 9)))
def p_impl_Room_isStill.l2 (Post : Value → Heap → Prop) : Frame → Heap → Prop := fun fr h => GRD (shape (kds 16 [(8, .a), (9, .i .i64)]) fr) (LOOP (p_impl_Room_isStill.B2 Post) (p_impl_Room_isStill.g2 fr) h)
def p_impl_Room_isStill.S (x_0 : Addr) (Post : Value → Heap → Prop) (h : Heap) : Prop :=
    LDA 24 h (Addr.add x_0 17) fun a1 =>
    LOOP (p_impl_Room_isStill.B2 Post) (a1, (0 : Int)) h
noncomputable def p_impl_Room_isStill.code : Code := (Tryz.f84.body).getD .skip
theorem p_impl_Room_isStill.call {x_0 : Addr} {Post : Value → Heap → Prop} {h : Heap} (H : p_impl_Room_isStill.S x_0 Post h) : CALL prg f_p_impl_Room_isStill #[.pointer (some x_0)] Post h :=
  fn_call tau_ok mixed (c := p_impl_Room_isStill.code) (Λ := lookL [(1000002, p_impl_Room_isStill.l2 Post)]) Tryz.func84 (by kernel_rfl) (by kernel_rfl)
    (Rq.seq (by kernel_rfl) (Rq.free (by kernel_rfl)) (Rq.seq (by kernel_rfl) (Rq.seq (by kernel_rfl) (Rq.free (by kernel_rfl)) (Rq.block (Rq.loop (p_impl_Room_isStill.l2 Post) (by kernel_rfl) (segL (g := p_impl_Room_isStill.g2) tau_ok mixed (Λ := fun N2 => lookL []) (fun _ _ _ => by kernel_rfl) (fun N2 => (Rq.free (by kernel_rfl))))))) (Rq.free (by kernel_rfl))))
    (Eq.mp (by kernel_rfl) H)

def impl_Ring_quiet.B3 (Post : Value → Heap → Prop) (N3 : (Addr × Int × Int) → Heap → Prop) : Addr × Int × Int → Heap → Prop
  | (r_1, n_3, k_4), h =>
    BIF (decide (k_4 ≤ n_3)) (
    LDA 2 h r_1 fun a7 =>
    CALL prg f_impl_Ring_back #[.agg a7, .int .i64 k_4] (fun q8 h9 =>
    asF .f32 q8 fun r10 =>
    BIF (FloatKind.f32.format.order r10 0 != some .eq) (
    Post (.int .i64 ((IntKind.i64.wrap (k_4 - (1 : Int))))) h9) (
    N3 (r_1, n_3, ((IntKind.i64.wrap (k_4 + (1 : Int))))) h9)) h) (
    Post (.int .i64 n_3) h)
def impl_Ring_quiet.g3 (fr : Frame) : Addr × Int × Int := ((gP (lget fr 1)), (gI (lget fr 3)), (gI (lget fr 4)))
def impl_Ring_quiet.l3 (Post : Value → Heap → Prop) : Frame → Heap → Prop := fun fr h => GRD (shape (kds 20 [(1, .p), (3, .i .i64), (4, .i .i64)]) fr) (LOOP (impl_Ring_quiet.B3 Post) (impl_Ring_quiet.g3 fr) h)
def impl_Ring_quiet.S (r_0 : Array Value) (Post : Value → Heap → Prop) (h : Heap) : Prop :=
    ALC r_0 T_impl_Ring (fun g1 h2 =>
    oL (cell h2 ⟨g1, 0, none⟩) fun l3b l3l l3c =>
    CALL prg f_impl_length_float32 #[.slice l3b l3l l3c] (fun q4 h5 =>
    asI .i64 q4 fun n6 =>
    LOOP (impl_Ring_quiet.B3 Post) (⟨g1, 0, none⟩, n6, (1 : Int)) h5) h2) h
noncomputable def impl_Ring_quiet.code : Code := (Tryz.f178.body).getD .skip
theorem impl_Ring_quiet.call {r_0 : Array Value} {Post : Value → Heap → Prop} {h : Heap} (H : impl_Ring_quiet.S r_0 Post h) : CALL prg f_impl_Ring_quiet #[.agg r_0] Post h :=
  fn_call tau_ok mixed (c := impl_Ring_quiet.code) (Λ := lookL [(1000003, impl_Ring_quiet.l3 Post)]) Tryz.func178 (by kernel_rfl) (by kernel_rfl)
    (Rq.seq (by kernel_rfl) (Rq.free (by kernel_rfl)) (Rq.seq (by kernel_rfl) (Rq.free (by kernel_rfl)) (Rq.seq (by kernel_rfl) (Rq.seq (by kernel_rfl) (Rq.free (by kernel_rfl)) (Rq.block (Rq.loop (impl_Ring_quiet.l3 Post) (by kernel_rfl) (segL (g := impl_Ring_quiet.g3) tau_ok mixed (Λ := fun N3 => lookL []) (fun _ _ _ => by kernel_rfl) (fun N3 => (Rq.free (by kernel_rfl))))))) (Rq.free (by kernel_rfl)))))
    (Eq.mp (by kernel_rfl) H)

def impl_Ring_isQuiet.S (r_0 : Array Value) (Post : Value → Heap → Prop) (h : Heap) : Prop :=
    ALC r_0 T_impl_Ring (fun g1 h2 =>
    LDA 2 h2 ⟨g1, 0, none⟩ fun a3 =>
    oL (cell h2 ⟨g1, 0, none⟩) fun l4b l4l l4c =>
    CALL prg f_impl_Ring_quiet #[.agg a3] (fun q5 h6 =>
    asI .i64 q5 fun n7 =>
    PIN h2 ⟨g1, 0, none⟩ 1 h6 <|
    CALL prg f_impl_length_float32 #[.slice l4b l4l l4c] (fun q8 h9 =>
    asI .i64 q8 fun n10 =>
    Post (.bool (n7 == n10)) h9) h6) h2) h
noncomputable def impl_Ring_isQuiet.code : Code := (Tryz.f118.body).getD .skip
theorem impl_Ring_isQuiet.call {r_0 : Array Value} {Post : Value → Heap → Prop} {h : Heap} (H : impl_Ring_isQuiet.S r_0 Post h) : CALL prg f_impl_Ring_isQuiet #[.agg r_0] Post h :=
  fn_call tau_ok mixed (c := impl_Ring_isQuiet.code) (Λ := lookL []) Tryz.func118 (by kernel_rfl) (by kernel_rfl)
    (Rq.free (by kernel_rfl))
    (Eq.mp (by kernel_rfl) H)

end Go.Sx
