/- What functions of this seat's program compute, told in words (a predicate over heaps for each), and the proofs that the words are no more than the code's own weakest precondition. -/
import Derived.Test.YtdhhfilfcpljoaaTab
namespace Go.Sx
open Go.Proofs
set_option linter.unusedVariables false
set_option maxRecDepth 100000

/-! #### loop.example/g01173/spec.l06Comb (function 131) -/
def spec_l06Comb.S (c_0 : Addr) (Post : Value → Heap → Prop) (h : Heap) : Prop :=
    LDA 2 h c_0 fun a1 =>
    SIZ (Array.size a1) 2 <|
    ALC ⟨(splice 0 2 a1 [.slice none 0 0, .int .i64 (0 : Int)])⟩ T_impl_Ring (fun g2 h3 =>
    CALL prg f_spec_l04Rings #[.slice (some ⟨g2, 0, none⟩) 1 1] (fun q4 h5 =>
    asB q4 fun b6 =>
    BIF b6 (
    oF .f32 (cell h5 (Addr.add c_0 2)) fun r7 =>
    CALL prg f_spec_l01Finite #[.float .f32 r7] (fun q8 h9 =>
    asB q8 fun b10 =>
    Post (.bool b10) h9) h5) (
    Post (.bool false) h5)) h3) h
noncomputable def spec_l06Comb.code : Code := (Try.f131.body).getD .skip
theorem spec_l06Comb.call {c_0 : Addr} {Post : Value → Heap → Prop} {h : Heap} (H : spec_l06Comb.S c_0 Post h) : CALL prg f_spec_l06Comb #[.pointer (some c_0)] Post h :=
  fn_call tau_ok mixed (c := spec_l06Comb.code) (Λ := lookL []) Try.func131 (by kernel_rfl) (by kernel_rfl)
    (Rq.free (by kernel_rfl))
    (Eq.mp (by kernel_rfl) H)

/-! #### loop.example/g01173/spec.l06Loops (function 132) -/
def spec_l06Loops.S (x_0 : Addr) (Post : Value → Heap → Prop) (h : Heap) : Prop :=
    IDX (0 : Int) 4 <|
    LDA 2 h (Addr.add x_0 9) fun a1 =>
    IDX (1 : Int) 4 <|
    LDA 2 h (Addr.add x_0 11) fun a2 =>
    IDX (2 : Int) 4 <|
    LDA 2 h (Addr.add x_0 13) fun a3 =>
    IDX (3 : Int) 4 <|
    LDA 2 h (Addr.add x_0 15) fun a4 =>
    SIZ (Array.size a1) 2 <|
    SIZ (Array.size a2) 2 <|
    SIZ (Array.size a3) 2 <|
    SIZ (Array.size a4) 2 <|
    ALC ⟨(splice 6 2 a4 (splice 4 2 a3 (splice 2 2 a2 (splice 0 2 a1 [.slice none 0 0, .int .i64 (0 : Int), .slice none 0 0, .int .i64 (0 : Int), .slice none 0 0, .int .i64 (0 : Int), .slice none 0 0, .int .i64 (0 : Int)]))))⟩ T_impl_Ring (fun g5 h6 =>
    Post (.slice (some ⟨g5, 0, none⟩) 4 4) h6) h
noncomputable def spec_l06Loops.code : Code := (Try.f132.body).getD .skip
theorem spec_l06Loops.call {x_0 : Addr} {Post : Value → Heap → Prop} {h : Heap} (H : spec_l06Loops.S x_0 Post h) : CALL prg f_spec_l06Loops #[.pointer (some x_0)] Post h :=
  fn_call tau_ok mixed (c := spec_l06Loops.code) (Λ := lookL []) Try.func132 (by kernel_rfl) (by kernel_rfl)
    (Rq.free (by kernel_rfl))
    (Eq.mp (by kernel_rfl) H)

/-! #### loop.example/g01173/spec.l06Ok (function 58) -/
def spec_l06Ok.B9 (Post : Value → Heap → Prop) (N9 : (Addr × Int) → Heap → Prop) : Addr × Int → Heap → Prop
  | (x_0, i_4), h =>
    oL (cell h (Addr.add x_0 2)) fun l26b l26l l26c =>
    BIF ((decide (i_4 < (l26l : Int)))) (
    oL (cell h (Addr.add x_0 2)) fun l29b l29l l29c =>
    IDXS l29b i_4 l29l fun p30 =>
    oI .i64 (cell h ((Addr.add p30 ((Int.toNat i_4) * 2)))) fun n31 =>
    oL (cell h x_0) fun l32b l32l l32c =>
    CALL prg f_spec_l00In #[.int .i64 n31, .int .i64 (1 : Int), .int .i64 (l32l : Int)] (fun q35 h36 =>
    asB q35 fun b37 =>
    BIF (!b37) (
    Post (.bool false) h36) (
    oL (cell h36 (Addr.add x_0 2)) fun l38b l38l l38c =>
    IDXS l38b i_4 l38l fun p39 =>
    oF .f32 (cell h36 ((Addr.add ((Addr.add p39 ((Int.toNat i_4) * 2))) 1))) fun r40 =>
    CALL prg f_spec_l01Finite #[.float .f32 r40] (fun q41 h42 =>
    asB q41 fun b43 =>
    BIF (!b43) (
    Post (.bool false) h42) (
    N9 (x_0, ((IntKind.i64.wrap (i_4 + (1 : Int))))) h42)) h36)) h) (
    IDX (0 : Int) 4 <|
    oF .f32 (cell h (Addr.add x_0 41)) fun r44 =>
    IDX (1 : Int) 4 <|
    oF .f32 (cell h (Addr.add x_0 42)) fun r45 =>
    IDX (2 : Int) 4 <|
    oF .f32 (cell h (Addr.add x_0 43)) fun r46 =>
    IDX (3 : Int) 4 <|
    oF .f32 (cell h (Addr.add x_0 44)) fun r47 =>
    oF .f32 (cell h (Addr.add x_0 45)) fun r48 =>
    oF .f32 (cell h (Addr.add x_0 46)) fun r49 =>
    ALC ⟨[.float .f32 r44, .float .f32 r45, .float .f32 r46, .float .f32 r47, .float .f32 r48, .float .f32 r49]⟩ T_float32 (fun g50 h51 =>
    CALL prg f_spec_l04All #[.slice (some ⟨g50, 0, none⟩) 6 6] (fun q52 h53 =>
    asB q52 fun b54 =>
    Post (.bool b54) h53) h51) h)
def spec_l06Ok.g9 (fr : Frame) : Addr × Int := ((gP (lget fr 0)), (gI (lget fr 4)))
def spec_l06Ok.l9 (Post : Value → Heap → Prop) : Frame → Heap → Prop := fun fr h => GRD (shape (kds 130 [(0, .p), (4, .i .i64)]) fr) (LOOP (spec_l06Ok.B9 Post) (spec_l06Ok.g9 fr) h)
def spec_l06Ok.B4 (Post : Value → Heap → Prop) (N4 : (Addr × Int) → Heap → Prop) : Addr × Int → Heap → Prop
  | (x_0, i_3), h =>
    BIF ((decide (i_3 < (4 : Int)))) (
    IDX i_3 4 <|
    CALL prg f_spec_l02Ok #[.pointer (some ((Addr.add (Addr.add x_0 17) ((Int.toNat i_3) * 6))))] (fun q22 h23 =>
    asB q22 fun b24 =>
    BIF (!b24) (
    Post (.bool false) h23) (
    IDX i_3 4 <|
    oI .i64 (cell h23 ((Addr.add (Addr.add x_0 17) ((Int.toNat i_3) * 6)))) fun n25 =>
    BIF (n25 != (1 : Int)) (
    Post (.bool false) h23) (
    N4 (x_0, ((IntKind.i64.wrap (i_3 + (1 : Int))))) h23))) h) (
    LOOP (spec_l06Ok.B9 Post) (x_0, (0 : Int)) h)
def spec_l06Ok.g4 (fr : Frame) : Addr × Int := ((gP (lget fr 0)), (gI (lget fr 3)))
def spec_l06Ok.l4 (Post : Value → Heap → Prop) : Frame → Heap → Prop := fun fr h => GRD (shape (kds 130 [(0, .p), (3, .i .i64)]) fr) (LOOP (spec_l06Ok.B4 Post) (spec_l06Ok.g4 fr) h)
def spec_l06Ok.J3 (Post : Value → Heap → Prop) (x_0 : Addr) (h : Heap) : Prop :=
    LOOP (spec_l06Ok.B4 Post) (x_0, (0 : Int)) h
def spec_l06Ok.j3 (Post : Value → Heap → Prop) : Frame → Heap → Prop := fun fr h => GRD (shape (kds 130 [(0, .p)]) fr) (spec_l06Ok.J3 Post (gP (lget fr 0)) h)
def spec_l06Ok.S (x_0 : Addr) (Post : Value → Heap → Prop) (h : Heap) : Prop :=
    LDA 2 h x_0 fun a1 =>
    SIZ (Array.size a1) 2 <|
    ALC ⟨(splice 0 2 a1 [.slice none 0 0, .int .i64 (0 : Int)])⟩ T_impl_Ring (fun g2 h3 =>
    CALL prg f_spec_l04Rings #[.slice (some ⟨g2, 0, none⟩) 1 1] (fun q4 h5 =>
    asB q4 fun b6 =>
    BIF (!b6) (
    Post (.bool false) h5) (
    IDX (0 : Int) 2 <|
    CALL prg f_spec_l06Comb #[.pointer (some (Addr.add x_0 3))] (fun q7 h8 =>
    asB q7 fun b9 =>
    BIF (!b9) (
    Post (.bool false) h8) (
    IDX (1 : Int) 2 <|
    CALL prg f_spec_l06Comb #[.pointer (some (Addr.add x_0 6))] (fun q10 h11 =>
    asB q10 fun b12 =>
    BIF (!b12) (
    Post (.bool false) h11) (
    CALL prg f_spec_l06Loops #[.pointer (some x_0)] (fun q13 h14 =>
    asL q13 fun l15b l15l l15c =>
    CALL prg f_spec_l04Rings #[.slice l15b l15l l15c] (fun q16 h17 =>
    asB q16 fun b18 =>
    BIF (!b18) (
    Post (.bool false) h17) (
    oL (cell h17 (Addr.add x_0 2)) fun l19b l19l l19c =>
    BIF ((decide ((6 : Int) < (l19l : Int)))) (
    Post (.bool false) h17) (
    spec_l06Ok.J3 Post x_0 h17))) h14) h11)) h8)) h5)) h3) h
noncomputable def spec_l06Ok.code : Code := (Try.f58.body).getD .skip
theorem spec_l06Ok.call {x_0 : Addr} {Post : Value → Heap → Prop} {h : Heap} (H : spec_l06Ok.S x_0 Post h) : CALL prg f_spec_l06Ok #[.pointer (some x_0)] Post h :=
  fn_call tau_ok mixed (c := spec_l06Ok.code) (Λ := lookL [(3, spec_l06Ok.j3 Post), (1000004, spec_l06Ok.l4 Post), (1000009, spec_l06Ok.l9 Post)]) Try.func58 (by kernel_rfl) (by kernel_rfl)
    (Rq.seq (by kernel_rfl) (Rq.free (by kernel_rfl)) (Rq.seqJ (spec_l06Ok.j3 Post) (by kernel_rfl) (seg (fun _ _ => by kernel_rfl)) (Rq.free (by kernel_rfl))
(Rq.seq (by kernel_rfl) (Rq.seq (by kernel_rfl) (Rq.free (by kernel_rfl)) (Rq.block (Rq.loop (spec_l06Ok.l4 Post) (by kernel_rfl) (segL (g := spec_l06Ok.g4) tau_ok mixed (Λ := fun N4 => lookL []) (fun _ _ _ => by kernel_rfl) (fun N4 => (Rq.free (by kernel_rfl))))))) (Rq.seq (by kernel_rfl) (Rq.seq (by kernel_rfl) (Rq.free (by kernel_rfl)) (Rq.block (Rq.loop (spec_l06Ok.l9 Post) (by kernel_rfl) (segL (g := spec_l06Ok.g9) tau_ok mixed (Λ := fun N9 => lookL []) (fun _ _ _ => by kernel_rfl) (fun N9 => (Rq.free (by kernel_rfl))))))) (Rq.free (by kernel_rfl))))))
    (Eq.mp (by kernel_rfl) H)

/-! #### loop.example/g01173/spec.l06CopyComb (function 134) -/
def spec_l06CopyComb.S (c_0 : Addr) (Post : Value → Heap → Prop) (h : Heap) : Prop :=
    ALC ⟨Z_impl_Comb⟩ T_impl_Comb (fun g1 h2 =>
    oF .f32 (cell h2 (Addr.add c_0 2)) fun r3 =>
    CALL prg f_spec_l02Copy #[.pointer (some c_0)] (fun q4 h5 =>
    asA q4 fun a6 =>
    PIN h2 (Addr.add c_0 2) 1 h5 <|
    SIZ (Array.size a6) 2 <|
    STA 3 h5 ⟨g1, 0, none⟩ ⟨(List.set (splice 0 2 a6 [.slice none 0 0, .int .i64 (0 : Int), .float .f32 0]) 2 (.float .f32 r3))⟩ fun h7 =>
    LDA 3 h7 ⟨g1, 0, none⟩ fun a8 =>
    Post (.agg a8) h7) h2) h
noncomputable def spec_l06CopyComb.code : Code := (Try.f134.body).getD .skip
theorem spec_l06CopyComb.call {c_0 : Addr} {Post : Value → Heap → Prop} {h : Heap} (H : spec_l06CopyComb.S c_0 Post h) : CALL prg f_spec_l06CopyComb #[.pointer (some c_0)] Post h :=
  fn_call tau_ok mixed (c := spec_l06CopyComb.code) (Λ := lookL []) Try.func134 (by kernel_rfl) (by kernel_rfl)
    (Rq.free (by kernel_rfl))
    (Eq.mp (by kernel_rfl) H)

/-! #### loop.example/g01173/spec.l06Copy (function 61) -/
def spec_l06Copy.B5 (Post : Value → Heap → Prop) (N5 : (Addr × Addr × Addr × Int) → Heap → Prop) : Addr × Addr × Addr × Int → Heap → Prop
  | (x_0, t2, y_3, i_4), h =>
    BIF ((decide (i_4 < (4 : Int)))) (
    IDX i_4 4 <|
    CALL prg f_spec_l02Copy #[.pointer (some ((Addr.add (Addr.add x_0 9) ((Int.toNat i_4) * 2))))] (fun q87 h88 =>
    asA q87 fun a89 =>
    IDX i_4 4 <|
    STA 2 h88 ((Addr.add (Addr.add y_3 9) ((Int.toNat i_4) * 2))) a89 fun h90 =>
    N5 (x_0, t2, y_3, ((IntKind.i64.wrap (i_4 + (1 : Int))))) h90) h) (
    LDA 47 h y_3 fun a91 =>
    STA 47 h t2 a91 fun h92 =>
    LDA 47 h92 t2 fun a93 =>
    Post (.agg a93) h92)
def spec_l06Copy.g5 (fr : Frame) : Addr × Addr × Addr × Int := ((gP (lget fr 0)), (gP (lget fr 2)), (gP (lget fr 3)), (gI (lget fr 4)))
def spec_l06Copy.l5 (Post : Value → Heap → Prop) : Frame → Heap → Prop := fun fr h => GRD (shape (kds 60 [(0, .p), (2, .p), (3, .p), (4, .i .i64)]) fr) (LOOP (spec_l06Copy.B5 Post) (spec_l06Copy.g5 fr) h)
def spec_l06Copy.J2 (Post : Value → Heap → Prop) (x_0 : Addr) (t2 : Addr) (y_3 : Addr) (h : Heap) : Prop :=
    IDX (0 : Int) 2 <|
    CALL prg f_spec_l06CopyComb #[.pointer (some (Addr.add x_0 3))] (fun q79 h80 =>
    asA q79 fun a81 =>
    IDX (0 : Int) 2 <|
    STA 3 h80 (Addr.add y_3 3) a81 fun h82 =>
    IDX (1 : Int) 2 <|
    CALL prg f_spec_l06CopyComb #[.pointer (some (Addr.add x_0 6))] (fun q83 h84 =>
    asA q83 fun a85 =>
    IDX (1 : Int) 2 <|
    STA 3 h84 (Addr.add y_3 6) a85 fun h86 =>
    LOOP (spec_l06Copy.B5 Post) (x_0, t2, y_3, (0 : Int)) h86) h82) h
def spec_l06Copy.j2 (Post : Value → Heap → Prop) : Frame → Heap → Prop := fun fr h => GRD (shape (kds 60 [(0, .p), (2, .p), (3, .p)]) fr) (spec_l06Copy.J2 Post (gP (lget fr 0)) (gP (lget fr 2)) (gP (lget fr 3)) h)
def spec_l06Copy.S (x_0 : Addr) (Post : Value → Heap → Prop) (h : Heap) : Prop :=
    ALC ⟨Z_impl_Room⟩ T_impl_Room (fun g1 h2 =>
    oL (cell h2 (Addr.add x_0 2)) fun l3b l3l l3c =>
    LDA 24 h2 (Addr.add x_0 17) fun a4 =>
    LDA 4 h2 (Addr.add x_0 41) fun a5 =>
    oF .f32 (cell h2 (Addr.add x_0 45)) fun r6 =>
    oF .f32 (cell h2 (Addr.add x_0 46)) fun r7 =>
    (CALL prg f_spec_l02Copy #[.pointer (some x_0)] (fun q8 h9 =>
    asA q8 fun a10 =>
    PIN h2 (Addr.add x_0 46) 1 h9 <|
    PIN h2 (Addr.add x_0 45) 1 h9 <|
    PIN h2 (Addr.add x_0 41) 4 h9 <|
    PIN h2 (Addr.add x_0 17) 24 h9 <|
    PIN h2 (Addr.add x_0 2) 1 h9 <|
    (ALC ⟨[]⟩ T_impl_Tap (fun g11 h12 =>
    PIN h2 (Addr.add x_0 46) 1 h12 <|
    PIN h2 (Addr.add x_0 45) 1 h12 <|
    PIN h2 (Addr.add x_0 41) 4 h12 <|
    PIN h2 (Addr.add x_0 17) 24 h12 <|
    PIN h2 (Addr.add x_0 2) 1 h12 <|
    (SEMV prg (Builtin.append_ #[T_sl_impl_Tap, T_sl_impl_Tap] T_sl_impl_Tap #[.slice (some ⟨g11, 0, none⟩) 0 0, .slice l3b l3l l3c]) (fun q13 h14 =>
    asL q13 fun l15b l15l l15c =>
    PIN h2 (Addr.add x_0 46) 1 h14 <|
    PIN h2 (Addr.add x_0 45) 1 h14 <|
    PIN h2 (Addr.add x_0 41) 4 h14 <|
    PIN h2 (Addr.add x_0 17) 24 h14 <|
    SIZ (Array.size a10) 2 <|
    SIZ (Array.size a4) 24 <|
    SIZ (Array.size a5) 4 <|
    ALC ⟨Z_impl_Room⟩ T_impl_Room (fun g16 h17 =>
    PIN h2 (Addr.add x_0 46) 1 h17 <|
    PIN h2 (Addr.add x_0 45) 1 h17 <|
    PIN h2 (Addr.add x_0 41) 4 h17 <|
    PIN h2 (Addr.add x_0 17) 24 h17 <|
    PIN h2 (Addr.add x_0 2) 1 h17 <|
    STA 47 h17 ⟨g16, 0, none⟩ ⟨(List.set (List.set (splice 41 4 a5 (splice 17 24 a4 (List.set (splice 0 2 a10 [.slice none 0 0, .int .i64 (0 : Int), .slice none 0 0, .slice none 0 0, .int .i64 (0 : Int), .float .f32 0, .slice none 0 0, .int .i64 (0 : Int), .float .f32 0, .slice none 0 0, .int .i64 (0 : Int), .slice none 0 0, .int .i64 (0 : Int), .slice none 0 0, .int .i64 (0 : Int), .slice none 0 0, .int .i64 (0 : Int), .int .i64 (0 : Int), .float .f32 0, .float .f32 0, .float .f32 0, .float .f32 0, .float .f32 0, .int .i64 (0 : Int), .float .f32 0, .float .f32 0, .float .f32 0, .float .f32 0, .float .f32 0, .int .i64 (0 : Int), .float .f32 0, .float .f32 0, .float .f32 0, .float .f32 0, .float .f32 0, .int .i64 (0 : Int), .float .f32 0, .float .f32 0, .float .f32 0, .float .f32 0, .float .f32 0, .float .f32 0, .float .f32 0, .float .f32 0, .float .f32 0, .float .f32 0, .float .f32 0]) 2 (.slice l15b l15l l15c)))) 45 (.float .f32 r6)) 46 (.float .f32 r7))⟩ fun h18 =>
    spec_l06Copy.J2 Post x_0 ⟨g1, 0, none⟩ ⟨g16, 0, none⟩ h18) h14) h12) ∧ (ALC ⟨Z_impl_Room⟩ T_impl_Room (fun g19 h20 =>
    PIN h2 (Addr.add x_0 46) 1 h20 <|
    PIN h2 (Addr.add x_0 45) 1 h20 <|
    PIN h2 (Addr.add x_0 41) 4 h20 <|
    PIN h2 (Addr.add x_0 17) 24 h20 <|
    PIN h2 (Addr.add x_0 2) 1 h20 <|
    SEMV prg (Builtin.append_ #[T_sl_impl_Tap, T_sl_impl_Tap] T_sl_impl_Tap #[.slice (some ⟨g11, 0, none⟩) 0 0, .slice l3b l3l l3c]) (fun q21 h22 =>
    asL q21 fun l23b l23l l23c =>
    PIN h2 (Addr.add x_0 46) 1 h22 <|
    PIN h2 (Addr.add x_0 45) 1 h22 <|
    PIN h2 (Addr.add x_0 41) 4 h22 <|
    PIN h2 (Addr.add x_0 17) 24 h22 <|
    SIZ (Array.size a10) 2 <|
    SIZ (Array.size a4) 24 <|
    SIZ (Array.size a5) 4 <|
    STA 47 h22 ⟨g19, 0, none⟩ ⟨(List.set (List.set (splice 41 4 a5 (splice 17 24 a4 (List.set (splice 0 2 a10 [.slice none 0 0, .int .i64 (0 : Int), .slice none 0 0, .slice none 0 0, .int .i64 (0 : Int), .float .f32 0, .slice none 0 0, .int .i64 (0 : Int), .float .f32 0, .slice none 0 0, .int .i64 (0 : Int), .slice none 0 0, .int .i64 (0 : Int), .slice none 0 0, .int .i64 (0 : Int), .slice none 0 0, .int .i64 (0 : Int), .int .i64 (0 : Int), .float .f32 0, .float .f32 0, .float .f32 0, .float .f32 0, .float .f32 0, .int .i64 (0 : Int), .float .f32 0, .float .f32 0, .float .f32 0, .float .f32 0, .float .f32 0, .int .i64 (0 : Int), .float .f32 0, .float .f32 0, .float .f32 0, .float .f32 0, .float .f32 0, .int .i64 (0 : Int), .float .f32 0, .float .f32 0, .float .f32 0, .float .f32 0, .float .f32 0, .float .f32 0, .float .f32 0, .float .f32 0, .float .f32 0, .float .f32 0, .float .f32 0]) 2 (.slice l23b l23l l23c)))) 45 (.float .f32 r6)) 46 (.float .f32 r7))⟩ fun h24 =>
    spec_l06Copy.J2 Post x_0 ⟨g1, 0, none⟩ ⟨g19, 0, none⟩ h24) h20) h12)) h9) ∧ (ALC ⟨Z_impl_Room⟩ T_impl_Room (fun g25 h26 =>
    PIN h2 (Addr.add x_0 46) 1 h26 <|
    PIN h2 (Addr.add x_0 45) 1 h26 <|
    PIN h2 (Addr.add x_0 41) 4 h26 <|
    PIN h2 (Addr.add x_0 17) 24 h26 <|
    PIN h2 (Addr.add x_0 2) 1 h26 <|
    ALC ⟨[]⟩ T_impl_Tap (fun g27 h28 =>
    PIN h2 (Addr.add x_0 46) 1 h28 <|
    PIN h2 (Addr.add x_0 45) 1 h28 <|
    PIN h2 (Addr.add x_0 41) 4 h28 <|
    PIN h2 (Addr.add x_0 17) 24 h28 <|
    PIN h2 (Addr.add x_0 2) 1 h28 <|
    SEMV prg (Builtin.append_ #[T_sl_impl_Tap, T_sl_impl_Tap] T_sl_impl_Tap #[.slice (some ⟨g27, 0, none⟩) 0 0, .slice l3b l3l l3c]) (fun q29 h30 =>
    asL q29 fun l31b l31l l31c =>
    PIN h2 (Addr.add x_0 46) 1 h30 <|
    PIN h2 (Addr.add x_0 45) 1 h30 <|
    PIN h2 (Addr.add x_0 41) 4 h30 <|
    PIN h2 (Addr.add x_0 17) 24 h30 <|
    SIZ (Array.size a10) 2 <|
    SIZ (Array.size a4) 24 <|
    SIZ (Array.size a5) 4 <|
    STA 47 h30 ⟨g25, 0, none⟩ ⟨(List.set (List.set (splice 41 4 a5 (splice 17 24 a4 (List.set (splice 0 2 a10 [.slice none 0 0, .int .i64 (0 : Int), .slice none 0 0, .slice none 0 0, .int .i64 (0 : Int), .float .f32 0, .slice none 0 0, .int .i64 (0 : Int), .float .f32 0, .slice none 0 0, .int .i64 (0 : Int), .slice none 0 0, .int .i64 (0 : Int), .slice none 0 0, .int .i64 (0 : Int), .slice none 0 0, .int .i64 (0 : Int), .int .i64 (0 : Int), .float .f32 0, .float .f32 0, .float .f32 0, .float .f32 0, .float .f32 0, .int .i64 (0 : Int), .float .f32 0, .float .f32 0, .float .f32 0, .float .f32 0, .float .f32 0, .int .i64 (0 : Int), .float .f32 0, .float .f32 0, .float .f32 0, .float .f32 0, .float .f32 0, .int .i64 (0 : Int), .float .f32 0, .float .f32 0, .float .f32 0, .float .f32 0, .float .f32 0, .float .f32 0, .float .f32 0, .float .f32 0, .float .f32 0, .float .f32 0, .float .f32 0]) 2 (.slice l31b l31l l31c)))) 45 (.float .f32 r6)) 46 (.float .f32 r7))⟩ fun h32 =>
    spec_l06Copy.J2 Post x_0 ⟨g1, 0, none⟩ ⟨g25, 0, none⟩ h32) h28) h26) h9)) h2) ∧ ((ALC ⟨[]⟩ T_impl_Tap (fun g33 h34 =>
    PIN h2 (Addr.add x_0 46) 1 h34 <|
    PIN h2 (Addr.add x_0 45) 1 h34 <|
    PIN h2 (Addr.add x_0 41) 4 h34 <|
    PIN h2 (Addr.add x_0 17) 24 h34 <|
    PIN h2 (Addr.add x_0 2) 1 h34 <|
    (CALL prg f_spec_l02Copy #[.pointer (some x_0)] (fun q35 h36 =>
    asA q35 fun a37 =>
    PIN h2 (Addr.add x_0 46) 1 h36 <|
    PIN h2 (Addr.add x_0 45) 1 h36 <|
    PIN h2 (Addr.add x_0 41) 4 h36 <|
    PIN h2 (Addr.add x_0 17) 24 h36 <|
    PIN h2 (Addr.add x_0 2) 1 h36 <|
    (SEMV prg (Builtin.append_ #[T_sl_impl_Tap, T_sl_impl_Tap] T_sl_impl_Tap #[.slice (some ⟨g33, 0, none⟩) 0 0, .slice l3b l3l l3c]) (fun q38 h39 =>
    asL q38 fun l40b l40l l40c =>
    PIN h2 (Addr.add x_0 46) 1 h39 <|
    PIN h2 (Addr.add x_0 45) 1 h39 <|
    PIN h2 (Addr.add x_0 41) 4 h39 <|
    PIN h2 (Addr.add x_0 17) 24 h39 <|
    SIZ (Array.size a37) 2 <|
    SIZ (Array.size a4) 24 <|
    SIZ (Array.size a5) 4 <|
    ALC ⟨Z_impl_Room⟩ T_impl_Room (fun g41 h42 =>
    PIN h2 (Addr.add x_0 46) 1 h42 <|
    PIN h2 (Addr.add x_0 45) 1 h42 <|
    PIN h2 (Addr.add x_0 41) 4 h42 <|
    PIN h2 (Addr.add x_0 17) 24 h42 <|
    PIN h2 (Addr.add x_0 2) 1 h42 <|
    STA 47 h42 ⟨g41, 0, none⟩ ⟨(List.set (List.set (splice 41 4 a5 (splice 17 24 a4 (List.set (splice 0 2 a37 [.slice none 0 0, .int .i64 (0 : Int), .slice none 0 0, .slice none 0 0, .int .i64 (0 : Int), .float .f32 0, .slice none 0 0, .int .i64 (0 : Int), .float .f32 0, .slice none 0 0, .int .i64 (0 : Int), .slice none 0 0, .int .i64 (0 : Int), .slice none 0 0, .int .i64 (0 : Int), .slice none 0 0, .int .i64 (0 : Int), .int .i64 (0 : Int), .float .f32 0, .float .f32 0, .float .f32 0, .float .f32 0, .float .f32 0, .int .i64 (0 : Int), .float .f32 0, .float .f32 0, .float .f32 0, .float .f32 0, .float .f32 0, .int .i64 (0 : Int), .float .f32 0, .float .f32 0, .float .f32 0, .float .f32 0, .float .f32 0, .int .i64 (0 : Int), .float .f32 0, .float .f32 0, .float .f32 0, .float .f32 0, .float .f32 0, .float .f32 0, .float .f32 0, .float .f32 0, .float .f32 0, .float .f32 0, .float .f32 0]) 2 (.slice l40b l40l l40c)))) 45 (.float .f32 r6)) 46 (.float .f32 r7))⟩ fun h43 =>
    spec_l06Copy.J2 Post x_0 ⟨g1, 0, none⟩ ⟨g41, 0, none⟩ h43) h39) h36) ∧ (ALC ⟨Z_impl_Room⟩ T_impl_Room (fun g44 h45 =>
    PIN h2 (Addr.add x_0 46) 1 h45 <|
    PIN h2 (Addr.add x_0 45) 1 h45 <|
    PIN h2 (Addr.add x_0 41) 4 h45 <|
    PIN h2 (Addr.add x_0 17) 24 h45 <|
    PIN h2 (Addr.add x_0 2) 1 h45 <|
    SEMV prg (Builtin.append_ #[T_sl_impl_Tap, T_sl_impl_Tap] T_sl_impl_Tap #[.slice (some ⟨g33, 0, none⟩) 0 0, .slice l3b l3l l3c]) (fun q46 h47 =>
    asL q46 fun l48b l48l l48c =>
    PIN h2 (Addr.add x_0 46) 1 h47 <|
    PIN h2 (Addr.add x_0 45) 1 h47 <|
    PIN h2 (Addr.add x_0 41) 4 h47 <|
    PIN h2 (Addr.add x_0 17) 24 h47 <|
    SIZ (Array.size a37) 2 <|
    SIZ (Array.size a4) 24 <|
    SIZ (Array.size a5) 4 <|
    STA 47 h47 ⟨g44, 0, none⟩ ⟨(List.set (List.set (splice 41 4 a5 (splice 17 24 a4 (List.set (splice 0 2 a37 [.slice none 0 0, .int .i64 (0 : Int), .slice none 0 0, .slice none 0 0, .int .i64 (0 : Int), .float .f32 0, .slice none 0 0, .int .i64 (0 : Int), .float .f32 0, .slice none 0 0, .int .i64 (0 : Int), .slice none 0 0, .int .i64 (0 : Int), .slice none 0 0, .int .i64 (0 : Int), .slice none 0 0, .int .i64 (0 : Int), .int .i64 (0 : Int), .float .f32 0, .float .f32 0, .float .f32 0, .float .f32 0, .float .f32 0, .int .i64 (0 : Int), .float .f32 0, .float .f32 0, .float .f32 0, .float .f32 0, .float .f32 0, .int .i64 (0 : Int), .float .f32 0, .float .f32 0, .float .f32 0, .float .f32 0, .float .f32 0, .int .i64 (0 : Int), .float .f32 0, .float .f32 0, .float .f32 0, .float .f32 0, .float .f32 0, .float .f32 0, .float .f32 0, .float .f32 0, .float .f32 0, .float .f32 0, .float .f32 0]) 2 (.slice l48b l48l l48c)))) 45 (.float .f32 r6)) 46 (.float .f32 r7))⟩ fun h49 =>
    spec_l06Copy.J2 Post x_0 ⟨g1, 0, none⟩ ⟨g44, 0, none⟩ h49) h45) h36)) h34) ∧ (ALC ⟨Z_impl_Room⟩ T_impl_Room (fun g50 h51 =>
    PIN h2 (Addr.add x_0 46) 1 h51 <|
    PIN h2 (Addr.add x_0 45) 1 h51 <|
    PIN h2 (Addr.add x_0 41) 4 h51 <|
    PIN h2 (Addr.add x_0 17) 24 h51 <|
    PIN h2 (Addr.add x_0 2) 1 h51 <|
    CALL prg f_spec_l02Copy #[.pointer (some x_0)] (fun q52 h53 =>
    asA q52 fun a54 =>
    PIN h2 (Addr.add x_0 46) 1 h53 <|
    PIN h2 (Addr.add x_0 45) 1 h53 <|
    PIN h2 (Addr.add x_0 41) 4 h53 <|
    PIN h2 (Addr.add x_0 17) 24 h53 <|
    PIN h2 (Addr.add x_0 2) 1 h53 <|
    SEMV prg (Builtin.append_ #[T_sl_impl_Tap, T_sl_impl_Tap] T_sl_impl_Tap #[.slice (some ⟨g33, 0, none⟩) 0 0, .slice l3b l3l l3c]) (fun q55 h56 =>
    asL q55 fun l57b l57l l57c =>
    PIN h2 (Addr.add x_0 46) 1 h56 <|
    PIN h2 (Addr.add x_0 45) 1 h56 <|
    PIN h2 (Addr.add x_0 41) 4 h56 <|
    PIN h2 (Addr.add x_0 17) 24 h56 <|
    SIZ (Array.size a54) 2 <|
    SIZ (Array.size a4) 24 <|
    SIZ (Array.size a5) 4 <|
    STA 47 h56 ⟨g50, 0, none⟩ ⟨(List.set (List.set (splice 41 4 a5 (splice 17 24 a4 (List.set (splice 0 2 a54 [.slice none 0 0, .int .i64 (0 : Int), .slice none 0 0, .slice none 0 0, .int .i64 (0 : Int), .float .f32 0, .slice none 0 0, .int .i64 (0 : Int), .float .f32 0, .slice none 0 0, .int .i64 (0 : Int), .slice none 0 0, .int .i64 (0 : Int), .slice none 0 0, .int .i64 (0 : Int), .slice none 0 0, .int .i64 (0 : Int), .int .i64 (0 : Int), .float .f32 0, .float .f32 0, .float .f32 0, .float .f32 0, .float .f32 0, .int .i64 (0 : Int), .float .f32 0, .float .f32 0, .float .f32 0, .float .f32 0, .float .f32 0, .int .i64 (0 : Int), .float .f32 0, .float .f32 0, .float .f32 0, .float .f32 0, .float .f32 0, .int .i64 (0 : Int), .float .f32 0, .float .f32 0, .float .f32 0, .float .f32 0, .float .f32 0, .float .f32 0, .float .f32 0, .float .f32 0, .float .f32 0, .float .f32 0, .float .f32 0]) 2 (.slice l57b l57l l57c)))) 45 (.float .f32 r6)) 46 (.float .f32 r7))⟩ fun h58 =>
    spec_l06Copy.J2 Post x_0 ⟨g1, 0, none⟩ ⟨g50, 0, none⟩ h58) h53) h51) h34)) h2) ∧ (ALC ⟨Z_impl_Room⟩ T_impl_Room (fun g59 h60 =>
    PIN h2 (Addr.add x_0 46) 1 h60 <|
    PIN h2 (Addr.add x_0 45) 1 h60 <|
    PIN h2 (Addr.add x_0 41) 4 h60 <|
    PIN h2 (Addr.add x_0 17) 24 h60 <|
    PIN h2 (Addr.add x_0 2) 1 h60 <|
    (CALL prg f_spec_l02Copy #[.pointer (some x_0)] (fun q61 h62 =>
    asA q61 fun a63 =>
    PIN h2 (Addr.add x_0 46) 1 h62 <|
    PIN h2 (Addr.add x_0 45) 1 h62 <|
    PIN h2 (Addr.add x_0 41) 4 h62 <|
    PIN h2 (Addr.add x_0 17) 24 h62 <|
    PIN h2 (Addr.add x_0 2) 1 h62 <|
    ALC ⟨[]⟩ T_impl_Tap (fun g64 h65 =>
    PIN h2 (Addr.add x_0 46) 1 h65 <|
    PIN h2 (Addr.add x_0 45) 1 h65 <|
    PIN h2 (Addr.add x_0 41) 4 h65 <|
    PIN h2 (Addr.add x_0 17) 24 h65 <|
    PIN h2 (Addr.add x_0 2) 1 h65 <|
    SEMV prg (Builtin.append_ #[T_sl_impl_Tap, T_sl_impl_Tap] T_sl_impl_Tap #[.slice (some ⟨g64, 0, none⟩) 0 0, .slice l3b l3l l3c]) (fun q66 h67 =>
    asL q66 fun l68b l68l l68c =>
    PIN h2 (Addr.add x_0 46) 1 h67 <|
    PIN h2 (Addr.add x_0 45) 1 h67 <|
    PIN h2 (Addr.add x_0 41) 4 h67 <|
    PIN h2 (Addr.add x_0 17) 24 h67 <|
    SIZ (Array.size a63) 2 <|
    SIZ (Array.size a4) 24 <|
    SIZ (Array.size a5) 4 <|
    STA 47 h67 ⟨g59, 0, none⟩ ⟨(List.set (List.set (splice 41 4 a5 (splice 17 24 a4 (List.set (splice 0 2 a63 [.slice none 0 0, .int .i64 (0 : Int), .slice none 0 0, .slice none 0 0, .int .i64 (0 : Int), .float .f32 0, .slice none 0 0, .int .i64 (0 : Int), .float .f32 0, .slice none 0 0, .int .i64 (0 : Int), .slice none 0 0, .int .i64 (0 : Int), .slice none 0 0, .int .i64 (0 : Int), .slice none 0 0, .int .i64 (0 : Int), .int .i64 (0 : Int), .float .f32 0, .float .f32 0, .float .f32 0, .float .f32 0, .float .f32 0, .int .i64 (0 : Int), .float .f32 0, .float .f32 0, .float .f32 0, .float .f32 0, .float .f32 0, .int .i64 (0 : Int), .float .f32 0, .float .f32 0, .float .f32 0, .float .f32 0, .float .f32 0, .int .i64 (0 : Int), .float .f32 0, .float .f32 0, .float .f32 0, .float .f32 0, .float .f32 0, .float .f32 0, .float .f32 0, .float .f32 0, .float .f32 0, .float .f32 0, .float .f32 0]) 2 (.slice l68b l68l l68c)))) 45 (.float .f32 r6)) 46 (.float .f32 r7))⟩ fun h69 =>
    spec_l06Copy.J2 Post x_0 ⟨g1, 0, none⟩ ⟨g59, 0, none⟩ h69) h65) h62) h60) ∧ (ALC ⟨[]⟩ T_impl_Tap (fun g70 h71 =>
    PIN h2 (Addr.add x_0 46) 1 h71 <|
    PIN h2 (Addr.add x_0 45) 1 h71 <|
    PIN h2 (Addr.add x_0 41) 4 h71 <|
    PIN h2 (Addr.add x_0 17) 24 h71 <|
    PIN h2 (Addr.add x_0 2) 1 h71 <|
    CALL prg f_spec_l02Copy #[.pointer (some x_0)] (fun q72 h73 =>
    asA q72 fun a74 =>
    PIN h2 (Addr.add x_0 46) 1 h73 <|
    PIN h2 (Addr.add x_0 45) 1 h73 <|
    PIN h2 (Addr.add x_0 41) 4 h73 <|
    PIN h2 (Addr.add x_0 17) 24 h73 <|
    PIN h2 (Addr.add x_0 2) 1 h73 <|
    SEMV prg (Builtin.append_ #[T_sl_impl_Tap, T_sl_impl_Tap] T_sl_impl_Tap #[.slice (some ⟨g70, 0, none⟩) 0 0, .slice l3b l3l l3c]) (fun q75 h76 =>
    asL q75 fun l77b l77l l77c =>
    PIN h2 (Addr.add x_0 46) 1 h76 <|
    PIN h2 (Addr.add x_0 45) 1 h76 <|
    PIN h2 (Addr.add x_0 41) 4 h76 <|
    PIN h2 (Addr.add x_0 17) 24 h76 <|
    SIZ (Array.size a74) 2 <|
    SIZ (Array.size a4) 24 <|
    SIZ (Array.size a5) 4 <|
    STA 47 h76 ⟨g59, 0, none⟩ ⟨(List.set (List.set (splice 41 4 a5 (splice 17 24 a4 (List.set (splice 0 2 a74 [.slice none 0 0, .int .i64 (0 : Int), .slice none 0 0, .slice none 0 0, .int .i64 (0 : Int), .float .f32 0, .slice none 0 0, .int .i64 (0 : Int), .float .f32 0, .slice none 0 0, .int .i64 (0 : Int), .slice none 0 0, .int .i64 (0 : Int), .slice none 0 0, .int .i64 (0 : Int), .slice none 0 0, .int .i64 (0 : Int), .int .i64 (0 : Int), .float .f32 0, .float .f32 0, .float .f32 0, .float .f32 0, .float .f32 0, .int .i64 (0 : Int), .float .f32 0, .float .f32 0, .float .f32 0, .float .f32 0, .float .f32 0, .int .i64 (0 : Int), .float .f32 0, .float .f32 0, .float .f32 0, .float .f32 0, .float .f32 0, .int .i64 (0 : Int), .float .f32 0, .float .f32 0, .float .f32 0, .float .f32 0, .float .f32 0, .float .f32 0, .float .f32 0, .float .f32 0, .float .f32 0, .float .f32 0, .float .f32 0]) 2 (.slice l77b l77l l77c)))) 45 (.float .f32 r6)) 46 (.float .f32 r7))⟩ fun h78 =>
    spec_l06Copy.J2 Post x_0 ⟨g1, 0, none⟩ ⟨g59, 0, none⟩ h78) h73) h71) h60)) h2))) h
noncomputable def spec_l06Copy.code : Code := (Try.f61.body).getD .skip
theorem spec_l06Copy.call {x_0 : Addr} {Post : Value → Heap → Prop} {h : Heap} (H : spec_l06Copy.S x_0 Post h) : CALL prg f_spec_l06Copy #[.pointer (some x_0)] Post h :=
  fn_call tau_ok mixed (c := spec_l06Copy.code) (Λ := lookL [(2, spec_l06Copy.j2 Post), (1000005, spec_l06Copy.l5 Post)]) Try.func61 (by kernel_rfl) (by kernel_rfl)
    (Rq.seq (by kernel_rfl) (Rq.free (by kernel_rfl)) (Rq.seqJ (spec_l06Copy.j2 Post) (by kernel_rfl) (seg (fun _ _ => by kernel_rfl)) (Rq.free (by kernel_rfl))
(Rq.seq (by kernel_rfl) (Rq.free (by kernel_rfl)) (Rq.seq (by kernel_rfl) (Rq.free (by kernel_rfl)) (Rq.seq (by kernel_rfl) (Rq.seq (by kernel_rfl) (Rq.free (by kernel_rfl)) (Rq.block (Rq.loop (spec_l06Copy.l5 Post) (by kernel_rfl) (segL (g := spec_l06Copy.g5) tau_ok mixed (Λ := fun N5 => lookL []) (fun _ _ _ => by kernel_rfl) (fun N5 => (Rq.free (by kernel_rfl))))))) (Rq.free (by kernel_rfl)))))))
    (Eq.mp (by kernel_rfl) H)

/-! #### loop.example/g01173/spec.l06Silence (function 62) -/
def spec_l06Silence.S (n_0 : Int) (Post : Value → Heap → Prop) (h : Heap) : Prop :=
    ALC ⟨Z_impl_Ring⟩ T_impl_Ring (fun g1 h2 =>
    MKS ti_float32 T_float32 n_0 n_0 (fun g3 h4 =>
    STA 2 h4 ⟨g1, 0, none⟩ (⟨[.slice (some ⟨g3, 0, none⟩) (Int.toNat n_0) (Int.toNat n_0), .int .i64 (0 : Int)]⟩ : Array Value) fun h5 =>
    LDA 2 h5 ⟨g1, 0, none⟩ fun a6 =>
    Post (.agg a6) h5) h2) h
noncomputable def spec_l06Silence.code : Code := (Try.f62.body).getD .skip
theorem spec_l06Silence.call {n_0 : Int} {Post : Value → Heap → Prop} {h : Heap} (H : spec_l06Silence.S n_0 Post h) : CALL prg f_spec_l06Silence #[.int .i64 n_0] Post h :=
  fn_call tau_ok mixed (c := spec_l06Silence.code) (Λ := lookL []) Try.func62 (by kernel_rfl) (by kernel_rfl)
    (Rq.free (by kernel_rfl))
    (Eq.mp (by kernel_rfl) H)

/-! #### loop.example/g01173/spec.l05Muted (function 90) -/
def spec_l05Muted.S (r_0 : Addr) (Post : Value → Heap → Prop) (h : Heap) : Prop :=
    ALC ⟨Z_impl_Ring⟩ T_impl_Ring (fun g1 h2 =>
    oL (cell h2 r_0) fun l3b l3l l3c =>
    oI .i64 (cell h2 (Addr.add r_0 1)) fun n6 =>
    MKS ti_float32 T_float32 (l3l : Int) (l3l : Int) (fun g7 h8 =>
    PIN h2 (Addr.add r_0 1) 1 h8 <|
    STA 2 h8 ⟨g1, 0, none⟩ (⟨[.slice (some ⟨g7, 0, none⟩) l3l l3l, .int .i64 n6]⟩ : Array Value) fun h9 =>
    LDA 2 h9 ⟨g1, 0, none⟩ fun a10 =>
    Post (.agg a10) h9) h2) h
noncomputable def spec_l05Muted.code : Code := (Try.f90.body).getD .skip
theorem spec_l05Muted.call {r_0 : Addr} {Post : Value → Heap → Prop} {h : Heap} (H : spec_l05Muted.S r_0 Post h) : CALL prg f_spec_l05Muted #[.pointer (some r_0)] Post h :=
  fn_call tau_ok mixed (c := spec_l05Muted.code) (Λ := lookL []) Try.func90 (by kernel_rfl) (by kernel_rfl)
    (Rq.free (by kernel_rfl))
    (Eq.mp (by kernel_rfl) H)

/-! #### loop.example/g01173/impl.ValidComb (function 136) -/
def impl_ValidComb.S (c_0 : Array Value) (Post : Value → Heap → Prop) (h : Heap) : Prop :=
    ALC c_0 T_impl_Comb (fun g1 h2 =>
    LDA 2 h2 ⟨g1, 0, none⟩ fun a3 =>
    CALL prg f_impl_isRing #[.agg a3] (fun q4 h5 =>
    asB q4 fun b6 =>
    BIF b6 (
    oF .f32 (cell h5 ⟨g1, 2, none⟩) fun r7 =>
    CALL prg f_impl_isFinite #[.float .f32 r7] (fun q8 h9 =>
    asB q8 fun b10 =>
    Post (.bool b10) h9) h5) (
    Post (.bool false) h5)) h2) h
noncomputable def impl_ValidComb.code : Code := (Try.f136.body).getD .skip
theorem impl_ValidComb.call {c_0 : Array Value} {Post : Value → Heap → Prop} {h : Heap} (H : impl_ValidComb.S c_0 Post h) : CALL prg f_impl_ValidComb #[.agg c_0] Post h :=
  fn_call tau_ok mixed (c := impl_ValidComb.code) (Λ := lookL []) Try.func136 (by kernel_rfl) (by kernel_rfl)
    (Rq.free (by kernel_rfl))
    (Eq.mp (by kernel_rfl) H)

/-! #### loop.example/g01173/impl.isTap (function 73) -/
def impl_isTap.S (t_0 : Array Value) (length_1 : Int) (Post : Value → Heap → Prop) (h : Heap) : Prop :=
    ALC t_0 T_impl_Tap (fun g1 h2 =>
    oI .i64 (cell h2 ⟨g1, 0, none⟩) fun n3 =>
    CALL prg f_impl_within #[.int .i64 n3, .int .i64 (1 : Int), .int .i64 length_1] (fun q4 h5 =>
    asB q4 fun b6 =>
    BIF b6 (
    oF .f32 (cell h5 ⟨g1, 1, none⟩) fun r7 =>
    CALL prg f_impl_isFinite #[.float .f32 r7] (fun q8 h9 =>
    asB q8 fun b10 =>
    Post (.bool b10) h9) h5) (
    Post (.bool false) h5)) h2) h
noncomputable def impl_isTap.code : Code := (Try.f73.body).getD .skip
theorem impl_isTap.call {t_0 : Array Value} {length_1 : Int} {Post : Value → Heap → Prop} {h : Heap} (H : impl_isTap.S t_0 length_1 Post h) : CALL prg f_impl_isTap #[.agg t_0, .int .i64 length_1] Post h :=
  fn_call tau_ok mixed (c := impl_isTap.code) (Λ := lookL []) Try.func73 (by kernel_rfl) (by kernel_rfl)
    (Rq.free (by kernel_rfl))
    (Eq.mp (by kernel_rfl) H)

/-! #### loop.example/g01173/impl.ValidRoom$1 (function 137) -/
def impl_ValidRoom_c1.S (t_0 : Array Value) (t1 : Addr) (Post : Value → Heap → Prop) (h : Heap) : Prop :=
    ALC t_0 T_impl_Tap (fun g1 h2 =>
    LDA 2 h2 ⟨g1, 0, none⟩ fun a3 =>
    oL (cell h2 t1) fun l4b l4l l4c =>
    CALL prg f_impl_length_float32 #[.slice l4b l4l l4c] (fun q5 h6 =>
    asI .i64 q5 fun n7 =>
    PIN h2 ⟨g1, 0, none⟩ 2 h6 <|
    CALL prg f_impl_isTap #[.agg a3, .int .i64 n7] (fun q8 h9 =>
    asB q8 fun b10 =>
    Post (.bool (!b10)) h9) h6) h2) h
noncomputable def impl_ValidRoom_c1.code : Code := (Try.f137.body).getD .skip
theorem impl_ValidRoom_c1.call {t_0 : Array Value} {t1 : Addr} {Post : Value → Heap → Prop} {h : Heap} (H : impl_ValidRoom_c1.S t_0 t1 Post h) : CALL prg f_impl_ValidRoom_c1 #[.agg t_0, .pointer (some t1)] Post h :=
  fn_call tau_ok mixed (c := impl_ValidRoom_c1.code) (Λ := lookL []) Try.func137 (by kernel_rfl) (by kernel_rfl)
    (Rq.free (by kernel_rfl))
    (Eq.mp (by kernel_rfl) H)

/-! #### slices.IndexFunc[[]loop.example/g01173/impl.Tap,loop.example/g01173/impl.Tap] (function 139) -/
def slices_IndexFunc_sl_impl_Tap_impl_Tap.B2 (Post : Value → Heap → Prop) (N2 : (Option Addr × Nat × Nat × Value × Int × Int) → Heap → Prop) : Option Addr × Nat × Nat × Value × Int × Int → Heap → Prop
  | (s_0b, s_0l, s_0c, f_1, t7, t8), h =>
    BIF (decide (t8 < t7)) (
    IDXS s_0b t8 s_0l fun p3 =>
    LDA 2 h ((Addr.add p3 ((Int.toNat t8) * 2))) fun a4 =>
    CALLD prg f_1 #[.agg a4] (fun q5 h6 =>
    asB q5 fun b7 =>
    BIF b7 (
    Post (.int .i64 t8) h6) (
    N2 (s_0b, s_0l, s_0c, f_1, t7, ((IntKind.i64.wrap (t8 + (1 : Int))))) h6)) h) (
    Post (.int .i64 (-1 : Int)) h)
def slices_IndexFunc_sl_impl_Tap_impl_Tap.g2 (fr : Frame) : Option Addr × Nat × Nat × Value × Int × Int := ((gLb (lget fr 0)), (gLl (lget fr 0)), (gLc (lget fr 0)), (lget fr 1), (gI (lget fr 7)), (gI (lget fr 8)))
def slices_IndexFunc_sl_impl_Tap_impl_Tap.l2 (Post : Value → Heap → Prop) : Frame → Heap → Prop := fun fr h => GRD (shape (kds 19 [(0, .l), (1, .v), (7, .i .i64), (8, .i .i64)]) fr) (LOOP (slices_IndexFunc_sl_impl_Tap_impl_Tap.B2 Post) (slices_IndexFunc_sl_impl_Tap_impl_Tap.g2 fr) h)
def slices_IndexFunc_sl_impl_Tap_impl_Tap.S (s_0b : Option Addr) (s_0l s_0c : Nat) (f_1 : Value) (Post : Value → Heap → Prop) (h : Heap) : Prop :=
    LOOP (slices_IndexFunc_sl_impl_Tap_impl_Tap.B2 Post) (s_0b, s_0l, s_0c, f_1, (s_0l : Int), (0 : Int)) h
noncomputable def slices_IndexFunc_sl_impl_Tap_impl_Tap.code : Code := (Try.f139.body).getD .skip
theorem slices_IndexFunc_sl_impl_Tap_impl_Tap.call {s_0b : Option Addr} {s_0l s_0c : Nat} {f_1 : Value} {Post : Value → Heap → Prop} {h : Heap} (H : slices_IndexFunc_sl_impl_Tap_impl_Tap.S s_0b s_0l s_0c f_1 Post h) : CALL prg f_slices_IndexFunc_sl_impl_Tap_impl_Tap #[.slice s_0b s_0l s_0c, f_1] Post h :=
  fn_call tau_ok mixed (c := slices_IndexFunc_sl_impl_Tap_impl_Tap.code) (Λ := lookL [(1000002, slices_IndexFunc_sl_impl_Tap_impl_Tap.l2 Post)]) Try.func139 (by kernel_rfl) (by kernel_rfl)
    (Rq.seq (by kernel_rfl) (Rq.free (by kernel_rfl)) (Rq.seq (by kernel_rfl) (Rq.seq (by kernel_rfl) (Rq.free (by kernel_rfl)) (Rq.block (Rq.loop (slices_IndexFunc_sl_impl_Tap_impl_Tap.l2 Post) (by kernel_rfl) (segL (g := slices_IndexFunc_sl_impl_Tap_impl_Tap.g2) tau_ok mixed (Λ := fun N2 => lookL []) (fun _ _ _ => by kernel_rfl) (fun N2 => (Rq.free (by kernel_rfl))))))) (Rq.free (by kernel_rfl))))
    (Eq.mp (by kernel_rfl) H)

/-! #### slices.ContainsFunc[[]loop.example/g01173/impl.Tap,loop.example/g01173/impl.Tap] (function 71) -/
def slices_ContainsFunc_sl_impl_Tap_impl_Tap.S (s_0b : Option Addr) (s_0l s_0c : Nat) (f_1 : Value) (Post : Value → Heap → Prop) (h : Heap) : Prop :=
    CALL prg f_slices_IndexFunc_sl_impl_Tap_impl_Tap #[.slice s_0b s_0l s_0c, f_1] (fun q1 h2 =>
    asI .i64 q1 fun n3 =>
    Post (.bool ((decide ((0 : Int) ≤ n3)))) h2) h
noncomputable def slices_ContainsFunc_sl_impl_Tap_impl_Tap.code : Code := (Try.f71.body).getD .skip
theorem slices_ContainsFunc_sl_impl_Tap_impl_Tap.call {s_0b : Option Addr} {s_0l s_0c : Nat} {f_1 : Value} {Post : Value → Heap → Prop} {h : Heap} (H : slices_ContainsFunc_sl_impl_Tap_impl_Tap.S s_0b s_0l s_0c f_1 Post h) : CALL prg f_slices_ContainsFunc_sl_impl_Tap_impl_Tap #[.slice s_0b s_0l s_0c, f_1] Post h :=
  fn_call tau_ok mixed (c := slices_ContainsFunc_sl_impl_Tap_impl_Tap.code) (Λ := lookL []) Try.func71 (by kernel_rfl) (by kernel_rfl)
    (Rq.free (by kernel_rfl))
    (Eq.mp (by kernel_rfl) H)

/-! #### loop.example/g01173/impl.ValidRoom (function 69) -/
def impl_ValidRoom.B4 (Post : Value → Heap → Prop) (N4 : (Addr × Array Value × Int) → Heap → Prop) : Addr × Array Value × Int → Heap → Prop
  | (x_1, t45, t46), h =>
    BIF ((decide (t46 < (4 : Int)))) (
    IDX t46 4 <|
    ALC ⟨Z_impl_Ring⟩ T_impl_Ring (fun g29 h30 =>
    STA 2 h30 ⟨g29, 0, none⟩ ((Array.extract t45 ((Int.toNat t46) * 2) (((Int.toNat t46) * 2) + 2))) fun h31 =>
    LDA 2 h31 ⟨g29, 0, none⟩ fun a32 =>
    CALL prg f_impl_isRing #[.agg a32] (fun q33 h34 =>
    asB q33 fun b35 =>
    BIF (!b35) (
    Post (.bool false) h34) (
    IDX t46 4 <|
    LDA 6 h34 ((Addr.add (Addr.add x_1 17) ((Int.toNat t46) * 6))) fun a36 =>
    CALL prg f_impl_isFilter #[.agg a36, .int .i64 (1 : Int)] (fun q37 h38 =>
    asB q37 fun b39 =>
    BIF (!b39) (
    Post (.bool false) h38) (
    N4 (x_1, t45, ((IntKind.i64.wrap (t46 + (1 : Int))))) h38)) h34)) h31) h) (
    oL (cell h (Addr.add x_1 2)) fun l40b l40l l40c =>
    CALL prg f_slices_ContainsFunc_sl_impl_Tap_impl_Tap #[.slice l40b l40l l40c, .func (.func 137) #[] #[.pointer (some x_1)]] (fun q41 h42 =>
    asB q41 fun b43 =>
    Post (.bool (!b43)) h42) h)
def impl_ValidRoom.g4 (fr : Frame) : Addr × Array Value × Int := ((gP (lget fr 1)), (gA (lget fr 45)), (gI (lget fr 46)))
def impl_ValidRoom.l4 (Post : Value → Heap → Prop) : Frame → Heap → Prop := fun fr h => GRD (shape (kds 67 [(1, .p), (45, .a), (46, .i .i64)]) fr) (LOOP (impl_ValidRoom.B4 Post) (impl_ValidRoom.g4 fr) h)
def impl_ValidRoom.J3 (Post : Value → Heap → Prop) (x_1 : Addr) (h : Heap) : Prop :=
    LDA 8 h (Addr.add x_1 9) fun a28 =>
    LOOP (impl_ValidRoom.B4 Post) (x_1, a28, (0 : Int)) h
def impl_ValidRoom.j3 (Post : Value → Heap → Prop) : Frame → Heap → Prop := fun fr h => GRD (shape (kds 67 [(1, .p)]) fr) (impl_ValidRoom.J3 Post (gP (lget fr 1)) h)
def impl_ValidRoom.S (x_0 : Array Value) (Post : Value → Heap → Prop) (h : Heap) : Prop :=
    ALC x_0 T_impl_Room (fun g1 h2 =>
    LDA 2 h2 ⟨g1, 0, none⟩ fun a3 =>
    CALL prg f_impl_isRing #[.agg a3] (fun q4 h5 =>
    asB q4 fun b6 =>
    BIF (!b6) (
    Post (.bool false) h5) (
    oL (cell h5 ⟨g1, 2, none⟩) fun l7b l7l l7c =>
    BIF ((decide ((6 : Int) < (l7l : Int)))) (
    Post (.bool false) h5) (
    SLB (0 : Int) (4 : Int) (4 : Int) <|
    CALL prg f_impl_areFinite #[.slice (some (slP ⟨g1, 41, none⟩ 4 0 1)) (4 - 0) (4 - 0)] (fun q10 h11 =>
    asB q10 fun b12 =>
    BIF (!b12) (
    Post (.bool false) h11) (
    oF .f32 (cell h11 ⟨g1, 45, none⟩) fun r13 =>
    oF .f32 (cell h11 ⟨g1, 46, none⟩) fun r14 =>
    ALC ⟨[.float .f32 r13, .float .f32 r14]⟩ T_float32 (fun g15 h16 =>
    CALL prg f_impl_areFinite #[.slice (some ⟨g15, 0, none⟩) 2 2] (fun q17 h18 =>
    asB q17 fun b19 =>
    BIF (!b19) (
    Post (.bool false) h18) (
    IDX (0 : Int) 2 <|
    LDA 3 h18 ⟨g1, 3, none⟩ fun a20 =>
    CALL prg f_impl_ValidComb #[.agg a20] (fun q21 h22 =>
    asB q21 fun b23 =>
    BIF (!b23) (
    Post (.bool false) h22) (
    IDX (1 : Int) 2 <|
    LDA 3 h22 ⟨g1, 6, none⟩ fun a24 =>
    CALL prg f_impl_ValidComb #[.agg a24] (fun q25 h26 =>
    asB q25 fun b27 =>
    BIF (!b27) (
    Post (.bool false) h26) (
    impl_ValidRoom.J3 Post ⟨g1, 0, none⟩ h26)) h22)) h18)) h16) h11)) h5))) h2) h
noncomputable def impl_ValidRoom.code : Code := (Try.f69.body).getD .skip
theorem impl_ValidRoom.call {x_0 : Array Value} {Post : Value → Heap → Prop} {h : Heap} (H : impl_ValidRoom.S x_0 Post h) : CALL prg f_impl_ValidRoom #[.agg x_0] Post h :=
  fn_call tau_ok mixed (c := impl_ValidRoom.code) (Λ := lookL [(3, impl_ValidRoom.j3 Post), (1000004, impl_ValidRoom.l4 Post)]) Try.func69 (by kernel_rfl) (by kernel_rfl)
    (Rq.seq (by kernel_rfl) (Rq.free (by kernel_rfl)) (Rq.seqJ (impl_ValidRoom.j3 Post) (by kernel_rfl) (seg (fun _ _ => by kernel_rfl)) (Rq.free (by kernel_rfl))
(Rq.seq (by kernel_rfl) (Rq.seq (by kernel_rfl) (Rq.free (by kernel_rfl)) (Rq.block (Rq.loop (impl_ValidRoom.l4 Post) (by kernel_rfl) (segL (g := impl_ValidRoom.g4) tau_ok mixed (Λ := fun N4 => lookL []) (fun _ _ _ => by kernel_rfl) (fun N4 => (Rq.free (by kernel_rfl))))))) (Rq.free (by kernel_rfl)))))
    (Eq.mp (by kernel_rfl) H)

/-! #### slices.Clone[[]loop.example/g01173/impl.Tap,loop.example/g01173/impl.Tap] (function 76) -/
def slices_Clone_sl_impl_Tap_impl_Tap.S (s_0b : Option Addr) (s_0l s_0c : Nat) (Post : Value → Heap → Prop) (h : Heap) : Prop :=
    CMP prg .eql T_sl_impl_Tap (.tmp 3) (.const (.slice none 0 0)) (.slice s_0b s_0l s_0c) (.slice none 0 0) (fun b1 h2 =>
    BIF b1 (
    Post (.slice none 0 0) h2) (
    ALC ⟨[]⟩ T_impl_Tap (fun g3 h4 =>
    SEMV prg (Builtin.append_ #[T_sl_impl_Tap, T_sl_impl_Tap] T_sl_impl_Tap #[.slice (some ⟨g3, 0, none⟩) 0 0, .slice s_0b s_0l s_0c]) (fun q5 h6 =>
    asL q5 fun l7b l7l l7c =>
    Post (.slice l7b l7l l7c) h6) h4) h2)) h
noncomputable def slices_Clone_sl_impl_Tap_impl_Tap.code : Code := (Try.f76.body).getD .skip
theorem slices_Clone_sl_impl_Tap_impl_Tap.call {s_0b : Option Addr} {s_0l s_0c : Nat} {Post : Value → Heap → Prop} {h : Heap} (H : slices_Clone_sl_impl_Tap_impl_Tap.S s_0b s_0l s_0c Post h) : CALL prg f_slices_Clone_sl_impl_Tap_impl_Tap #[.slice s_0b s_0l s_0c] Post h :=
  fn_call tau_ok mixed (c := slices_Clone_sl_impl_Tap_impl_Tap.code) (Λ := lookL []) Try.func76 (by kernel_rfl) (by kernel_rfl)
    (Rq.free (by kernel_rfl))
    (Eq.mp (by kernel_rfl) H)

/-! #### (loop.example/g01173/impl.Room).clone (function 74) -/
def impl_Room_clone.B8 (Post : Value → Heap → Prop) (N8 : (Addr × Addr × Int) → Heap → Prop) : Addr × Addr × Int → Heap → Prop
  | (x_1, t2, t27), h =>
    BIF ((decide (t27 < (4 : Int)))) (
    IDX t27 4 <|
    LDA 2 h ((Addr.add (Addr.add x_1 9) ((Int.toNat t27) * 2))) fun a20 =>
    CALL prg f_impl_Ring_clone #[.agg a20] (fun q21 h22 =>
    asA q21 fun a23 =>
    IDX t27 4 <|
    STA 2 h22 ((Addr.add (Addr.add x_1 9) ((Int.toNat t27) * 2))) a23 fun h24 =>
    N8 (x_1, t2, ((IntKind.i64.wrap (t27 + (1 : Int))))) h24) h) (
    LDA 47 h x_1 fun a25 =>
    STA 47 h t2 a25 fun h26 =>
    LDA 47 h26 t2 fun a27 =>
    Post (.agg a27) h26)
def impl_Room_clone.g8 (fr : Frame) : Addr × Addr × Int := ((gP (lget fr 1)), (gP (lget fr 2)), (gI (lget fr 27)))
def impl_Room_clone.l8 (Post : Value → Heap → Prop) : Frame → Heap → Prop := fun fr h => GRD (shape (kds 40 [(1, .p), (2, .p), (27, .i .i64)]) fr) (LOOP (impl_Room_clone.B8 Post) (impl_Room_clone.g8 fr) h)
def impl_Room_clone.B3 (Post : Value → Heap → Prop) (N3 : (Addr × Addr × Int) → Heap → Prop) : Addr × Addr × Int → Heap → Prop
  | (x_1, t2, t13), h =>
    BIF ((decide (t13 < (2 : Int)))) (
    IDX t13 2 <|
    LDA 2 h ((Addr.add (Addr.add x_1 3) ((Int.toNat t13) * 3))) fun a15 =>
    CALL prg f_impl_Ring_clone #[.agg a15] (fun q16 h17 =>
    asA q16 fun a18 =>
    IDX t13 2 <|
    STA 2 h17 ((Addr.add (Addr.add x_1 3) ((Int.toNat t13) * 3))) a18 fun h19 =>
    N3 (x_1, t2, ((IntKind.i64.wrap (t13 + (1 : Int))))) h19) h) (
    LOOP (impl_Room_clone.B8 Post) (x_1, t2, (0 : Int)) h)
def impl_Room_clone.g3 (fr : Frame) : Addr × Addr × Int := ((gP (lget fr 1)), (gP (lget fr 2)), (gI (lget fr 13)))
def impl_Room_clone.l3 (Post : Value → Heap → Prop) : Frame → Heap → Prop := fun fr h => GRD (shape (kds 40 [(1, .p), (2, .p), (13, .i .i64)]) fr) (LOOP (impl_Room_clone.B3 Post) (impl_Room_clone.g3 fr) h)
def impl_Room_clone.S (x_0 : Array Value) (Post : Value → Heap → Prop) (h : Heap) : Prop :=
    ALC x_0 T_impl_Room (fun g1 h2 =>
    ALC ⟨Z_impl_Room⟩ T_impl_Room (fun g3 h4 =>
    LDA 2 h4 ⟨g1, 0, none⟩ fun a5 =>
    oL (cell h4 ⟨g1, 2, none⟩) fun l6b l6l l6c =>
    CALL prg f_impl_Ring_clone #[.agg a5] (fun q7 h8 =>
    asA q7 fun a9 =>
    PIN h4 ⟨g1, 2, none⟩ 1 h8 <|
    CALL prg f_slices_Clone_sl_impl_Tap_impl_Tap #[.slice l6b l6l l6c] (fun q10 h11 =>
    asL q10 fun l12b l12l l12c =>
    STA 2 h11 ⟨g1, 0, none⟩ a9 fun h13 =>
    ST1 h13 ⟨g1, 2, none⟩ (.slice l12b l12l l12c) fun h14 =>
    LOOP (impl_Room_clone.B3 Post) (⟨g1, 0, none⟩, ⟨g3, 0, none⟩, (0 : Int)) h14) h8) h4) h2) h
noncomputable def impl_Room_clone.code : Code := (Try.f74.body).getD .skip
theorem impl_Room_clone.call {x_0 : Array Value} {Post : Value → Heap → Prop} {h : Heap} (H : impl_Room_clone.S x_0 Post h) : CALL prg f_impl_Room_clone #[.agg x_0] Post h :=
  fn_call tau_ok mixed (c := impl_Room_clone.code) (Λ := lookL [(1000003, impl_Room_clone.l3 Post), (1000008, impl_Room_clone.l8 Post)]) Try.func74 (by kernel_rfl) (by kernel_rfl)
    (Rq.seq (by kernel_rfl) (Rq.free (by kernel_rfl)) (Rq.seq (by kernel_rfl) (Rq.free (by kernel_rfl)) (Rq.seq (by kernel_rfl) (Rq.seq (by kernel_rfl) (Rq.free (by kernel_rfl)) (Rq.block (Rq.loop (impl_Room_clone.l3 Post) (by kernel_rfl) (segL (g := impl_Room_clone.g3) tau_ok mixed (Λ := fun N3 => lookL []) (fun _ _ _ => by kernel_rfl) (fun N3 => (Rq.free (by kernel_rfl))))))) (Rq.seq (by kernel_rfl) (Rq.seq (by kernel_rfl) (Rq.free (by kernel_rfl)) (Rq.block (Rq.loop (impl_Room_clone.l8 Post) (by kernel_rfl) (segL (g := impl_Room_clone.g8) tau_ok mixed (Λ := fun N8 => lookL []) (fun _ _ _ => by kernel_rfl) (fun N8 => (Rq.free (by kernel_rfl))))))) (Rq.free (by kernel_rfl))))))
    (Eq.mp (by kernel_rfl) H)

/-! #### loop.example/g01173/impl.NewRing (function 75) -/
def impl_NewRing.S (n_0 : Int) (Post : Value → Heap → Prop) (h : Heap) : Prop :=
    ALC ⟨Z_impl_Ring⟩ T_impl_Ring (fun g1 h2 =>
    CALL prg f_impl_within #[.int .i64 n_0, .int .i64 (1 : Int), .int .i64 (1024 : Int)] (fun q3 h4 =>
    asB q3 fun b5 =>
    BIF (!b5) (
    STA 2 h4 ⟨g1, 0, none⟩ (⟨[.slice none 0 0, .int .i64 (0 : Int)]⟩ : Array Value) fun h6 =>
    LDA 2 h6 ⟨g1, 0, none⟩ fun a7 =>
    Post (.tuple ⟨[.agg a7, .int .i64 (2 : Int)]⟩) h6) (
    MKS ti_float32 T_float32 n_0 n_0 (fun g8 h9 =>
    STA 2 h9 ⟨g1, 0, none⟩ (⟨[.slice (some ⟨g8, 0, none⟩) (Int.toNat n_0) (Int.toNat n_0), .int .i64 (0 : Int)]⟩ : Array Value) fun h10 =>
    LDA 2 h10 ⟨g1, 0, none⟩ fun a11 =>
    Post (.tuple ⟨[.agg a11, .int .i64 (0 : Int)]⟩) h10) h4)) h2) h
noncomputable def impl_NewRing.code : Code := (Try.f75.body).getD .skip
theorem impl_NewRing.call {n_0 : Int} {Post : Value → Heap → Prop} {h : Heap} (H : impl_NewRing.S n_0 Post h) : CALL prg f_impl_NewRing #[.int .i64 n_0] Post h :=
  fn_call tau_ok mixed (c := impl_NewRing.code) (Λ := lookL []) Try.func75 (by kernel_rfl) (by kernel_rfl)
    (Rq.free (by kernel_rfl))
    (Eq.mp (by kernel_rfl) H)

/-! #### (*loop.example/g01173/impl.Room).rings (function 91) -/
def p_impl_Room_rings.B8 (Post : Value → Heap → Prop) (N8 : (Addr × Option Addr × Nat × Nat × Int) → Heap → Prop) : Addr × Option Addr × Nat × Nat × Int → Heap → Prop
  | (x_0, out_3b, out_3l, out_3c, t23), h =>
    BIF ((decide (t23 < (4 : Int)))) (
    IDX t23 4 <|
    ALC ⟨[.pointer (some ((Addr.add (Addr.add x_0 9) ((Int.toNat t23) * 2))))]⟩ T_p_impl_Ring (fun g8 h9 =>
    SEMV prg (Builtin.append_ #[T_sl_p_impl_Ring, T_sl_p_impl_Ring] T_sl_p_impl_Ring #[.slice out_3b out_3l out_3c, .slice (some ⟨g8, 0, none⟩) 1 1]) (fun q10 h11 =>
    asL q10 fun l12b l12l l12c =>
    N8 (x_0, l12b, l12l, l12c, ((IntKind.i64.wrap (t23 + (1 : Int))))) h11) h9) h) (
    Post (.slice out_3b out_3l out_3c) h)
def p_impl_Room_rings.g8 (fr : Frame) : Addr × Option Addr × Nat × Nat × Int := ((gP (lget fr 0)), (gLb (lget fr 3)), (gLl (lget fr 3)), (gLc (lget fr 3)), (gI (lget fr 23)))
def p_impl_Room_rings.l8 (Post : Value → Heap → Prop) : Frame → Heap → Prop := fun fr h => GRD (shape (kds 36 [(0, .p), (3, .l), (23, .i .i64)]) fr) (LOOP (p_impl_Room_rings.B8 Post) (p_impl_Room_rings.g8 fr) h)
def p_impl_Room_rings.B3 (Post : Value → Heap → Prop) (N3 : (Addr × Option Addr × Nat × Nat × Int) → Heap → Prop) : Addr × Option Addr × Nat × Nat × Int → Heap → Prop
  | (x_0, out_3b, out_3l, out_3c, t10), h =>
    BIF ((decide (t10 < (2 : Int)))) (
    IDX t10 2 <|
    ALC ⟨[.pointer (some ((Addr.add (Addr.add x_0 3) ((Int.toNat t10) * 3))))]⟩ T_p_impl_Ring (fun g3 h4 =>
    SEMV prg (Builtin.append_ #[T_sl_p_impl_Ring, T_sl_p_impl_Ring] T_sl_p_impl_Ring #[.slice out_3b out_3l out_3c, .slice (some ⟨g3, 0, none⟩) 1 1]) (fun q5 h6 =>
    asL q5 fun l7b l7l l7c =>
    N3 (x_0, l7b, l7l, l7c, ((IntKind.i64.wrap (t10 + (1 : Int))))) h6) h4) h) (
    LOOP (p_impl_Room_rings.B8 Post) (x_0, out_3b, out_3l, out_3c, (0 : Int)) h)
def p_impl_Room_rings.g3 (fr : Frame) : Addr × Option Addr × Nat × Nat × Int := ((gP (lget fr 0)), (gLb (lget fr 3)), (gLl (lget fr 3)), (gLc (lget fr 3)), (gI (lget fr 10)))
def p_impl_Room_rings.l3 (Post : Value → Heap → Prop) : Frame → Heap → Prop := fun fr h => GRD (shape (kds 36 [(0, .p), (3, .l), (10, .i .i64)]) fr) (LOOP (p_impl_Room_rings.B3 Post) (p_impl_Room_rings.g3 fr) h)
def p_impl_Room_rings.S (x_0 : Addr) (Post : Value → Heap → Prop) (h : Heap) : Prop :=
    ALC ⟨[.pointer (some x_0)]⟩ T_p_impl_Ring (fun g1 h2 =>
    LOOP (p_impl_Room_rings.B3 Post) (x_0, (some ⟨g1, 0, none⟩), 1, 1, (0 : Int)) h2) h
noncomputable def p_impl_Room_rings.code : Code := (Try.f91.body).getD .skip
theorem p_impl_Room_rings.call {x_0 : Addr} {Post : Value → Heap → Prop} {h : Heap} (H : p_impl_Room_rings.S x_0 Post h) : CALL prg f_p_impl_Room_rings #[.pointer (some x_0)] Post h :=
  fn_call tau_ok mixed (c := p_impl_Room_rings.code) (Λ := lookL [(1000003, p_impl_Room_rings.l3 Post), (1000008, p_impl_Room_rings.l8 Post)]) Try.func91 (by kernel_rfl) (by kernel_rfl)
    (Rq.seq (by kernel_rfl) (Rq.free (by kernel_rfl)) (Rq.seq (by kernel_rfl) (Rq.free (by kernel_rfl)) (Rq.seq (by kernel_rfl) (Rq.seq (by kernel_rfl) (Rq.free (by kernel_rfl)) (Rq.block (Rq.loop (p_impl_Room_rings.l3 Post) (by kernel_rfl) (segL (g := p_impl_Room_rings.g3) tau_ok mixed (Λ := fun N3 => lookL []) (fun _ _ _ => by kernel_rfl) (fun N3 => (Rq.free (by kernel_rfl))))))) (Rq.seq (by kernel_rfl) (Rq.seq (by kernel_rfl) (Rq.free (by kernel_rfl)) (Rq.block (Rq.loop (p_impl_Room_rings.l8 Post) (by kernel_rfl) (segL (g := p_impl_Room_rings.g8) tau_ok mixed (Λ := fun N8 => lookL []) (fun _ _ _ => by kernel_rfl) (fun N8 => (Rq.free (by kernel_rfl))))))) (Rq.free (by kernel_rfl))))))
    (Eq.mp (by kernel_rfl) H)

/-! #### (*loop.example/g01173/impl.Ring).mute (function 92) -/
def p_impl_Ring_mute.S (r_0 : Addr) (Post : Value → Heap → Prop) (h : Heap) : Prop :=
    oL (cell h r_0) fun l1b l1l l1c =>
    MKS ti_float32 T_float32 (l1l : Int) (l1l : Int) (fun g4 h5 =>
    ST1 h5 r_0 (.slice (some ⟨g4, 0, none⟩) l1l l1l) fun h6 =>
    Post (.tuple ⟨[]⟩) h6) h
noncomputable def p_impl_Ring_mute.code : Code := (Try.f92.body).getD .skip
theorem p_impl_Ring_mute.call {r_0 : Addr} {Post : Value → Heap → Prop} {h : Heap} (H : p_impl_Ring_mute.S r_0 Post h) : CALL prg f_p_impl_Ring_mute #[.pointer (some r_0)] Post h :=
  fn_call tau_ok mixed (c := p_impl_Ring_mute.code) (Λ := lookL []) Try.func92 (by kernel_rfl) (by kernel_rfl)
    (Rq.free (by kernel_rfl))
    (Eq.mp (by kernel_rfl) H)

end Go.Sx
