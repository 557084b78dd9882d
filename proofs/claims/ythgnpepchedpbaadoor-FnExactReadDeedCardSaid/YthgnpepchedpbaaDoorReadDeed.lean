/- What functions of this seat's program compute, told in words (a predicate over heaps for each), and the proofs that the words are no more than the code's own weakest precondition. -/
import Derived.Test.YthgnpepchedpbaaDoorTab
namespace Go.Sx
open Go.Proofs
set_option linter.unusedVariables false
set_option maxRecDepth 100000

def spec_ReadDeed.J18 (N6 : (ByteArray × Addr × Option Addr × Nat × Nat × Option Addr × Nat × Nat × Int) → Heap → Prop) (Post : Value → Heap → Prop) (text_0 : ByteArray) (t2 : Addr) (words_4b : Option Addr) (words_4l : Nat) (words_4c : Nat) (names_5b : Option Addr) (names_5l : Nat) (names_5c : Nat) (k_6 : Int) (d_7 : Addr) (ok_8 : Bool) (h : Heap) : Prop :=
    BIF ok_8 (
    LDA 3 h d_7 fun a51 =>
    CALL prg f_spec_DeedText #[.agg a51] (fun q52 h53 =>
    asS q52 fun s54 =>
    BIF (ByteArray.toList s54 == ByteArray.toList text_0) (
    LDA 3 h53 d_7 fun a55 =>
    STA 3 h53 t2 a55 fun h56 =>
    LDA 3 h56 t2 fun a57 =>
    Post (.tuple ⟨[.agg a57, .int .i64 (0 : Int)]⟩) h56) (
    N6 (text_0, t2, words_4b, words_4l, words_4c, names_5b, names_5l, names_5c, ((IntKind.i64.wrap (k_6 + (1 : Int))))) h53)) h) (
    N6 (text_0, t2, words_4b, words_4l, words_4c, names_5b, names_5l, names_5c, ((IntKind.i64.wrap (k_6 + (1 : Int))))) h)
def spec_ReadDeed.j18 (N6 : (ByteArray × Addr × Option Addr × Nat × Nat × Option Addr × Nat × Nat × Int) → Heap → Prop) (Post : Value → Heap → Prop) : Frame → Heap → Prop := fun fr h => GRD (shape (kds 77 [(0, .s), (2, .p), (4, .l), (5, .l), (6, .i .i64), (7, .p), (8, .b)]) fr) (spec_ReadDeed.J18 N6 Post (gS (lget fr 0)) (gP (lget fr 2)) (gLb (lget fr 4)) (gLl (lget fr 4)) (gLc (lget fr 4)) (gLb (lget fr 5)) (gLl (lget fr 5)) (gLc (lget fr 5)) (gI (lget fr 6)) (gP (lget fr 7)) (gB (lget fr 8)) h)
def spec_ReadDeed.J15 (N6 : (ByteArray × Addr × Option Addr × Nat × Nat × Option Addr × Nat × Nat × Int) → Heap → Prop) (Post : Value → Heap → Prop) (text_0 : ByteArray) (t2 : Addr) (words_4b : Option Addr) (words_4l : Nat) (words_4c : Nat) (names_5b : Option Addr) (names_5l : Nat) (names_5c : Nat) (k_6 : Int) (d_7 : Addr) (ok_8 : Bool) (t57 : Bool) (h : Heap) : Prop :=
    BIF t57 (
    IDXS words_4b (2 : Int) words_4l fun p42 =>
    oS (cell h (Addr.add p42 2)) fun s43 =>
    CALL prg f_spec_l01Number #[.string s43] (fun q44 h45 =>
    TUP2 q44 fun q46 q47 =>
    asI .i64 q46 fun n48 =>
    asB q47 fun b49 =>
    ST1 h45 (Addr.add d_7 2) (.int .i64 n48) fun h50 =>
    spec_ReadDeed.J18 N6 Post text_0 t2 words_4b words_4l words_4c names_5b names_5l names_5c k_6 d_7 b49 h50) h) (
    spec_ReadDeed.J18 N6 Post text_0 t2 words_4b words_4l words_4c names_5b names_5l names_5c k_6 d_7 ok_8 h)
def spec_ReadDeed.j15 (N6 : (ByteArray × Addr × Option Addr × Nat × Nat × Option Addr × Nat × Nat × Int) → Heap → Prop) (Post : Value → Heap → Prop) : Frame → Heap → Prop := fun fr h => GRD (shape (kds 77 [(0, .s), (2, .p), (4, .l), (5, .l), (6, .i .i64), (7, .p), (8, .b), (57, .b)]) fr) (spec_ReadDeed.J15 N6 Post (gS (lget fr 0)) (gP (lget fr 2)) (gLb (lget fr 4)) (gLl (lget fr 4)) (gLc (lget fr 4)) (gLb (lget fr 5)) (gLl (lget fr 5)) (gLc (lget fr 5)) (gI (lget fr 6)) (gP (lget fr 7)) (gB (lget fr 8)) (gB (lget fr 57)) h)
def spec_ReadDeed.J14 (N6 : (ByteArray × Addr × Option Addr × Nat × Nat × Option Addr × Nat × Nat × Int) → Heap → Prop) (Post : Value → Heap → Prop) (text_0 : ByteArray) (t2 : Addr) (words_4b : Option Addr) (words_4l : Nat) (words_4c : Nat) (names_5b : Option Addr) (names_5l : Nat) (names_5c : Nat) (k_6 : Int) (d_7 : Addr) (ok_8 : Bool) (h : Heap) : Prop :=
    BIF ok_8 (
    CALL prg f_spec_l10Numbers #[.int .i64 k_6] (fun q39 h40 =>
    asI .i64 q39 fun n41 =>
    spec_ReadDeed.J15 N6 Post text_0 t2 words_4b words_4l words_4c names_5b names_5l names_5c k_6 d_7 ok_8 ((decide ((1 : Int) < n41))) h40) h) (
    spec_ReadDeed.J15 N6 Post text_0 t2 words_4b words_4l words_4c names_5b names_5l names_5c k_6 d_7 ok_8 false h)
def spec_ReadDeed.j14 (N6 : (ByteArray × Addr × Option Addr × Nat × Nat × Option Addr × Nat × Nat × Int) → Heap → Prop) (Post : Value → Heap → Prop) : Frame → Heap → Prop := fun fr h => GRD (shape (kds 77 [(0, .s), (2, .p), (4, .l), (5, .l), (6, .i .i64), (7, .p), (8, .b)]) fr) (spec_ReadDeed.J14 N6 Post (gS (lget fr 0)) (gP (lget fr 2)) (gLb (lget fr 4)) (gLl (lget fr 4)) (gLc (lget fr 4)) (gLb (lget fr 5)) (gLl (lget fr 5)) (gLc (lget fr 5)) (gI (lget fr 6)) (gP (lget fr 7)) (gB (lget fr 8)) h)
def spec_ReadDeed.J11 (N6 : (ByteArray × Addr × Option Addr × Nat × Nat × Option Addr × Nat × Nat × Int) → Heap → Prop) (Post : Value → Heap → Prop) (text_0 : ByteArray) (t2 : Addr) (words_4b : Option Addr) (words_4l : Nat) (words_4c : Nat) (names_5b : Option Addr) (names_5l : Nat) (names_5c : Nat) (k_6 : Int) (d_7 : Addr) (ok_8 : Bool) (t41 : Bool) (h : Heap) : Prop :=
    BIF t41 (
    IDXS words_4b (1 : Int) words_4l fun p30 =>
    oS (cell h (Addr.add p30 1)) fun s31 =>
    CALL prg f_spec_l01Number #[.string s31] (fun q32 h33 =>
    TUP2 q32 fun q34 q35 =>
    asI .i64 q34 fun n36 =>
    asB q35 fun b37 =>
    ST1 h33 (Addr.add d_7 1) (.int .i64 n36) fun h38 =>
    spec_ReadDeed.J14 N6 Post text_0 t2 words_4b words_4l words_4c names_5b names_5l names_5c k_6 d_7 b37 h38) h) (
    spec_ReadDeed.J14 N6 Post text_0 t2 words_4b words_4l words_4c names_5b names_5l names_5c k_6 d_7 ok_8 h)
def spec_ReadDeed.j11 (N6 : (ByteArray × Addr × Option Addr × Nat × Nat × Option Addr × Nat × Nat × Int) → Heap → Prop) (Post : Value → Heap → Prop) : Frame → Heap → Prop := fun fr h => GRD (shape (kds 77 [(0, .s), (2, .p), (4, .l), (5, .l), (6, .i .i64), (7, .p), (8, .b), (41, .b)]) fr) (spec_ReadDeed.J11 N6 Post (gS (lget fr 0)) (gP (lget fr 2)) (gLb (lget fr 4)) (gLl (lget fr 4)) (gLc (lget fr 4)) (gLb (lget fr 5)) (gLl (lget fr 5)) (gLc (lget fr 5)) (gI (lget fr 6)) (gP (lget fr 7)) (gB (lget fr 8)) (gB (lget fr 41)) h)
def spec_ReadDeed.B6 (Post : Value → Heap → Prop) (N6 : (ByteArray × Addr × Option Addr × Nat × Nat × Option Addr × Nat × Nat × Int) → Heap → Prop) : ByteArray × Addr × Option Addr × Nat × Nat × Option Addr × Nat × Nat × Int → Heap → Prop
  | (text_0, t2, words_4b, words_4l, words_4c, names_5b, names_5l, names_5c, k_6), h =>
    BIF ((decide (k_6 ≤ (9 : Int)))) (
    ALC ⟨Z_impl_Deed⟩ T_impl_Deed (fun g18 h19 =>
    STA 3 h19 ⟨g18, 0, none⟩ (⟨[.int .i64 k_6, .int .i64 (0 : Int), .int .i64 (0 : Int)]⟩ : Array Value) fun h20 =>
    IDXS words_4b (0 : Int) words_4l fun p21 =>
    oS (cell h20 p21) fun s22 =>
    IDXS names_5b k_6 names_5l fun p23 =>
    oS (cell h20 ((Addr.add p23 ((Int.toNat k_6) * 1)))) fun s24 =>
    BIF (ByteArray.toList s22 == ByteArray.toList s24) (
    CALL prg f_spec_l10Numbers #[.int .i64 k_6] (fun q25 h26 =>
    asI .i64 q25 fun n27 =>
    spec_ReadDeed.J11 N6 Post text_0 t2 words_4b words_4l words_4c names_5b names_5l names_5c k_6 ⟨g18, 0, none⟩ (ByteArray.toList s22 == ByteArray.toList s24) ((decide ((0 : Int) < n27))) h26) h20) (
    spec_ReadDeed.J11 N6 Post text_0 t2 words_4b words_4l words_4c names_5b names_5l names_5c k_6 ⟨g18, 0, none⟩ (ByteArray.toList s22 == ByteArray.toList s24) false h20)) h) (
    STA 3 h t2 (⟨[.int .i64 (0 : Int), .int .i64 (0 : Int), .int .i64 (0 : Int)]⟩ : Array Value) fun h28 =>
    LDA 3 h28 t2 fun a29 =>
    Post (.tuple ⟨[.agg a29, .int .i64 (5 : Int)]⟩) h28)
def spec_ReadDeed.g6 (fr : Frame) : ByteArray × Addr × Option Addr × Nat × Nat × Option Addr × Nat × Nat × Int := ((gS (lget fr 0)), (gP (lget fr 2)), (gLb (lget fr 4)), (gLl (lget fr 4)), (gLc (lget fr 4)), (gLb (lget fr 5)), (gLl (lget fr 5)), (gLc (lget fr 5)), (gI (lget fr 6)))
def spec_ReadDeed.l6 (Post : Value → Heap → Prop) : Frame → Heap → Prop := fun fr h => GRD (shape (kds 77 [(0, .s), (2, .p), (4, .l), (5, .l), (6, .i .i64)]) fr) (LOOP (spec_ReadDeed.B6 Post) (spec_ReadDeed.g6 fr) h)
def spec_ReadDeed.S (text_0 : ByteArray) (Post : Value → Heap → Prop) (h : Heap) : Prop :=
    ALC ⟨Z_impl_Deed⟩ T_impl_Deed (fun g1 h2 =>
    BIF ((decide ((40 : Int) < ((ByteArray.size text_0) : Int)))) (
    STA 3 h2 ⟨g1, 0, none⟩ (⟨[.int .i64 (0 : Int), .int .i64 (0 : Int), .int .i64 (0 : Int)]⟩ : Array Value) fun h5 =>
    LDA 3 h5 ⟨g1, 0, none⟩ fun a6 =>
    Post (.tuple ⟨[.agg a6, .int .i64 (5 : Int)]⟩) h5) (
    CALL prg f_spec_l01Split #[.string text_0, .int .u8 (32 : Int)] (fun q7 h8 =>
    asL q7 fun l9b l9l l9c =>
    ALC ⟨[.string (⟨#[]⟩ : ByteArray), .string (⟨#[]⟩ : ByteArray)]⟩ T_string (fun g10 h11 =>
    SEMV prg (Builtin.append_ #[T_sl_string, T_sl_string] T_sl_string #[.slice l9b l9l l9c, .slice (some ⟨g10, 0, none⟩) 2 2]) (fun q12 h13 =>
    asL q12 fun l14b l14l l14c =>
    CALL prg f_spec_l10Names #[] (fun q15 h16 =>
    asL q15 fun l17b l17l l17c =>
    LOOP (spec_ReadDeed.B6 Post) (text_0, ⟨g1, 0, none⟩, l14b, l14l, l14c, l17b, l17l, l17c, (1 : Int)) h16) h13) h11) h8) h2)) h
noncomputable def spec_ReadDeed.code : Code := (Tryd.f8.body).getD .skip
theorem spec_ReadDeed.call {text_0 : ByteArray} {Post : Value → Heap → Prop} {h : Heap} (H : spec_ReadDeed.S text_0 Post h) : CALL prg f_spec_ReadDeed #[.string text_0] Post h :=
  fn_call tau_ok mixed (c := spec_ReadDeed.code) (Λ := lookL [(1000006, spec_ReadDeed.l6 Post)]) Tryd.func8 (by kernel_rfl) (by kernel_rfl)
    (Rq.seq (by kernel_rfl) (Rq.free (by kernel_rfl)) (Rq.seq (by kernel_rfl) (Rq.free (by kernel_rfl)) (Rq.seq (by kernel_rfl) (Rq.free (by kernel_rfl)) (Rq.seq (by kernel_rfl) (Rq.free (by kernel_rfl)) (Rq.seq (by kernel_rfl) (Rq.seq (by kernel_rfl) (Rq.free (by kernel_rfl)) (Rq.block (Rq.loop (spec_ReadDeed.l6 Post) (by kernel_rfl) (segL (g := spec_ReadDeed.g6) tau_ok mixed (Λ := fun N6 => lookL [(14, spec_ReadDeed.j14 N6 Post), (11, spec_ReadDeed.j11 N6 Post), (18, spec_ReadDeed.j18 N6 Post), (15, spec_ReadDeed.j15 N6 Post)]) (fun _ _ _ => by kernel_rfl) (fun N6 => (Rq.seq (by kernel_rfl) (Rq.free (by kernel_rfl)) (Rq.seq (by kernel_rfl) (Rq.block (Rq.seq (by kernel_rfl) (Rq.free (by kernel_rfl)) (Rq.seq (by kernel_rfl) (Rq.free (by kernel_rfl)) (Rq.seqJ (spec_ReadDeed.j14 N6 Post) (by kernel_rfl) (seg (fun _ _ => by kernel_rfl)) (Rq.seqJ (spec_ReadDeed.j11 N6 Post) (by kernel_rfl) (seg (fun _ _ => by kernel_rfl)) (Rq.free (by kernel_rfl))
(Rq.free (by kernel_rfl)))
(Rq.seqJ (spec_ReadDeed.j18 N6 Post) (by kernel_rfl) (seg (fun _ _ => by kernel_rfl)) (Rq.seqJ (spec_ReadDeed.j15 N6 Post) (by kernel_rfl) (seg (fun _ _ => by kernel_rfl)) (Rq.free (by kernel_rfl))
(Rq.free (by kernel_rfl)))
(Rq.free (by kernel_rfl))))))) (Rq.free (by kernel_rfl))))))))) (Rq.free (by kernel_rfl)))))))
    (Eq.mp (by kernel_rfl) H)

def impl_readDeed.B9 (N3 : (ByteArray × Addr × Option Addr × Nat × Nat × Int) → Heap → Prop) (Post : Value → Heap → Prop) (N9 : (ByteArray × Addr × Int × Addr × Option Addr × Nat × Nat × Int × Int) → Heap → Prop) : ByteArray × Addr × Int × Addr × Option Addr × Nat × Nat × Int × Int → Heap → Prop
  | (text_0, t2, kind_5, n_8, t36b, t36l, t36c, t37, t38), h =>
    BIF (decide (t38 < t37)) (
    IDXS t36b t38 t36l fun p22 =>
    oS (cell h ((Addr.add p22 ((Int.toNat t38) * 1)))) fun s23 =>
    CALL prg f_impl_readDecimal #[.string s23] (fun q24 h25 =>
    TUP2 q24 fun q26 q27 =>
    asI .i64 q26 fun n28 =>
    asB q27 fun b29 =>
    IDX t38 2 <|
    ST1 h25 ((Addr.add n_8 ((Int.toNat t38) * 1))) (.int .i64 n28) fun h30 =>
    N9 (text_0, t2, kind_5, n_8, t36b, t36l, t36c, t37, ((IntKind.i64.wrap (t38 + (1 : Int))))) h30) h) (
    IDX (0 : Int) 2 <|
    oI .i64 (cell h n_8) fun n31 =>
    IDX (1 : Int) 2 <|
    oI .i64 (cell h (Addr.add n_8 1)) fun n32 =>
    ALC ⟨Z_impl_Deed⟩ T_impl_Deed (fun g33 h34 =>
    STA 3 h34 ⟨g33, 0, none⟩ (⟨[.int .i64 kind_5, .int .i64 n31, .int .i64 n32]⟩ : Array Value) fun h35 =>
    LDA 3 h35 ⟨g33, 0, none⟩ fun a36 =>
    LDA 3 h35 ⟨g33, 0, none⟩ fun a37 =>
    CALL prg f_impl_DeedText #[.agg a37] (fun q38 h39 =>
    asS q38 fun s40 =>
    PIN h35 ⟨g33, 0, none⟩ 3 h39 <|
    STA 3 h39 t2 a36 fun h41 =>
    LDA 3 h41 t2 fun a42 =>
    Post (.tuple ⟨[.agg a42, .bool (ByteArray.toList s40 == ByteArray.toList text_0)]⟩) h41) h35) h)
def impl_readDeed.g9 (fr : Frame) : ByteArray × Addr × Int × Addr × Option Addr × Nat × Nat × Int × Int := ((gS (lget fr 0)), (gP (lget fr 2)), (gI (lget fr 5)), (gP (lget fr 8)), (gLb (lget fr 36)), (gLl (lget fr 36)), (gLc (lget fr 36)), (gI (lget fr 37)), (gI (lget fr 38)))
def impl_readDeed.l9 (N3 : (ByteArray × Addr × Option Addr × Nat × Nat × Int) → Heap → Prop) (Post : Value → Heap → Prop) : Frame → Heap → Prop := fun fr h => GRD (shape (kds 63 [(0, .s), (2, .p), (5, .i .i64), (8, .p), (36, .l), (37, .i .i64), (38, .i .i64)]) fr) (LOOP (impl_readDeed.B9 N3 Post) (impl_readDeed.g9 fr) h)
def impl_readDeed.J7 (N3 : (ByteArray × Addr × Option Addr × Nat × Nat × Int) → Heap → Prop) (Post : Value → Heap → Prop) (text_0 : ByteArray) (t2 : Addr) (words_4b : Option Addr) (words_4l : Nat) (words_4c : Nat) (kind_5 : Int) (h : Heap) : Prop :=
    ALC ⟨Z_2_int64⟩ T_2_int64 (fun g18 h19 =>
    SLB (1 : Int) (words_4l : Int) (words_4c : Int) <|
    LOOP (impl_readDeed.B9 N3 Post) (text_0, t2, kind_5, ⟨g18, 0, none⟩, (slA words_4b words_4c 1 1), (words_4l - 1), (words_4c - 1), ((((words_4l - 1) : Nat) : Int)), (0 : Int)) h19) h
def impl_readDeed.j7 (N3 : (ByteArray × Addr × Option Addr × Nat × Nat × Int) → Heap → Prop) (Post : Value → Heap → Prop) : Frame → Heap → Prop := fun fr h => GRD (shape (kds 63 [(0, .s), (2, .p), (4, .l), (5, .i .i64)]) fr) (impl_readDeed.J7 N3 Post (gS (lget fr 0)) (gP (lget fr 2)) (gLb (lget fr 4)) (gLl (lget fr 4)) (gLc (lget fr 4)) (gI (lget fr 5)) h)
def impl_readDeed.B3 (Post : Value → Heap → Prop) (N3 : (ByteArray × Addr × Option Addr × Nat × Nat × Int) → Heap → Prop) : ByteArray × Addr × Option Addr × Nat × Nat × Int → Heap → Prop
  | (text_0, t2, words_4b, words_4l, words_4c, kind_5), h =>
    BIF ((decide (kind_5 ≤ (9 : Int)))) (
    CALL prg f_impl_deedWord #[.int .i64 kind_5] (fun q6 h7 =>
    TUP2 q6 fun q8 q9 =>
    asS q8 fun s10 =>
    asI .i64 q9 fun n11 =>
    IDXS words_4b (0 : Int) words_4l fun p12 =>
    oS (cell h7 p12) fun s13 =>
    BIF (!(ByteArray.toList s10 == ByteArray.toList s13)) (
    N3 (text_0, t2, words_4b, words_4l, words_4c, ((IntKind.i64.wrap (kind_5 + (1 : Int))))) h7) (
    BIF (((words_4l : Int) != (IntKind.i64.wrap (n11 + (1 : Int))))) (
    N3 (text_0, t2, words_4b, words_4l, words_4c, ((IntKind.i64.wrap (kind_5 + (1 : Int))))) h7) (
    impl_readDeed.J7 N3 Post text_0 t2 words_4b words_4l words_4c kind_5 h7))) h) (
    STA 3 h t2 (⟨[.int .i64 (0 : Int), .int .i64 (0 : Int), .int .i64 (0 : Int)]⟩ : Array Value) fun h16 =>
    LDA 3 h16 t2 fun a17 =>
    Post (.tuple ⟨[.agg a17, .bool false]⟩) h16)
def impl_readDeed.g3 (fr : Frame) : ByteArray × Addr × Option Addr × Nat × Nat × Int := ((gS (lget fr 0)), (gP (lget fr 2)), (gLb (lget fr 4)), (gLl (lget fr 4)), (gLc (lget fr 4)), (gI (lget fr 5)))
def impl_readDeed.l3 (Post : Value → Heap → Prop) : Frame → Heap → Prop := fun fr h => GRD (shape (kds 63 [(0, .s), (2, .p), (4, .l), (5, .i .i64)]) fr) (LOOP (impl_readDeed.B3 Post) (impl_readDeed.g3 fr) h)
def impl_readDeed.S (text_0 : ByteArray) (Post : Value → Heap → Prop) (h : Heap) : Prop :=
    ALC ⟨Z_impl_Deed⟩ T_impl_Deed (fun g1 h2 =>
    CALL prg f_strings_Split #[.string text_0, .string (⟨#[32]⟩ : ByteArray)] (fun q3 h4 =>
    asL q3 fun l5b l5l l5c =>
    LOOP (impl_readDeed.B3 Post) (text_0, ⟨g1, 0, none⟩, l5b, l5l, l5c, (1 : Int)) h4) h2) h
noncomputable def impl_readDeed.code : Code := (Tryd.f20.body).getD .skip
theorem impl_readDeed.call {text_0 : ByteArray} {Post : Value → Heap → Prop} {h : Heap} (H : impl_readDeed.S text_0 Post h) : CALL prg f_impl_readDeed #[.string text_0] Post h :=
  fn_call tau_ok mixed (c := impl_readDeed.code) (Λ := lookL [(1000003, impl_readDeed.l3 Post)]) Tryd.func20 (by kernel_rfl) (by kernel_rfl)
    (Rq.seq (by kernel_rfl) (Rq.free (by kernel_rfl)) (Rq.seq (by kernel_rfl) (Rq.free (by kernel_rfl)) (Rq.seq (by kernel_rfl) (Rq.seq (by kernel_rfl) (Rq.free (by kernel_rfl)) (Rq.block (Rq.loop (impl_readDeed.l3 Post) (by kernel_rfl) (segL (g := impl_readDeed.g3) tau_ok mixed (Λ := fun N3 => lookL [(7, impl_readDeed.j7 N3 Post), (1000009, impl_readDeed.l9 N3 Post)]) (fun _ _ _ => by kernel_rfl) (fun N3 => (Rq.seq (by kernel_rfl) (Rq.free (by kernel_rfl)) (Rq.seq (by kernel_rfl) (Rq.block (Rq.seq (by kernel_rfl) (Rq.free (by kernel_rfl)) (Rq.seqJ (impl_readDeed.j7 N3 Post) (by kernel_rfl) (seg (fun _ _ => by kernel_rfl)) (Rq.free (by kernel_rfl))
(Rq.seq (by kernel_rfl) (Rq.free (by kernel_rfl)) (Rq.seq (by kernel_rfl) (Rq.seq (by kernel_rfl) (Rq.free (by kernel_rfl)) (Rq.block (Rq.loop (impl_readDeed.l9 N3 Post) (by kernel_rfl) (segL (g := impl_readDeed.g9) tau_ok mixed (Λ := fun N9 => lookL []) (fun _ _ _ => by kernel_rfl) (fun N9 => (Rq.free (by kernel_rfl))))))) (Rq.free (by kernel_rfl))))))) (Rq.free (by kernel_rfl))))))))) (Rq.free (by kernel_rfl)))))
    (Eq.mp (by kernel_rfl) H)

def impl_ReadDeed.S (text_0 : ByteArray) (Post : Value → Heap → Prop) (h : Heap) : Prop :=
    ALC ⟨Z_impl_Deed⟩ T_impl_Deed (fun g1 h2 =>
    CALL prg f_impl_readDeed #[.string text_0] (fun q3 h4 =>
    TUP2 q3 fun q5 q6 =>
    asA q5 fun a7 =>
    asB q6 fun b8 =>
    ALC ⟨Z_impl_Deed⟩ T_impl_Deed (fun g9 h10 =>
    STA 3 h10 ⟨g9, 0, none⟩ a7 fun h11 =>
    BIF (!b8) (
    STA 3 h11 ⟨g1, 0, none⟩ (⟨[.int .i64 (0 : Int), .int .i64 (0 : Int), .int .i64 (0 : Int)]⟩ : Array Value) fun h12 =>
    LDA 3 h12 ⟨g1, 0, none⟩ fun a13 =>
    Post (.tuple ⟨[.agg a13, .int .i64 (5 : Int)]⟩) h12) (
    LDA 3 h11 ⟨g9, 0, none⟩ fun a14 =>
    STA 3 h11 ⟨g1, 0, none⟩ a14 fun h15 =>
    LDA 3 h15 ⟨g1, 0, none⟩ fun a16 =>
    Post (.tuple ⟨[.agg a16, .int .i64 (0 : Int)]⟩) h15)) h4) h2) h
noncomputable def impl_ReadDeed.code : Code := (Tryd.f9.body).getD .skip
theorem impl_ReadDeed.call {text_0 : ByteArray} {Post : Value → Heap → Prop} {h : Heap} (H : impl_ReadDeed.S text_0 Post h) : CALL prg f_impl_ReadDeed #[.string text_0] Post h :=
  fn_call tau_ok mixed (c := impl_ReadDeed.code) (Λ := lookL []) Tryd.func9 (by kernel_rfl) (by kernel_rfl)
    (Rq.free (by kernel_rfl))
    (Eq.mp (by kernel_rfl) H)

def laws_FnExactReadDeed.S (aText_0 : ByteArray) (Post : Value → Heap → Prop) (h : Heap) : Prop :=
    BIF ((decide ((1048576 : Int) < ((ByteArray.size aText_0) : Int)))) (
    Post (.bool true) h) (
    CALL prg f_spec_ReadDeed #[.string aText_0] (fun q3 h4 =>
    TUP2 q3 fun q5 q6 =>
    asA q5 fun a7 =>
    asI .i64 q6 fun n8 =>
    ALC ⟨Z_impl_Deed⟩ T_impl_Deed (fun g9 h10 =>
    STA 3 h10 ⟨g9, 0, none⟩ a7 fun h11 =>
    CALL prg f_impl_ReadDeed #[.string aText_0] (fun q12 h13 =>
    TUP2 q12 fun q14 q15 =>
    asA q14 fun a16 =>
    asI .i64 q15 fun n17 =>
    ALC ⟨Z_impl_Deed⟩ T_impl_Deed (fun g18 h19 =>
    STA 3 h19 ⟨g18, 0, none⟩ a16 fun h20 =>
    LDA 3 h20 ⟨g18, 0, none⟩ fun a21 =>
    LDA 3 h20 ⟨g9, 0, none⟩ fun a22 =>
    CALL prg f_laws_eqDeed #[.agg a21, .agg a22] (fun q23 h24 =>
    asB q23 fun b25 =>
    BIF (!b25) (
    Post (.bool false) h24) (
    BIF (n17 != n8) (
    Post (.bool false) h24) (
    Post (.bool true) h24))) h20) h13) h11) h4) h)
noncomputable def laws_FnExactReadDeed.code : Code := (Tryd.f4.body).getD .skip
theorem laws_FnExactReadDeed.call {aText_0 : ByteArray} {Post : Value → Heap → Prop} {h : Heap} (H : laws_FnExactReadDeed.S aText_0 Post h) : CALL prg f_laws_FnExactReadDeed #[.string aText_0] Post h :=
  fn_call tau_ok mixed (c := laws_FnExactReadDeed.code) (Λ := lookL []) Tryd.func4 (by kernel_rfl) (by kernel_rfl)
    (Rq.free (by kernel_rfl))
    (Eq.mp (by kernel_rfl) H)

end Go.Sx
