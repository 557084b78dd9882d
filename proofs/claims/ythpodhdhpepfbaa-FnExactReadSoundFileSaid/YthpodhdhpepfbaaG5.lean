/- What functions of this seat's program compute, told in words (a predicate over heaps for each), and the proofs that the words are no more than the code's own weakest precondition. -/
import Derived.Test.YthpodhdhpepfbaaTab
namespace Go.Sx
open Go.Proofs
set_option linter.unusedVariables false
set_option maxRecDepth 100000

/-! #### loop.example/g01173/spec.ReadSoundFile (function 27) -/
def spec_ReadSoundFile.J10 (Post : Value → Heap → Prop) (data_0b : Option Addr) (data_0l : Nat) (data_0c : Nat) (kind_6 : Int) (rate_7 : Int) (samples_10b : Option Addr) (samples_10l : Nat) (samples_10c : Nat) (own_11b : Option Addr) (own_11l : Nat) (own_11c : Nat) (h : Heap) : Prop :=
    SEMV prg (convert T_sl_uint8 T_string (.slice own_11b own_11l own_11c)) (fun q53 h54 =>
    asS q53 fun s55 =>
    SEMV prg (convert T_sl_uint8 T_string (.slice data_0b data_0l data_0c)) (fun q56 h57 =>
    asS q56 fun s58 =>
    BIF (!(ByteArray.toList s55 == ByteArray.toList s58)) (
    ALC ⟨[]⟩ T_float32 (fun g59 h60 =>
    Post (.tuple ⟨[.int .i64 (0 : Int), .int .i64 (0 : Int), .slice (some ⟨g59, 0, none⟩) 0 0, .int .i64 (8 : Int)]⟩) h60) h57) (
    Post (.tuple ⟨[.int .i64 kind_6, .int .i64 rate_7, .slice samples_10b samples_10l samples_10c, .int .i64 (0 : Int)]⟩) h57)) h54) h
def spec_ReadSoundFile.j10 (Post : Value → Heap → Prop) : Frame → Heap → Prop := fun fr h => GRD (shape (kds 70 [(0, .l), (6, .i .i64), (7, .i .i64), (10, .l), (11, .l)]) fr) (spec_ReadSoundFile.J10 Post (gLb (lget fr 0)) (gLl (lget fr 0)) (gLc (lget fr 0)) (gI (lget fr 6)) (gI (lget fr 7)) (gLb (lget fr 10)) (gLl (lget fr 10)) (gLc (lget fr 10)) (gLb (lget fr 11)) (gLl (lget fr 11)) (gLc (lget fr 11)) h)
def spec_ReadSoundFile.J6 (Post : Value → Heap → Prop) (data_0b : Option Addr) (data_0l : Nat) (data_0c : Nat) (kind_6 : Int) (rate_7 : Int) (n_8 : Int) (h : Heap) : Prop :=
    SLB (0 : Int) ((IntKind.i64.wrap ((data_0l : Int) - (4 : Int)))) (data_0c : Int) <|
    CALL prg f_spec_l10Samples #[.slice (slA data_0b data_0c 0 1) (((Int.toNat ((IntKind.i64.wrap ((data_0l : Int) - (4 : Int))))) - 0)) (data_0c - 0), .int .i64 kind_6, .int .i64 n_8] (fun q27 h28 =>
    asL q27 fun l29b l29l l29c =>
    CALL prg f_spec_l10File #[.int .i64 kind_6, .int .i64 rate_7, .slice l29b l29l l29c] (fun q30 h31 =>
    asL q30 fun l32b l32l l32c =>
    SLB (0 : Int) ((IntKind.i64.wrap ((l32l : Int) - (4 : Int)))) (l32c : Int) <|
    SLB (0 : Int) ((IntKind.i64.wrap ((data_0l : Int) - (4 : Int)))) (data_0c : Int) <|
    (SEMV prg (convert T_sl_uint8 T_string (.slice (slA l32b l32c 0 1) (((Int.toNat ((IntKind.i64.wrap ((l32l : Int) - (4 : Int))))) - 0)) (l32c - 0))) (fun q37 h38 =>
    asS q37 fun s39 =>
    SEMV prg (convert T_sl_uint8 T_string (.slice (slA data_0b data_0c 0 1) (((Int.toNat ((IntKind.i64.wrap ((data_0l : Int) - (4 : Int))))) - 0)) (data_0c - 0))) (fun q40 h41 =>
    asS q40 fun s42 =>
    BIF (!(ByteArray.toList s39 == ByteArray.toList s42)) (
    ALC ⟨[]⟩ T_float32 (fun g43 h44 =>
    Post (.tuple ⟨[.int .i64 (0 : Int), .int .i64 (0 : Int), .slice (some ⟨g43, 0, none⟩) 0 0, .int .i64 (5 : Int)]⟩) h44) h41) (
    spec_ReadSoundFile.J10 Post data_0b data_0l data_0c kind_6 rate_7 l29b l29l l29c l32b l32l l32c h41)) h38) h31) ∧ (SEMV prg (convert T_sl_uint8 T_string (.slice (slA data_0b data_0c 0 1) (((Int.toNat ((IntKind.i64.wrap ((data_0l : Int) - (4 : Int))))) - 0)) (data_0c - 0))) (fun q45 h46 =>
    asS q45 fun s47 =>
    SEMV prg (convert T_sl_uint8 T_string (.slice (slA l32b l32c 0 1) (((Int.toNat ((IntKind.i64.wrap ((l32l : Int) - (4 : Int))))) - 0)) (l32c - 0))) (fun q48 h49 =>
    asS q48 fun s50 =>
    BIF (!(ByteArray.toList s50 == ByteArray.toList s47)) (
    ALC ⟨[]⟩ T_float32 (fun g51 h52 =>
    Post (.tuple ⟨[.int .i64 (0 : Int), .int .i64 (0 : Int), .slice (some ⟨g51, 0, none⟩) 0 0, .int .i64 (5 : Int)]⟩) h52) h49) (
    spec_ReadSoundFile.J10 Post data_0b data_0l data_0c kind_6 rate_7 l29b l29l l29c l32b l32l l32c h49)) h46) h31)) h28) h
def spec_ReadSoundFile.j6 (Post : Value → Heap → Prop) : Frame → Heap → Prop := fun fr h => GRD (shape (kds 70 [(0, .l), (6, .i .i64), (7, .i .i64), (8, .i .i64)]) fr) (spec_ReadSoundFile.J6 Post (gLb (lget fr 0)) (gLl (lget fr 0)) (gLc (lget fr 0)) (gI (lget fr 6)) (gI (lget fr 7)) (gI (lget fr 8)) h)
def spec_ReadSoundFile.S (data_0b : Option Addr) (data_0l data_0c : Nat) (Post : Value → Heap → Prop) (h : Heap) : Prop :=
    CALL prg f_spec_l10Long #[.slice data_0b data_0l data_0c] (fun q1 h2 =>
    asB q1 fun b3 =>
    BIF b3 (
    ALC ⟨[]⟩ T_float32 (fun g4 h5 =>
    Post (.tuple ⟨[.int .i64 (0 : Int), .int .i64 (0 : Int), .slice (some ⟨g4, 0, none⟩) 0 0, .int .i64 (3 : Int)]⟩) h5) h2) (
    CALL prg f_spec_l10Head #[.slice data_0b data_0l data_0c] (fun q6 h7 =>
    TUP4 q6 fun q8 q9 q10 q11 =>
    asI .i64 q8 fun n12 =>
    asI .i64 q9 fun n13 =>
    asI .i64 q10 fun n14 =>
    asB q11 fun b15 =>
    BIF (!b15) (
    ALC ⟨[]⟩ T_float32 (fun g16 h17 =>
    Post (.tuple ⟨[.int .i64 (0 : Int), .int .i64 (0 : Int), .slice (some ⟨g16, 0, none⟩) 0 0, .int .i64 (5 : Int)]⟩) h17) h7) (
    CALL prg f_spec_l10Width #[.int .i64 n12] (fun q20 h21 =>
    asI .i64 q20 fun n22 =>
    BIF (((data_0l : Int) != (IntKind.i64.wrap ((16 : Int) + (IntKind.i64.wrap (n14 * n22)))))) (
    ALC ⟨[]⟩ T_float32 (fun g23 h24 =>
    Post (.tuple ⟨[.int .i64 (0 : Int), .int .i64 (0 : Int), .slice (some ⟨g23, 0, none⟩) 0 0, .int .i64 (5 : Int)]⟩) h24) h21) (
    spec_ReadSoundFile.J6 Post data_0b data_0l data_0c n12 n13 n14 h21)) h7)) h2)) h
noncomputable def spec_ReadSoundFile.code : Code := (Try.f27.body).getD .skip
theorem spec_ReadSoundFile.call {data_0b : Option Addr} {data_0l data_0c : Nat} {Post : Value → Heap → Prop} {h : Heap} (H : spec_ReadSoundFile.S data_0b data_0l data_0c Post h) : CALL prg f_spec_ReadSoundFile #[.slice data_0b data_0l data_0c] Post h :=
  fn_call tau_ok mixed (c := spec_ReadSoundFile.code) (Λ := lookL [(6, spec_ReadSoundFile.j6 Post), (10, spec_ReadSoundFile.j10 Post)]) Try.func27 (by kernel_rfl) (by kernel_rfl)
    (Rq.seq (by kernel_rfl) (Rq.free (by kernel_rfl)) (Rq.seq (by kernel_rfl) (Rq.free (by kernel_rfl)) (Rq.seq (by kernel_rfl) (Rq.free (by kernel_rfl)) (Rq.seqJ (spec_ReadSoundFile.j6 Post) (by kernel_rfl) (seg (fun _ _ => by kernel_rfl)) (Rq.free (by kernel_rfl))
(Rq.seq (by kernel_rfl) (Rq.free (by kernel_rfl)) (Rq.seq (by kernel_rfl) (Rq.free (by kernel_rfl)) (Rq.seqJ (spec_ReadSoundFile.j10 Post) (by kernel_rfl) (seg (fun _ _ => by kernel_rfl)) (Rq.free (by kernel_rfl))
(Rq.free (by kernel_rfl)))))))))
    (Eq.mp (by kernel_rfl) H)

/-! #### bytes.Equal (function 56) -/
def bytes_Equal.S (a_0b : Option Addr) (a_0l a_0c : Nat) (b_1b : Option Addr) (b_1l b_1c : Nat) (Post : Value → Heap → Prop) (h : Heap) : Prop :=
    SEMV prg (convert T_sl_uint8 T_string (.slice a_0b a_0l a_0c)) (fun q1 h2 =>
    asS q1 fun s3 =>
    SEMV prg (convert T_sl_uint8 T_string (.slice b_1b b_1l b_1c)) (fun q4 h5 =>
    asS q4 fun s6 =>
    Post (.bool (ByteArray.toList s3 == ByteArray.toList s6)) h5) h2) h
noncomputable def bytes_Equal.code : Code := (Try.f56.body).getD .skip
theorem bytes_Equal.call {a_0b : Option Addr} {a_0l a_0c : Nat} {b_1b : Option Addr} {b_1l b_1c : Nat} {Post : Value → Heap → Prop} {h : Heap} (H : bytes_Equal.S a_0b a_0l a_0c b_1b b_1l b_1c Post h) : CALL prg f_bytes_Equal #[.slice a_0b a_0l a_0c, .slice b_1b b_1l b_1c] Post h :=
  fn_call tau_ok mixed (c := bytes_Equal.code) (Λ := lookL []) Try.func56 (by kernel_rfl) (by kernel_rfl)
    (Rq.free (by kernel_rfl))
    (Eq.mp (by kernel_rfl) H)

/-! #### loop.example/g01173/impl.ReadSoundFile (function 28) -/
def impl_ReadSoundFile.J6 (Post : Value → Heap → Prop) (data_0b : Option Addr) (data_0l : Nat) (data_0c : Nat) (kind_6 : Int) (rate_7 : Int) (count_8 : Int) (h : Heap) : Prop :=
    SLB (12 : Int) (data_0l : Int) (data_0c : Int) <|
    CALL prg f_impl_soundSamples #[.int .i64 kind_6, .slice (slA data_0b data_0c 12 1) (data_0l - 12) (data_0c - 12), .int .i64 count_8] (fun q19 h20 =>
    asL q19 fun l21b l21l l21c =>
    CALL prg f_impl_soundFile #[.int .i64 kind_6, .int .i64 rate_7, .slice l21b l21l l21c] (fun q22 h23 =>
    asL q22 fun l24b l24l l24c =>
    SLB (0 : Int) ((IntKind.i64.wrap ((data_0l : Int) - (4 : Int)))) (l24c : Int) <|
    SLB (0 : Int) ((IntKind.i64.wrap ((data_0l : Int) - (4 : Int)))) (data_0c : Int) <|
    CALL prg f_bytes_Equal #[.slice (slA l24b l24c 0 1) (((Int.toNat ((IntKind.i64.wrap ((data_0l : Int) - (4 : Int))))) - 0)) (l24c - 0), .slice (slA data_0b data_0c 0 1) (((Int.toNat ((IntKind.i64.wrap ((data_0l : Int) - (4 : Int))))) - 0)) (data_0c - 0)] (fun q27 h28 =>
    asB q27 fun b29 =>
    BIF (!b29) (
    Post (.tuple ⟨[.int .i64 (0 : Int), .int .i64 (0 : Int), .slice none 0 0, .int .i64 (5 : Int)]⟩) h28) (
    CALL prg f_bytes_Equal #[.slice l24b l24l l24c, .slice data_0b data_0l data_0c] (fun q30 h31 =>
    asB q30 fun b32 =>
    BIF (!b32) (
    Post (.tuple ⟨[.int .i64 (0 : Int), .int .i64 (0 : Int), .slice none 0 0, .int .i64 (8 : Int)]⟩) h31) (
    Post (.tuple ⟨[.int .i64 kind_6, .int .i64 rate_7, .slice l21b l21l l21c, .int .i64 (0 : Int)]⟩) h31)) h28)) h23) h20) h
def impl_ReadSoundFile.j6 (Post : Value → Heap → Prop) : Frame → Heap → Prop := fun fr h => GRD (shape (kds 63 [(0, .l), (6, .i .i64), (7, .i .i64), (8, .i .i64)]) fr) (impl_ReadSoundFile.J6 Post (gLb (lget fr 0)) (gLl (lget fr 0)) (gLc (lget fr 0)) (gI (lget fr 6)) (gI (lget fr 7)) (gI (lget fr 8)) h)
def impl_ReadSoundFile.S (data_0b : Option Addr) (data_0l data_0c : Nat) (Post : Value → Heap → Prop) (h : Heap) : Prop :=
    CALL prg f_impl_isLongFile #[.slice data_0b data_0l data_0c] (fun q1 h2 =>
    asB q1 fun b3 =>
    BIF b3 (
    Post (.tuple ⟨[.int .i64 (0 : Int), .int .i64 (0 : Int), .slice none 0 0, .int .i64 (3 : Int)]⟩) h2) (
    CALL prg f_impl_soundHead #[.slice data_0b data_0l data_0c] (fun q4 h5 =>
    TUP4 q4 fun q6 q7 q8 q9 =>
    asI .i64 q6 fun n10 =>
    asI .i64 q7 fun n11 =>
    asI .i64 q8 fun n12 =>
    asB q9 fun b13 =>
    BIF (!b13) (
    Post (.tuple ⟨[.int .i64 (0 : Int), .int .i64 (0 : Int), .slice none 0 0, .int .i64 (5 : Int)]⟩) h5) (
    CALL prg f_impl_sampleSize #[.int .i64 n10] (fun q16 h17 =>
    asI .i64 q16 fun n18 =>
    BIF (((data_0l : Int) != (IntKind.i64.wrap ((16 : Int) + (IntKind.i64.wrap (n12 * n18)))))) (
    Post (.tuple ⟨[.int .i64 (0 : Int), .int .i64 (0 : Int), .slice none 0 0, .int .i64 (5 : Int)]⟩) h17) (
    impl_ReadSoundFile.J6 Post data_0b data_0l data_0c n10 n11 n12 h17)) h5)) h2)) h
noncomputable def impl_ReadSoundFile.code : Code := (Try.f28.body).getD .skip
theorem impl_ReadSoundFile.call {data_0b : Option Addr} {data_0l data_0c : Nat} {Post : Value → Heap → Prop} {h : Heap} (H : impl_ReadSoundFile.S data_0b data_0l data_0c Post h) : CALL prg f_impl_ReadSoundFile #[.slice data_0b data_0l data_0c] Post h :=
  fn_call tau_ok mixed (c := impl_ReadSoundFile.code) (Λ := lookL [(6, impl_ReadSoundFile.j6 Post)]) Try.func28 (by kernel_rfl) (by kernel_rfl)
    (Rq.seq (by kernel_rfl) (Rq.free (by kernel_rfl)) (Rq.seq (by kernel_rfl) (Rq.free (by kernel_rfl)) (Rq.seq (by kernel_rfl) (Rq.free (by kernel_rfl)) (Rq.seqJ (impl_ReadSoundFile.j6 Post) (by kernel_rfl) (seg (fun _ _ => by kernel_rfl)) (Rq.free (by kernel_rfl))
(Rq.free (by kernel_rfl))))))
    (Eq.mp (by kernel_rfl) H)

/-! #### loop.example/g01173/laws.FnExactReadSoundFile (function 7) -/
def laws_FnExactReadSoundFile.J14 (Post : Value → Heap → Prop) (aData_0b : Option Addr) (aData_0l : Nat) (aData_0c : Nat) (w0_3 : Int) (w1_4 : Int) (w2_5b : Option Addr) (w2_5l : Nat) (w2_5c : Nat) (w3_6 : Int) (g2_10b : Option Addr) (g2_10l : Nat) (g2_10c : Nat) (h : Heap) : Prop :=
    CALL prg f_laws_markFloat32S #[.slice g2_10b g2_10l g2_10c, .int .i64 (1 : Int)] (fun q44 h45 =>
    asI .i64 q44 fun n46 =>
    CALL prg f_laws_heldFloat32S #[.slice g2_10b g2_10l g2_10c, .int .i64 (1 : Int)] (fun q47 h48 =>
    asI .i64 q47 fun n49 =>
    BIF ((decide (n49 < (0 : Int)))) (
    Post (.bool false) h48) (
    BIF (n49 != n46) (
    Post (.bool false) h48) (
    CALL prg f_laws_toByteS #[.slice aData_0b aData_0l aData_0c] (fun q50 h51 =>
    asL q50 fun l52b l52l l52c =>
    CALL prg f_impl_ReadSoundFile #[.slice l52b l52l l52c] (fun q53 h54 =>
    TUP4 q53 fun q55 q56 q57 q58 =>
    asI .i64 q55 fun n59 =>
    asI .i64 q56 fun n60 =>
    asL q57 fun l61b l61l l61c =>
    asI .i64 q58 fun n62 =>
    BIF (n59 != w0_3) (
    Post (.bool false) h54) (
    BIF (n60 != w1_4) (
    Post (.bool false) h54) (
    CALL prg f_laws_eqFloat32S #[.slice l61b l61l l61c, .slice w2_5b w2_5l w2_5c] (fun q63 h64 =>
    asB q63 fun b65 =>
    BIF (!b65) (
    Post (.bool false) h64) (
    BIF (n62 != w3_6) (
    Post (.bool false) h64) (
    CALL prg f_laws_heldFloat32S #[.slice g2_10b g2_10l g2_10c, .int .i64 (1 : Int)] (fun q66 h67 =>
    asI .i64 q66 fun n68 =>
    BIF ((decide (n68 < (0 : Int)))) (
    Post (.bool false) h67) (
    BIF (n68 != n46) (
    Post (.bool false) h67) (
    Post (.bool true) h67))) h64))) h54))) h51) h48))) h45) h
def laws_FnExactReadSoundFile.j14 (Post : Value → Heap → Prop) : Frame → Heap → Prop := fun fr h => GRD (shape (kds 135 [(0, .l), (3, .i .i64), (4, .i .i64), (5, .l), (6, .i .i64), (10, .l)]) fr) (laws_FnExactReadSoundFile.J14 Post (gLb (lget fr 0)) (gLl (lget fr 0)) (gLc (lget fr 0)) (gI (lget fr 3)) (gI (lget fr 4)) (gLb (lget fr 5)) (gLl (lget fr 5)) (gLc (lget fr 5)) (gI (lget fr 6)) (gLb (lget fr 10)) (gLl (lget fr 10)) (gLc (lget fr 10)) h)
def laws_FnExactReadSoundFile.J8 (Post : Value → Heap → Prop) (aData_0b : Option Addr) (aData_0l : Nat) (aData_0c : Nat) (w0_3 : Int) (w1_4 : Int) (w2_5b : Option Addr) (w2_5l : Nat) (w2_5c : Nat) (w3_6 : Int) (x0_7b : Option Addr) (x0_7l : Nat) (x0_7c : Nat) (g0_8 : Int) (g1_9 : Int) (g2_10b : Option Addr) (g2_10l : Nat) (g2_10c : Nat) (g3_11 : Int) (h : Heap) : Prop :=
    CALL prg f_laws_toByteS #[.slice aData_0b aData_0l aData_0c] (fun q32 h33 =>
    asL q32 fun l34b l34l l34c =>
    CALL prg f_laws_eqByteS #[.slice x0_7b x0_7l x0_7c, .slice l34b l34l l34c] (fun q35 h36 =>
    asB q35 fun b37 =>
    BIF (!b37) (
    Post (.bool false) h36) (
    CALL prg f_laws_markByteS #[.slice x0_7b x0_7l x0_7c, .int .i64 (1 : Int)] (fun q38 h39 =>
    asI .i64 q38 fun n40 =>
    BIF ((decide (n40 < (0 : Int)))) (
    Post (.bool false) h39) (
    BIF (g0_8 != w0_3) (
    Post (.bool false) h39) (
    BIF (g1_9 != w1_4) (
    Post (.bool false) h39) (
    CALL prg f_laws_eqFloat32S #[.slice g2_10b g2_10l g2_10c, .slice w2_5b w2_5l w2_5c] (fun q41 h42 =>
    asB q41 fun b43 =>
    BIF (!b43) (
    Post (.bool false) h42) (
    BIF (g3_11 != w3_6) (
    Post (.bool false) h42) (
    laws_FnExactReadSoundFile.J14 Post aData_0b aData_0l aData_0c w0_3 w1_4 w2_5b w2_5l w2_5c w3_6 g2_10b g2_10l g2_10c h42))) h39)))) h36)) h33) h
def laws_FnExactReadSoundFile.j8 (Post : Value → Heap → Prop) : Frame → Heap → Prop := fun fr h => GRD (shape (kds 135 [(0, .l), (3, .i .i64), (4, .i .i64), (5, .l), (6, .i .i64), (7, .l), (8, .i .i64), (9, .i .i64), (10, .l), (11, .i .i64)]) fr) (laws_FnExactReadSoundFile.J8 Post (gLb (lget fr 0)) (gLl (lget fr 0)) (gLc (lget fr 0)) (gI (lget fr 3)) (gI (lget fr 4)) (gLb (lget fr 5)) (gLl (lget fr 5)) (gLc (lget fr 5)) (gI (lget fr 6)) (gLb (lget fr 7)) (gLl (lget fr 7)) (gLc (lget fr 7)) (gI (lget fr 8)) (gI (lget fr 9)) (gLb (lget fr 10)) (gLl (lget fr 10)) (gLc (lget fr 10)) (gI (lget fr 11)) h)
def laws_FnExactReadSoundFile.S (aData_0b : Option Addr) (aData_0l aData_0c : Nat) (Post : Value → Heap → Prop) (h : Heap) : Prop :=
    BIF ((decide ((1048576 : Int) < (aData_0l : Int)))) (
    Post (.bool true) h) (
    CALL prg f_laws_toByteS #[.slice aData_0b aData_0l aData_0c] (fun q3 h4 =>
    asL q3 fun l5b l5l l5c =>
    CALL prg f_spec_ReadSoundFile #[.slice l5b l5l l5c] (fun q6 h7 =>
    TUP4 q6 fun q8 q9 q10 q11 =>
    asI .i64 q8 fun n12 =>
    asI .i64 q9 fun n13 =>
    asL q10 fun l14b l14l l14c =>
    asI .i64 q11 fun n15 =>
    CALL prg f_laws_toByteS #[.slice aData_0b aData_0l aData_0c] (fun q16 h17 =>
    asL q16 fun l18b l18l l18c =>
    CALL prg f_impl_ReadSoundFile #[.slice l18b l18l l18c] (fun q19 h20 =>
    TUP4 q19 fun q21 q22 q23 q24 =>
    asI .i64 q21 fun n25 =>
    asI .i64 q22 fun n26 =>
    asL q23 fun l27b l27l l27c =>
    asI .i64 q24 fun n28 =>
    BIF (n25 != n12) (
    Post (.bool false) h20) (
    BIF (n26 != n13) (
    Post (.bool false) h20) (
    CALL prg f_laws_eqFloat32S #[.slice l27b l27l l27c, .slice l14b l14l l14c] (fun q29 h30 =>
    asB q29 fun b31 =>
    BIF (!b31) (
    Post (.bool false) h30) (
    BIF (n28 != n15) (
    Post (.bool false) h30) (
    laws_FnExactReadSoundFile.J8 Post aData_0b aData_0l aData_0c n12 n13 l14b l14l l14c n15 l18b l18l l18c n25 n26 l27b l27l l27c n28 h30))) h20))) h17) h7) h4) h)
noncomputable def laws_FnExactReadSoundFile.code : Code := (Try.f7.body).getD .skip
theorem laws_FnExactReadSoundFile.call {aData_0b : Option Addr} {aData_0l aData_0c : Nat} {Post : Value → Heap → Prop} {h : Heap} (H : laws_FnExactReadSoundFile.S aData_0b aData_0l aData_0c Post h) : CALL prg f_laws_FnExactReadSoundFile #[.slice aData_0b aData_0l aData_0c] Post h :=
  fn_call tau_ok mixed (c := laws_FnExactReadSoundFile.code) (Λ := lookL [(8, laws_FnExactReadSoundFile.j8 Post), (14, laws_FnExactReadSoundFile.j14 Post)]) Try.func7 (by kernel_rfl) (by kernel_rfl)
    (Rq.seq (by kernel_rfl) (Rq.free (by kernel_rfl)) (Rq.seq (by kernel_rfl) (Rq.free (by kernel_rfl)) (Rq.seq (by kernel_rfl) (Rq.free (by kernel_rfl)) (Rq.seq (by kernel_rfl) (Rq.free (by kernel_rfl)) (Rq.seq (by kernel_rfl) (Rq.free (by kernel_rfl)) (Rq.seqJ (laws_FnExactReadSoundFile.j8 Post) (by kernel_rfl) (seg (fun _ _ => by kernel_rfl)) (Rq.free (by kernel_rfl))
(Rq.seq (by kernel_rfl) (Rq.free (by kernel_rfl)) (Rq.seq (by kernel_rfl) (Rq.free (by kernel_rfl)) (Rq.seq (by kernel_rfl) (Rq.free (by kernel_rfl)) (Rq.seqJ (laws_FnExactReadSoundFile.j14 Post) (by kernel_rfl) (seg (fun _ _ => by kernel_rfl)) (Rq.free (by kernel_rfl))
(Rq.free (by kernel_rfl))))))))))))
    (Eq.mp (by kernel_rfl) H)

end Go.Sx
