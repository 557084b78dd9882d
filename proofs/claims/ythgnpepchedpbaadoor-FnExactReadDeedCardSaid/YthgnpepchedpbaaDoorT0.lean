/- What functions of this seat's program compute, told in words (a predicate over heaps for each), and the proofs that the words are no more than the code's own weakest precondition. -/
import Derived.Test.YthgnpepchedpbaaDoorTab
namespace Go.Sx
open Go.Proofs
set_option linter.unusedVariables false
set_option maxRecDepth 100000

def laws_eqDeed.S (a_0 : Array Value) (b_1 : Array Value) (Post : Value → Heap → Prop) (h : Heap) : Prop :=
    ALC a_0 T_impl_Deed (fun g1 h2 =>
    ALC b_1 T_impl_Deed (fun g3 h4 =>
    oI .i64 (cell h4 ⟨g1, 0, none⟩) fun n5 =>
    oI .i64 (cell h4 ⟨g3, 0, none⟩) fun n6 =>
    BIF (n5 != n6) (
    Post (.bool false) h4) (
    oI .i64 (cell h4 ⟨g1, 1, none⟩) fun n7 =>
    oI .i64 (cell h4 ⟨g3, 1, none⟩) fun n8 =>
    BIF (n7 != n8) (
    Post (.bool false) h4) (
    oI .i64 (cell h4 ⟨g1, 2, none⟩) fun n9 =>
    oI .i64 (cell h4 ⟨g3, 2, none⟩) fun n10 =>
    BIF (n9 != n10) (
    Post (.bool false) h4) (
    Post (.bool true) h4)))) h2) h
noncomputable def laws_eqDeed.code : Code := (Tryd.f10.body).getD .skip
theorem laws_eqDeed.call {a_0 : Array Value} {b_1 : Array Value} {Post : Value → Heap → Prop} {h : Heap} (H : laws_eqDeed.S a_0 b_1 Post h) : CALL prg f_laws_eqDeed #[.agg a_0, .agg b_1] Post h :=
  fn_call tau_ok mixed (c := laws_eqDeed.code) (Λ := lookL []) Tryd.func10 (by kernel_rfl) (by kernel_rfl)
    (Rq.free (by kernel_rfl))
    (Eq.mp (by kernel_rfl) H)

def spec_l10Names.S (Post : Value → Heap → Prop) (h : Heap) : Prop :=
    ALC ⟨[.string (⟨#[]⟩ : ByteArray), .string (⟨#[103, 105, 118, 101]⟩ : ByteArray), .string (⟨#[119, 111, 114, 107]⟩ : ByteArray), .string (⟨#[100, 101, 108, 105, 118, 101, 114]⟩ : ByteArray), .string (⟨#[99, 111, 112, 121]⟩ : ByteArray), .string (⟨#[100, 114, 111, 112]⟩ : ByteArray), .string (⟨#[115, 112, 111, 105, 108]⟩ : ByteArray), .string (⟨#[115, 121, 110, 99]⟩ : ByteArray), .string (⟨#[99, 114, 97, 115, 104]⟩ : ByteArray), .string (⟨#[113, 117, 105, 116]⟩ : ByteArray)]⟩ T_string (fun g1 h2 =>
    Post (.slice (some ⟨g1, 0, none⟩) 10 10) h2) h
noncomputable def spec_l10Names.code : Code := (Tryd.f12.body).getD .skip
theorem spec_l10Names.call {Post : Value → Heap → Prop} {h : Heap} (H : spec_l10Names.S  Post h) : CALL prg f_spec_l10Names #[] Post h :=
  fn_call tau_ok mixed (c := spec_l10Names.code) (Λ := lookL []) Tryd.func12 (by kernel_rfl) (by kernel_rfl)
    (Rq.free (by kernel_rfl))
    (Eq.mp (by kernel_rfl) H)

def spec_l10Numbers.S (kind_0 : Int) (Post : Value → Heap → Prop) (h : Heap) : Prop :=
    BIF (kind_0 == (7 : Int)) (
    BIF (kind_0 == (7 : Int)) (
    Post (.int .i64 (0 : Int)) h) (
    BIF (kind_0 == (6 : Int)) (
    Post (.int .i64 (2 : Int)) h) (
    Post (.int .i64 (1 : Int)) h))) (
    BIF (kind_0 == (8 : Int)) (
    Post (.int .i64 (0 : Int)) h) (
    BIF (kind_0 == (6 : Int)) (
    Post (.int .i64 (2 : Int)) h) (
    Post (.int .i64 (1 : Int)) h)))
noncomputable def spec_l10Numbers.code : Code := (Tryd.f13.body).getD .skip
theorem spec_l10Numbers.call {kind_0 : Int} {Post : Value → Heap → Prop} {h : Heap} (H : spec_l10Numbers.S kind_0 Post h) : CALL prg f_spec_l10Numbers #[.int .i64 kind_0] Post h :=
  fn_call tau_ok mixed (c := spec_l10Numbers.code) (Λ := lookL []) Tryd.func13 (by kernel_rfl) (by kernel_rfl)
    (Rq.free (by kernel_rfl))
    (Eq.mp (by kernel_rfl) H)

def spec_ValidDeed.J3 (Post : Value → Heap → Prop) (d_1 : Addr) (h : Heap) : Prop :=
    oI .i64 (cell h d_1) fun n15 =>
    CALL prg f_spec_l10Numbers #[.int .i64 n15] (fun q16 h17 =>
    asI .i64 q16 fun n18 =>
    BIF ((decide ((0 : Int) < n18))) (
    oI .i64 (cell h17 d_1) fun n19 =>
    CALL prg f_spec_l10Numbers #[.int .i64 n19] (fun q20 h21 =>
    asI .i64 q20 fun n22 =>
    BIF ((decide ((1 : Int) < n22))) (
    Post (.bool true) h21) (
    oI .i64 (cell h21 (Addr.add d_1 2)) fun n23 =>
    Post (.bool (n23 == (0 : Int))) h21)) h17) (
    oI .i64 (cell h17 (Addr.add d_1 1)) fun n24 =>
    BIF (n24 == (0 : Int)) (
    oI .i64 (cell h17 d_1) fun n25 =>
    CALL prg f_spec_l10Numbers #[.int .i64 n25] (fun q26 h27 =>
    asI .i64 q26 fun n28 =>
    BIF ((decide ((1 : Int) < n28))) (
    Post (.bool true) h27) (
    oI .i64 (cell h27 (Addr.add d_1 2)) fun n29 =>
    Post (.bool (n29 == (0 : Int))) h27)) h17) (
    Post (.bool false) h17))) h
def spec_ValidDeed.j3 (Post : Value → Heap → Prop) : Frame → Heap → Prop := fun fr h => GRD (shape (kds 39 [(1, .p)]) fr) (spec_ValidDeed.J3 Post (gP (lget fr 1)) h)
def spec_ValidDeed.S (d_0 : Array Value) (Post : Value → Heap → Prop) (h : Heap) : Prop :=
    ALC d_0 T_impl_Deed (fun g1 h2 =>
    oI .i64 (cell h2 ⟨g1, 0, none⟩) fun n3 =>
    CALL prg f_spec_l00In #[.int .i64 n3, .int .i64 (1 : Int), .int .i64 (9 : Int)] (fun q4 h5 =>
    asB q4 fun b6 =>
    BIF (!b6) (
    Post (.bool false) h5) (
    oI .i64 (cell h5 ⟨g1, 1, none⟩) fun n7 =>
    CALL prg f_spec_l00In #[.int .i64 n7, .int .i64 (0 : Int), .int .i64 (999 : Int)] (fun q8 h9 =>
    asB q8 fun b10 =>
    BIF (!b10) (
    Post (.bool false) h9) (
    oI .i64 (cell h9 ⟨g1, 2, none⟩) fun n11 =>
    CALL prg f_spec_l00In #[.int .i64 n11, .int .i64 (0 : Int), .int .i64 (999 : Int)] (fun q12 h13 =>
    asB q12 fun b14 =>
    BIF (!b14) (
    Post (.bool false) h13) (
    spec_ValidDeed.J3 Post ⟨g1, 0, none⟩ h13)) h9)) h5)) h2) h
noncomputable def spec_ValidDeed.code : Code := (Tryd.f11.body).getD .skip
theorem spec_ValidDeed.call {d_0 : Array Value} {Post : Value → Heap → Prop} {h : Heap} (H : spec_ValidDeed.S d_0 Post h) : CALL prg f_spec_ValidDeed #[.agg d_0] Post h :=
  fn_call tau_ok mixed (c := spec_ValidDeed.code) (Λ := lookL [(3, spec_ValidDeed.j3 Post)]) Tryd.func11 (by kernel_rfl) (by kernel_rfl)
    (Rq.seq (by kernel_rfl) (Rq.free (by kernel_rfl)) (Rq.seqJ (spec_ValidDeed.j3 Post) (by kernel_rfl) (seg (fun _ _ => by kernel_rfl)) (Rq.free (by kernel_rfl))
(Rq.free (by kernel_rfl))))
    (Eq.mp (by kernel_rfl) H)

def impl_deedWord.S (kind_0 : Int) (Post : Value → Heap → Prop) (h : Heap) : Prop :=
    BIF (kind_0 == (1 : Int)) (
    Post (.tuple ⟨[.string (⟨#[103, 105, 118, 101]⟩ : ByteArray), .int .i64 (1 : Int)]⟩) h) (
    BIF (kind_0 == (2 : Int)) (
    Post (.tuple ⟨[.string (⟨#[119, 111, 114, 107]⟩ : ByteArray), .int .i64 (1 : Int)]⟩) h) (
    BIF (kind_0 == (3 : Int)) (
    Post (.tuple ⟨[.string (⟨#[100, 101, 108, 105, 118, 101, 114]⟩ : ByteArray), .int .i64 (1 : Int)]⟩) h) (
    BIF (kind_0 == (4 : Int)) (
    Post (.tuple ⟨[.string (⟨#[99, 111, 112, 121]⟩ : ByteArray), .int .i64 (1 : Int)]⟩) h) (
    BIF (kind_0 == (5 : Int)) (
    Post (.tuple ⟨[.string (⟨#[100, 114, 111, 112]⟩ : ByteArray), .int .i64 (1 : Int)]⟩) h) (
    BIF (kind_0 == (6 : Int)) (
    Post (.tuple ⟨[.string (⟨#[115, 112, 111, 105, 108]⟩ : ByteArray), .int .i64 (2 : Int)]⟩) h) (
    BIF (kind_0 == (7 : Int)) (
    Post (.tuple ⟨[.string (⟨#[115, 121, 110, 99]⟩ : ByteArray), .int .i64 (0 : Int)]⟩) h) (
    BIF (kind_0 == (8 : Int)) (
    Post (.tuple ⟨[.string (⟨#[99, 114, 97, 115, 104]⟩ : ByteArray), .int .i64 (0 : Int)]⟩) h) (
    BIF (kind_0 == (9 : Int)) (
    Post (.tuple ⟨[.string (⟨#[113, 117, 105, 116]⟩ : ByteArray), .int .i64 (1 : Int)]⟩) h) (
    Post (.tuple ⟨[.string (⟨#[]⟩ : ByteArray), .int .i64 (0 : Int)]⟩) h)))))))))
noncomputable def impl_deedWord.code : Code := (Tryd.f16.body).getD .skip
theorem impl_deedWord.call {kind_0 : Int} {Post : Value → Heap → Prop} {h : Heap} (H : impl_deedWord.S kind_0 Post h) : CALL prg f_impl_deedWord #[.int .i64 kind_0] Post h :=
  fn_call tau_ok mixed (c := impl_deedWord.code) (Λ := lookL []) Tryd.func16 (by kernel_rfl) (by kernel_rfl)
    (Rq.free (by kernel_rfl))
    (Eq.mp (by kernel_rfl) H)

def impl_ValidDeed.S (d_0 : Array Value) (Post : Value → Heap → Prop) (h : Heap) : Prop :=
    ALC d_0 T_impl_Deed (fun g1 h2 =>
    oI .i64 (cell h2 ⟨g1, 0, none⟩) fun n3 =>
    CALL prg f_impl_deedWord #[.int .i64 n3] (fun q4 h5 =>
    TUP2 q4 fun q6 q7 =>
    asS q6 fun s8 =>
    asI .i64 q7 fun n9 =>
    BIF ((!(ByteArray.toList s8 == ByteArray.toList (⟨#[]⟩ : ByteArray)))) (
    oI .i64 (cell h5 ⟨g1, 1, none⟩) fun n10 =>
    CALL prg f_impl_within #[.int .i64 n10, .int .i64 (0 : Int), .int .i64 (999 : Int)] (fun q11 h12 =>
    asB q11 fun b13 =>
    BIF b13 (
    oI .i64 (cell h12 ⟨g1, 2, none⟩) fun n14 =>
    CALL prg f_impl_within #[.int .i64 n14, .int .i64 (0 : Int), .int .i64 (999 : Int)] (fun q15 h16 =>
    asB q15 fun b17 =>
    BIF b17 (
    BIF ((decide ((0 : Int) < n9))) (
    BIF ((decide ((1 : Int) < n9))) (
    Post (.bool true) h16) (
    oI .i64 (cell h16 ⟨g1, 2, none⟩) fun n18 =>
    Post (.bool (n18 == (0 : Int))) h16)) (
    oI .i64 (cell h16 ⟨g1, 1, none⟩) fun n19 =>
    BIF (n19 == (0 : Int)) (
    BIF ((decide ((1 : Int) < n9))) (
    Post (.bool true) h16) (
    oI .i64 (cell h16 ⟨g1, 2, none⟩) fun n20 =>
    Post (.bool (n20 == (0 : Int))) h16)) (
    Post (.bool false) h16))) (
    Post (.bool false) h16)) h12) (
    Post (.bool false) h12)) h5) (
    Post (.bool false) h5)) h2) h
noncomputable def impl_ValidDeed.code : Code := (Tryd.f15.body).getD .skip
theorem impl_ValidDeed.call {d_0 : Array Value} {Post : Value → Heap → Prop} {h : Heap} (H : impl_ValidDeed.S d_0 Post h) : CALL prg f_impl_ValidDeed #[.agg d_0] Post h :=
  fn_call tau_ok mixed (c := impl_ValidDeed.code) (Λ := lookL []) Tryd.func15 (by kernel_rfl) (by kernel_rfl)
    (Rq.free (by kernel_rfl))
    (Eq.mp (by kernel_rfl) H)

end Go.Sx
