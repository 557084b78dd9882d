/- What functions of this seat's program compute, told in words (a predicate over heaps for each), and the proofs that the words are no more than the code's own weakest precondition. -/
import Derived.Test.YtkgmfiloghhibaaGreatDoorTab
import Derived.Test.YtkgmfiloghhibaaGreatDoorTB
import Derived.Test.YtkgmfiloghhibaaGreatDoorLk10
namespace Go.Sx
open Go.Proofs
set_option linter.unusedVariables false
set_option maxRecDepth 100000

def impl_ringText.S (r_0 : Array Value) (Post : Value → Heap → Prop) (h : Heap) : Prop :=
    ALC r_0 T_impl_Ring (fun g1 h2 =>
    oL (cell h2 ⟨g1, 0, none⟩) fun l3b l3l l3c =>
    oI .i64 (cell h2 ⟨g1, 1, none⟩) fun n4 =>
    oL (cell h2 ⟨g1, 0, none⟩) fun l5b l5l l5c =>
    CALL prg f_impl_length_float32 #[.slice l3b l3l l3c] (fun q6 h7 =>
    asI .i64 q6 fun n8 =>
    PIN h2 ⟨g1, 0, none⟩ 1 h7 <|
    PIN h2 ⟨g1, 1, none⟩ 1 h7 <|
    CALL prg f_impl_decimal #[.int .i64 n8] (fun q9 h10 =>
    asS q9 fun s11 =>
    PIN h2 ⟨g1, 0, none⟩ 1 h10 <|
    PIN h2 ⟨g1, 1, none⟩ 1 h10 <|
    ((ByteArray.size s11 + ByteArray.size (⟨#[32]⟩ : ByteArray) : Nat) : Int) ≤ 9223372036854775807 ∧ (
    CALL prg f_impl_decimal #[.int .i64 n4] (fun q12 h13 =>
    asS q12 fun s14 =>
    PIN h2 ⟨g1, 0, none⟩ 1 h13 <|
    ((ByteArray.size (s11 ++ (⟨#[32]⟩ : ByteArray)) + ByteArray.size s14 : Nat) : Int) ≤ 9223372036854775807 ∧ (
    ((ByteArray.size (((s11 ++ (⟨#[32]⟩ : ByteArray)) ++ s14)) + ByteArray.size (⟨#[32]⟩ : ByteArray) : Nat) : Int) ≤ 9223372036854775807 ∧ (
    CALL prg f_impl_samplesText #[.slice l5b l5l l5c] (fun q15 h16 =>
    asS q15 fun s17 =>
    ((ByteArray.size ((((s11 ++ (⟨#[32]⟩ : ByteArray)) ++ s14) ++ (⟨#[32]⟩ : ByteArray))) + ByteArray.size s17 : Nat) : Int) ≤ 9223372036854775807 ∧ (
    Post (.string (((((s11 ++ (⟨#[32]⟩ : ByteArray)) ++ s14) ++ (⟨#[32]⟩ : ByteArray)) ++ s17))) h16)) h13))) h10)) h7) h2) h
noncomputable def impl_ringText.code : Code := (Tryz.f48.body).getD .skip
theorem impl_ringText.call {r_0 : Array Value} {Post : Value → Heap → Prop} {h : Heap} (H : impl_ringText.S r_0 Post h) : CALL prg f_impl_ringText #[.agg r_0] Post h :=
  fn_call tau_ok mixed (c := impl_ringText.code) (Λ := lookL []) Tryz.func48 (by kernel_rfl) (by kernel_rfl)
    (Rq.free (by kernel_rfl))
    (Eq.mp (by kernel_rfl) H)

def impl_readRing.S (line_0 : ByteArray) (Post : Value → Heap → Prop) (h : Heap) : Prop :=
    ALC ⟨Z_impl_Ring⟩ T_impl_Ring (fun g1 h2 =>
    CALL prg f_strings_Split #[.string line_0, .string (⟨#[32]⟩ : ByteArray)] (fun q3 h4 =>
    asL q3 fun l5b l5l l5c =>
    BIF ((decide ((l5l : Int) < (3 : Int)))) (
    STA 2 h4 ⟨g1, 0, none⟩ (⟨[.slice none 0 0, .int .i64 (0 : Int)]⟩ : Array Value) fun h8 =>
    LDA 2 h8 ⟨g1, 0, none⟩ fun a9 =>
    Post (.tuple ⟨[.agg a9, .bool false]⟩) h8) (
    IDXS l5b (0 : Int) l5l fun p10 =>
    oS (cell h4 p10) fun s11 =>
    CALL prg f_impl_readDecimal #[.string s11] (fun q12 h13 =>
    TUP2 q12 fun q14 q15 =>
    asI .i64 q14 fun n16 =>
    asB q15 fun b17 =>
    IDXS l5b (1 : Int) l5l fun p18 =>
    oS (cell h13 (Addr.add p18 1)) fun s19 =>
    CALL prg f_impl_readDecimal #[.string s19] (fun q20 h21 =>
    TUP2 q20 fun q22 q23 =>
    asI .i64 q22 fun n24 =>
    asB q23 fun b25 =>
    SLB (2 : Int) (l5l : Int) (l5c : Int) <|
    CALL prg f_impl_readSamples #[.slice (slA l5b l5c 2 1) (l5l - 2) (l5c - 2)] (fun q26 h27 =>
    TUP2 q26 fun q28 q29 =>
    asL q28 fun l30b l30l l30c =>
    asB q29 fun b31 =>
    BIF b17 (
    BIF b25 (
    BIF b31 (
    CALL prg f_impl_length_float32 #[.slice l30b l30l l30c] (fun q32 h33 =>
    asI .i64 q32 fun n34 =>
    STA 2 h33 ⟨g1, 0, none⟩ (⟨[.slice l30b l30l l30c, .int .i64 n24]⟩ : Array Value) fun h35 =>
    LDA 2 h35 ⟨g1, 0, none⟩ fun a36 =>
    Post (.tuple ⟨[.agg a36, .bool (n16 == n34)]⟩) h35) h27) (
    STA 2 h27 ⟨g1, 0, none⟩ (⟨[.slice l30b l30l l30c, .int .i64 n24]⟩ : Array Value) fun h37 =>
    LDA 2 h37 ⟨g1, 0, none⟩ fun a38 =>
    Post (.tuple ⟨[.agg a38, .bool false]⟩) h37)) (
    STA 2 h27 ⟨g1, 0, none⟩ (⟨[.slice l30b l30l l30c, .int .i64 n24]⟩ : Array Value) fun h39 =>
    LDA 2 h39 ⟨g1, 0, none⟩ fun a40 =>
    Post (.tuple ⟨[.agg a40, .bool false]⟩) h39)) (
    STA 2 h27 ⟨g1, 0, none⟩ (⟨[.slice l30b l30l l30c, .int .i64 n24]⟩ : Array Value) fun h41 =>
    LDA 2 h41 ⟨g1, 0, none⟩ fun a42 =>
    Post (.tuple ⟨[.agg a42, .bool false]⟩) h41)) h21) h13) h4)) h2) h
noncomputable def impl_readRing.code : Code := (Tryz.f42.body).getD .skip
theorem impl_readRing.call {line_0 : ByteArray} {Post : Value → Heap → Prop} {h : Heap} (H : impl_readRing.S line_0 Post h) : CALL prg f_impl_readRing #[.string line_0] Post h :=
  fn_call tau_ok mixed (c := impl_readRing.code) (Λ := lookL []) Tryz.func42 (by kernel_rfl) (by kernel_rfl)
    (Rq.free (by kernel_rfl))
    (Eq.mp (by kernel_rfl) H)

def impl_FilterText.S (f_0 : Array Value) (Post : Value → Heap → Prop) (h : Heap) : Prop :=
    ALC f_0 T_impl_Filter (fun g1 h2 =>
    LDA 6 h2 ⟨g1, 0, none⟩ fun a3 =>
    CALL prg f_impl_ValidFilter #[.agg a3] (fun q4 h5 =>
    asB q4 fun b6 =>
    BIF (!b6) (
    Post (.string (⟨#[]⟩ : ByteArray)) h5) (
    oI .i64 (cell h5 ⟨g1, 0, none⟩) fun n7 =>
    SLB (0 : Int) (3 : Int) (3 : Int) <|
    SLB (0 : Int) (2 : Int) (2 : Int) <|
    CALL prg f_strconv_FormatInt #[.int .i64 n7, .int .i64 (10 : Int)] (fun q8 h9 =>
    asS q8 fun s10 =>
    ((ByteArray.size (⟨#[102, 105, 108, 116, 101, 114, 32]⟩ : ByteArray) + ByteArray.size s10 : Nat) : Int) ≤ 9223372036854775807 ∧ (
    ((ByteArray.size ((⟨#[102, 105, 108, 116, 101, 114, 32]⟩ : ByteArray) ++ s10) + ByteArray.size (⟨#[32]⟩ : ByteArray) : Nat) : Int) ≤ 9223372036854775807 ∧ (
    CALL prg f_impl_samplesText #[.slice (some (slP ⟨g1, 1, none⟩ 3 0 1)) (3 - 0) (3 - 0)] (fun q11 h12 =>
    asS q11 fun s13 =>
    ((ByteArray.size ((((⟨#[102, 105, 108, 116, 101, 114, 32]⟩ : ByteArray) ++ s10) ++ (⟨#[32]⟩ : ByteArray))) + ByteArray.size s13 : Nat) : Int) ≤ 9223372036854775807 ∧ (
    ((ByteArray.size (((((⟨#[102, 105, 108, 116, 101, 114, 32]⟩ : ByteArray) ++ s10) ++ (⟨#[32]⟩ : ByteArray)) ++ s13)) + ByteArray.size (⟨#[32]⟩ : ByteArray) : Nat) : Int) ≤ 9223372036854775807 ∧ (
    CALL prg f_impl_samplesText #[.slice (some (slP ⟨g1, 4, none⟩ 2 0 1)) (2 - 0) (2 - 0)] (fun q14 h15 =>
    asS q14 fun s16 =>
    ((ByteArray.size ((((((⟨#[102, 105, 108, 116, 101, 114, 32]⟩ : ByteArray) ++ s10) ++ (⟨#[32]⟩ : ByteArray)) ++ s13) ++ (⟨#[32]⟩ : ByteArray))) + ByteArray.size s16 : Nat) : Int) ≤ 9223372036854775807 ∧ (
    Post (.string (((((((⟨#[102, 105, 108, 116, 101, 114, 32]⟩ : ByteArray) ++ s10) ++ (⟨#[32]⟩ : ByteArray)) ++ s13) ++ (⟨#[32]⟩ : ByteArray)) ++ s16))) h15)) h12))) h9))) h5)) h2) h
noncomputable def impl_FilterText.code : Code := (Tryz.f46.body).getD .skip
theorem impl_FilterText.call {f_0 : Array Value} {Post : Value → Heap → Prop} {h : Heap} (H : impl_FilterText.S f_0 Post h) : CALL prg f_impl_FilterText #[.agg f_0] Post h :=
  fn_call tau_ok mixed (c := impl_FilterText.code) (Λ := lookL []) Tryz.func46 (by kernel_rfl) (by kernel_rfl)
    (Rq.free (by kernel_rfl))
    (Eq.mp (by kernel_rfl) H)

def impl_ReadFilter.J8 (Post : Value → Heap → Prop) (text_0 : ByteArray) (t2 : Addr) (kind_5 : Int) (list_7b : Option Addr) (list_7l : Nat) (list_7c : Nat) (h : Heap) : Prop :=
    SLB (0 : Int) (3 : Int) (list_7c : Int) <|
    AAP (slA list_7b list_7c 0 1) 3 (3 - 0) fun p35 =>
    LDA 3 h p35 fun a36 =>
    SLB (3 : Int) (list_7l : Int) (list_7c : Int) <|
    AAP (slA list_7b list_7c 3 1) 2 (list_7l - 3) fun p37 =>
    LDA 2 h p37 fun a38 =>
    SIZ (Array.size a36) 3 <|
    SIZ (Array.size a38) 2 <|
    ALC ⟨Z_impl_Filter⟩ T_impl_Filter (fun g39 h40 =>
    PIN h p37 2 h40 <|
    PIN h p35 3 h40 <|
    STA 6 h40 ⟨g39, 0, none⟩ ⟨(splice 4 2 a38 (splice 1 3 a36 [.int .i64 kind_5, .float .f32 0, .float .f32 0, .float .f32 0, .float .f32 0, .float .f32 0]))⟩ fun h41 =>
    LDA 6 h41 ⟨g39, 0, none⟩ fun a42 =>
    CALL prg f_impl_FilterText #[.agg a42] (fun q43 h44 =>
    asS q43 fun s45 =>
    BIF (!(ByteArray.toList s45 == ByteArray.toList text_0)) (
    STA 6 h44 t2 (⟨[.int .i64 (0 : Int), .float .f32 0, .float .f32 0, .float .f32 0, .float .f32 0, .float .f32 0]⟩ : Array Value) fun h46 =>
    LDA 6 h46 t2 fun a47 =>
    Post (.tuple ⟨[.agg a47, .int .i64 (5 : Int)]⟩) h46) (
    LDA 6 h44 ⟨g39, 0, none⟩ fun a48 =>
    STA 6 h44 t2 a48 fun h49 =>
    LDA 6 h49 t2 fun a50 =>
    Post (.tuple ⟨[.agg a50, .int .i64 (0 : Int)]⟩) h49)) h41) h
def impl_ReadFilter.j8 (Post : Value → Heap → Prop) : Frame → Heap → Prop := fun fr h => GRD (shape (kds 52 [(0, .s), (2, .p), (5, .i .i64), (7, .l)]) fr) (impl_ReadFilter.J8 Post (gS (lget fr 0)) (gP (lget fr 2)) (gI (lget fr 5)) (gLb (lget fr 7)) (gLl (lget fr 7)) (gLc (lget fr 7)) h)
def impl_ReadFilter.S (text_0 : ByteArray) (Post : Value → Heap → Prop) (h : Heap) : Prop :=
    ALC ⟨Z_impl_Filter⟩ T_impl_Filter (fun g1 h2 =>
    CALL prg f_strings_Split #[.string text_0, .string (⟨#[32]⟩ : ByteArray)] (fun q3 h4 =>
    asL q3 fun l5b l5l l5c =>
    BIF ((l5l : Int) != (7 : Int)) (
    STA 6 h4 ⟨g1, 0, none⟩ (⟨[.int .i64 (0 : Int), .float .f32 0, .float .f32 0, .float .f32 0, .float .f32 0, .float .f32 0]⟩ : Array Value) fun h8 =>
    LDA 6 h8 ⟨g1, 0, none⟩ fun a9 =>
    Post (.tuple ⟨[.agg a9, .int .i64 (5 : Int)]⟩) h8) (
    IDXS l5b (1 : Int) l5l fun p10 =>
    oS (cell h4 (Addr.add p10 1)) fun s11 =>
    CALL prg f_strconv_ParseInt #[.string s11, .int .i64 (10 : Int), .int .i64 (64 : Int)] (fun q12 h13 =>
    TUP2 q12 fun q14 q15 =>
    asI .i64 q14 fun n16 =>
    SLB (2 : Int) (l5l : Int) (l5c : Int) <|
    CALL prg f_impl_readSamples #[.slice (slA l5b l5c 2 1) (l5l - 2) (l5c - 2)] (fun q17 h18 =>
    TUP2 q17 fun q19 q20 =>
    asL q19 fun l21b l21l l21c =>
    asB q20 fun b22 =>
    binI tau .neq T_error q15 .nilIface (
    CMP prg .neq T_error (.tmp 29) (.const .nilIface) q15 .nilIface (fun b23 h24 =>
    BIF b23 (
    STA 6 h24 ⟨g1, 0, none⟩ (⟨[.int .i64 (0 : Int), .float .f32 0, .float .f32 0, .float .f32 0, .float .f32 0, .float .f32 0]⟩ : Array Value) fun h25 =>
    LDA 6 h25 ⟨g1, 0, none⟩ fun a26 =>
    Post (.tuple ⟨[.agg a26, .int .i64 (5 : Int)]⟩) h25) (
    BIF (!b22) (
    STA 6 h24 ⟨g1, 0, none⟩ (⟨[.int .i64 (0 : Int), .float .f32 0, .float .f32 0, .float .f32 0, .float .f32 0, .float .f32 0]⟩ : Array Value) fun h27 =>
    LDA 6 h27 ⟨g1, 0, none⟩ fun a28 =>
    Post (.tuple ⟨[.agg a28, .int .i64 (5 : Int)]⟩) h27) (
    impl_ReadFilter.J8 Post text_0 ⟨g1, 0, none⟩ n16 l21b l21l l21c h24))) h18) fun v29 =>
    SPL v29 (
    STA 6 h18 ⟨g1, 0, none⟩ (⟨[.int .i64 (0 : Int), .float .f32 0, .float .f32 0, .float .f32 0, .float .f32 0, .float .f32 0]⟩ : Array Value) fun h31 =>
    LDA 6 h31 ⟨g1, 0, none⟩ fun a32 =>
    Post (.tuple ⟨[.agg a32, .int .i64 (5 : Int)]⟩) h31) (
    BIF (!b22) (
    STA 6 h18 ⟨g1, 0, none⟩ (⟨[.int .i64 (0 : Int), .float .f32 0, .float .f32 0, .float .f32 0, .float .f32 0, .float .f32 0]⟩ : Array Value) fun h33 =>
    LDA 6 h33 ⟨g1, 0, none⟩ fun a34 =>
    Post (.tuple ⟨[.agg a34, .int .i64 (5 : Int)]⟩) h33) (
    impl_ReadFilter.J8 Post text_0 ⟨g1, 0, none⟩ n16 l21b l21l l21c h18)) fun cs30 =>
    False) h13) h4)) h2) h
noncomputable def impl_ReadFilter.code : Code := (Tryz.f41.body).getD .skip
theorem impl_ReadFilter.call {text_0 : ByteArray} {Post : Value → Heap → Prop} {h : Heap} (H : impl_ReadFilter.S text_0 Post h) : CALL prg f_impl_ReadFilter #[.string text_0] Post h :=
  fn_call tau_ok mixed (c := impl_ReadFilter.code) (Λ := lookL [(8, impl_ReadFilter.j8 Post)]) Tryz.func41 (by kernel_rfl) (by kernel_rfl)
    (Rq.seq (by kernel_rfl) (Rq.free (by kernel_rfl)) (Rq.seq (by kernel_rfl) (Rq.free (by kernel_rfl)) (Rq.seq (by kernel_rfl) (Rq.free (by kernel_rfl)) (Rq.seq (by kernel_rfl) (Rq.free (by kernel_rfl)) (Rq.seq (by kernel_rfl) (Rq.free (by kernel_rfl)) (Rq.seqJ (impl_ReadFilter.j8 Post) (by kernel_rfl) (seg (fun _ _ => by kernel_rfl)) (Rq.free (by kernel_rfl))
(Rq.free (by kernel_rfl))))))))
    (Eq.mp (by kernel_rfl) H)

def impl_linesOf.S (text_0 : ByteArray) (many_1 : Int) (Post : Value → Heap → Prop) (h : Heap) : Prop :=
    CALL prg f_strings_Split #[.string text_0, .string (⟨#[10]⟩ : ByteArray)] (fun q1 h2 =>
    asL q1 fun l3b l3l l3c =>
    BIF (((l3l : Int) != (IntKind.i64.wrap (many_1 + (1 : Int))))) (
    Post (.tuple ⟨[.slice none 0 0, .bool false]⟩) h2) (
    IDXS l3b many_1 l3l fun p6 =>
    oS (cell h2 ((Addr.add p6 ((Int.toNat many_1) * 1)))) fun s7 =>
    BIF ((!(ByteArray.toList s7 == ByteArray.toList (⟨#[]⟩ : ByteArray)))) (
    Post (.tuple ⟨[.slice none 0 0, .bool false]⟩) h2) (
    SLB (0 : Int) many_1 (l3c : Int) <|
    Post (.tuple ⟨[.slice (slA l3b l3c 0 1) ((Int.toNat many_1) - 0) (l3c - 0), .bool true]⟩) h2))) h
noncomputable def impl_linesOf.code : Code := (Tryz.f37.body).getD .skip
theorem impl_linesOf.call {text_0 : ByteArray} {many_1 : Int} {Post : Value → Heap → Prop} {h : Heap} (H : impl_linesOf.S text_0 many_1 Post h) : CALL prg f_impl_linesOf #[.string text_0, .int .i64 many_1] Post h :=
  fn_call tau_ok mixed (c := impl_linesOf.code) (Λ := lookL []) Tryz.func37 (by kernel_rfl) (by kernel_rfl)
    (Rq.free (by kernel_rfl))
    (Eq.mp (by kernel_rfl) H)

end Go.Sx
/- Rings, filters and lines, told and read. -/
set_option linter.unusedVariables false
set_option linter.unusedSimpArgs false
namespace Go.Sx
open Go.Proofs
set_option maxRecDepth 100000
set_option maxHeartbeats 1000000

/-- What the texts of a program lean on. -/
structure Txt (h : Heap) : Prop where
  lb : Libs h
  br : Bru h
theorem Txt.ext {h h' : Heap} (T : Txt h) (X : Ext h h') : Txt h' := ⟨T.lb.ext X, T.br.ext X⟩
theorem decB_mk (n : Nat) : decB n = mkB (Lib.decDigits n) := rfl
theorem slr_drop {α : Type} {r : Rep α} {h : Heap} {b : Option Addr} {l c n : Nat} {xs : List α} (S : SlR r h b l c xs) (hn : n ≤ l) : SlR r h (slA b c n r.sz) (l - n) (c - n) (xs.drop n) := by
  obtain ⟨h1, h2, h3, ws, h4, h5⟩ := S
  refine ⟨by rw [List.length_drop, h1], by omega, by omega, ws.drop (n * r.sz), ?_, ?_⟩
  · refine h4.sub ?_
    rw [h5.len, h1]
    exact Nat.mul_le_mul_right _ h2
  · have key : ∀ (xs : List α) (ws : List Value) (n : Nat), rds r h ws xs → rds r h (ws.drop (n * r.sz)) (xs.drop n) := by
      intro xs
      induction xs with
      | nil => intro ws n e; rw [show ws = [] from e]; simp [rds]
      | cons x xs ih =>
        intro ws n e
        cases n with
        | zero => simpa using e
        | succ n =>
          obtain ⟨v1, v2, rfl, g1, g2⟩ := e
          have := ih v2 n g2
          rw [Nat.succ_mul, Nat.add_comm, ← List.drop_drop, List.drop_left' (r.rlen g1)]
          exact this
    exact key xs ws n h5
theorem strV_slr {h0 h : Heap} {L : List Blk} {g : Nat} {ls : List (List UInt8)} (M : Mem h0 h L) (l : Look L g (strV ls)) (hs : ∀ x ∈ ls, x.length ≤ maxLen) (hn : ls.length ≤ maxLen) : SlR rS h (some ⟨g, 0, none⟩) ls.length ls.length (ls.map mkB) := by
  refine ⟨by rw [List.length_map], Nat.le_refl _, hn, ls.map fun l => .string (mkB l), fun i hi => ⟨_, rfl, ?_⟩, ?_⟩
  · rw [add_none, M.cell l, Nat.zero_add]
    unfold strV
    rw [List.getElem?_toArray]
  · clear l hn
    induction ls with
    | nil => rfl
    | cons x r ih => exact ⟨[_], _, rfl, ⟨rfl, by rw [mk_size]; exact hs x (List.mem_cons_self ..)⟩, ih fun y hy => hs y (List.mem_cons_of_mem _ hy)⟩
section
variable {h0 h : Heap} {L : List Blk}
theorem readDec_ok {m : Nat} (T : Txt h) (hm : m < 1000000000) : CALL prg f_impl_readDecimal #[.string (mkB (Lib.decDigits m))] (fun u h' => u = .tuple ⟨[.int .i64 (m : Int), .bool true]⟩ ∧ Ext h h') h := by
  have hd := dec_le (n := m) (k := 8) hm
  refine (readDecimal_c T.lb (s := mkB (Lib.decDigits m)) (by rw [mk_size]; omega)).mono ?_
  rintro _ h1 ⟨v, ok, rfl, k, x1⟩
  obtain ⟨rfl, rfl⟩ := k m (by omega) rfl
  exact ⟨rfl, x1⟩
theorem ringText_c {cs : Array Value} {r : GRing} (R0 : rRing.rd h cs.toList r) (A : RingA r) (T : Txt h) : CALL prg f_impl_ringText #[.agg cs] (fun u h' => u = .string (mkB r.line) ∧ Ext h h') h := by
  have B := A.b
  have hl := B.len
  have a0 := B.a0
  have a1 := B.a1
  have d1 := dec_le (n := r.Samples.length) (k := 9) (by omega)
  have d2 := dec_le (n := r.At.toNat) (k := 9) (by omega)
  have sz := smp_le B.bits
  refine impl_ringText.call (alcR R0 fun g h1 x1 R => R.oL1 fun b l c S => R.oI2 (R.oL1 fun b' l' c' S' => ?_))
  obtain rfl := S.len
  have el' := S'.len
  refine goX (length_f32_c _ _ _ _) fun h2 x2 => as_i ?_
  have P0 : ∀ (j : Nat) {hh : Heap} {p : Prop}, j + 1 ≤ rRing.sz → Ext h1 hh → p → PIN h1 ⟨g, j, none⟩ 1 hh p := fun j {hh p} hj X H => by
    have q1 := R.pinO (off := j) (n := 1) hj X H
    rwa [add_g] at q1
  have P1 : ∀ {hh : Heap} {p : Prop}, Ext h1 hh → p → PIN h1 ⟨g, 0, none⟩ 1 hh p := fun X H => P0 0 (by decide) X H
  have P2 : ∀ {hh : Heap} {p : Prop}, Ext h1 hh → p → PIN h1 ⟨g, 0, none⟩ 1 hh (PIN h1 ⟨g, 1, none⟩ 1 hh p) := fun X H => P0 0 (by decide) X (P0 1 (by decide) X H)
  refine P2 x2 (goX (decimal_c (m := r.Samples.length) (by omega) (T.ext (x1.trans x2)).lb.tens) fun h3 x3 => as_s (P2 (x2.trans x3) ?_))
  rw [decB_mk]
  refine ⟨by simp only [ba_len, mk_size, List.length_cons, List.length_nil]; omega, ?_⟩
  obtain ⟨at_, hat⟩ : ∃ n : Nat, r.At = (n : Int) := ⟨r.At.toNat, by omega⟩
  rw [hat] at d2 ⊢
  rw [Int.toNat_natCast] at d2
  refine goX (decimal_c (m := at_) (by omega) (T.ext (x1.trans (x2.trans x3))).lb.tens) fun h4 x4 => as_s (P1 (x2.trans (x3.trans x4)) ?_)
  rw [decB_mk]
  refine ⟨by simp only [ba_len, mk_size, List.length_cons, List.length_nil]; omega, by simp only [ba_len, mk_size, List.length_cons, List.length_nil]; omega, ?_⟩
  refine goX (samplesText_c (S'.ext (x2.trans (x3.trans x4))) (by omega) (T.ext (x1.trans (x2.trans (x3.trans x4)))).br) fun h5 x5 => as_s ⟨by simp only [ba_len, mk_size, List.length_cons, List.length_nil]; omega, ?_, x1.trans (x2.trans (x3.trans (x4.trans x5)))⟩
  have e32 : (⟨#[32]⟩ : ByteArray) = mkB [32] := rfl
  rw [e32]
  simp only [mkB_app, List.append_assoc]
  unfold GRing.line ringL
  rw [hat, Int.toNat_natCast]
  rfl
theorem FilterText_c {cs : Array Value} {f : GFilter} (R0 : rFilter.rd h cs.toList f) (hok : f.ok = true) (A : FiltA f) (T : Txt h) : CALL prg f_impl_FilterText #[.agg cs] (fun u h' => u = .string (mkB f.line) ∧ Ext h h') h := by
  have B := A.b
  have k0 := B.k0
  have k1 := B.k1
  have c3 := B.c3
  have s2 := B.s2
  have d1 := dec_le (n := f.Kind.toNat) (k := 1) (by omega)
  have sz := smp_le B.cb
  have sz2 := smp_le B.sb
  refine impl_FilterText.call (alcR R0 fun g h1 x1 R => R.lda1 rfl fun c1 R1 => goX (ValidFilter_c R1) fun h2 x2 => as_b ?_)
  rw [hok]
  have R := R.ext x2
  refine br_f rfl (R.oI1 (slb (by decide) (by decide) (by decide) (slb (by decide) (by decide) (by decide) ?_)))
  obtain ⟨k, hk⟩ : ∃ n : Nat, f.Kind = (n : Int) := ⟨f.Kind.toNat, by omega⟩
  rw [hk, Int.toNat_natCast] at d1
  rw [hk]
  have D := FormatInt_n (n := (k : Int)) (by omega) (by omega) (T.ext (x1.trans x2)).lb.tens
  rw [Lib.itoa_nonneg] at D
  refine goX D fun h3 x3 => as_s ?_
  have SC := ((R.ext x3).foc0 foc_Filter_C).arr (by decide)
  refine ⟨by simp only [ba_len, mk_size, List.length_cons, List.length_nil]; omega, by simp only [ba_len, mk_size, List.length_cons, List.length_nil]; omega, ?_⟩
  rw [slP_zero]
  refine goX (samplesText_c SC (by decide) (T.ext (x1.trans (x2.trans x3))).br) fun h4 x4 => as_s ⟨by simp only [ba_len, mk_size, List.length_cons, List.length_nil]; omega, by simp only [ba_len, mk_size, List.length_cons, List.length_nil]; omega, ?_⟩
  have SS := ((R.ext (x3.trans x4)).foc0 foc_Filter_S).arr (by decide)
  rw [slP_zero]
  refine goX (samplesText_c SS (by decide) (T.ext (x1.trans (x2.trans (x3.trans x4)))).br) fun h5 x5 => as_s ⟨by simp only [ba_len, mk_size, List.length_cons, List.length_nil]; omega, ?_, x1.trans (x2.trans (x3.trans (x4.trans x5)))⟩
  have e32 : (⟨#[32]⟩ : ByteArray) = mkB [32] := rfl
  have e7 : (⟨#[102, 105, 108, 116, 101, 114, 32]⟩ : ByteArray) = mkB (fwL ++ [32]) := rfl
  rw [e32, e7]
  simp only [mkB_app, List.append_assoc]
  unfold GFilter.line filtL
  rw [hk, Int.toNat_natCast]
  rfl
/-- The lines of a text. -/
theorem linesOf_ok {ls : List (List UInt8)} {m : Nat} {K : Value → Heap → Prop} (T : Txt h) (hn : ls.length = m) (hm : m ≤ 1000) (hl : ∀ l ∈ ls, ∀ b ∈ l, b ≠ 10) (hs : (linL ls).length ≤ 1048576) (M : Mem h0 h L)
    (H : ∀ g h', Ext h h' → Mem h0 h' ((g, T_string, strV (ls ++ [[]])) :: L) → K (.tuple ⟨[.slice (some ⟨g, 0, none⟩) m (m + 1), .bool true]⟩) h') : CALL prg f_impl_linesOf #[.string (mkB (linL ls)), .int .i64 (m : Int)] K h := by
  refine impl_linesOf.call (Split_c (c := 10) T.lb (by rw [mk_size]; omega) M fun g h1 x1 M => as_l ?_)
  rw [mkB_data, lin_cut hl] at M ⊢
  have el : (ls ++ [[]]).length = m + 1 := by rw [List.length_append, hn]; rfl
  rw [el, wrap64_succ (by omega)]
  refine br_f (by simp) (idxs (by omega) (by omega) ?_)
  rw [Int.toNat_natCast, add_none, Nat.mul_one, Nat.zero_add]
  refine M.oS .here (strV_get (by omega)) ?_
  have e0 : (ls ++ [[]])[m]! = [] := by
    rw [getElem!_pos _ m (by omega), List.getElem_append_right (by omega)]
    simp [hn]
  rw [e0]
  refine br_f (by simp) (slb (by omega) (by omega) (by omega) ?_)
  have es : slA (some ⟨g, 0, none⟩) (m + 1) 0 1 = some ⟨g, 0, none⟩ := by unfold slA; rw [if_neg (by omega)]; rfl
  rw [es]
  exact H g h1 x1 M
theorem map_bits (ns : List Nat) : (ns.map bitL).map mkB = bitsS ns := by rw [List.map_map]; rfl
theorem readRing_ok {r : GRing} (A : RingA r) (T : Txt h) : CALL prg f_impl_readRing #[.string (mkB r.line)] (fun u h' => ∃ b l c B, u = .tuple ⟨[.agg ⟨[.slice b l c, .int .i64 r.At]⟩, .bool true]⟩ ∧ SlO T_float32 (rF .f32) B b l c r.Samples ∧ Mem h h' B) h := by
  have B := A.b
  have hl := B.len
  have a0 := B.a0
  have a1 := B.a1
  have sz := B.size
  have bc := B.cut
  have hne : 1 ≤ r.Samples.length := List.length_pos_iff.2 B.ne
  refine impl_readRing.call ((Mem.start h).alc fun g1 h1 x1 M => Split_c (c := 32) (T.ext x1).lb (by rw [mk_size]; omega) M fun g h2 x2 M => as_l ?_)
  rw [mkB_data, bc] at M ⊢
  have el : (Lib.decDigits r.Samples.length :: Lib.decDigits r.At.toNat :: r.Samples.map bitL).length = r.Samples.length + 2 := by simp
  have T2 := T.ext M.ext
  rw [el]
  refine br_f (by rw [decide_eq_false_iff_not]; omega) (idxs (by omega) (by omega) ?_)
  refine M.oS .here (j := 0) (strV_get (j := 0) (by omega)) ?_
  refine goM M (readDec_ok T2 (m := r.Samples.length) (by omega)) fun h3 M => tup2 (as_i (as_b (idxs (by omega) (by omega) ?_)))
  rw [add_none]
  refine M.oS .here (strV_get (j := 1) (by omega)) ?_
  refine goM M (readDec_ok (T.ext M.ext) (m := r.At.toNat) (by omega)) fun h4 M => tup2 (as_i (as_b (slb (by omega) (by omega) (by omega) ?_)))
  have S := strV_slr M .here (fun x hx => by
    have hm : (1048576 : Nat) ≤ maxLen := by decide
    simp only [List.mem_cons, List.mem_map] at hx
    rcases hx with rfl | rfl | ⟨n, hn, rfl⟩
    · have := dec_le (n := r.Samples.length) (k := 9) (by omega); omega
    · have := dec_le (n := r.At.toNat) (k := 9) (by omega); omega
    · rw [bitL_len (B.bits n hn)]; omega) (by have hm : (1048576 : Nat) ≤ maxLen := by decide
                                              omega)
  have S2 := slr_drop S (n := 2) (by omega)
  rw [el] at S2
  have e2 : ((Lib.decDigits r.Samples.length :: Lib.decDigits r.At.toNat :: r.Samples.map bitL).map mkB).drop 2 = bitsS r.Samples := map_bits _
  rw [e2] at S2
  refine (readSamples_ok S2 A.a (by omega) (T.ext M.ext).br).mono ?_
  rintro _ h5 ⟨b', c', B', rfl, O, N⟩
  have hol := O.len
  refine tup2 (as_l (as_b (br_t rfl (br_t rfl (br_t rfl ?_)))))
  have M := (M.join N).cnt (W := (g1, T_impl_Ring, ⟨Z_impl_Ring⟩) :: B') (fun p => by simp only [List.append_eq, cnt_app, cnt_cons, cnt_nil] at *; omega)
  refine goM M (length_f32_c _ _ _ _) fun h6 M => as_i ?_
  rw [Int.toNat_of_nonneg a0]
  refine M.sta0 .here rfl (all_one rfl) rfl .here fun h7 M => M.lda0 .here rfl ⟨b', _, c', B', ?_, O, M.drop⟩
  rw [show ((r.Samples.length : Int) == ((r.Samples.length + 2 - 2 : Nat) : Int)) = true by simp]
end
end Go.Sx
