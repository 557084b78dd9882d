/- Deeds read: the program's, and the law. -/
import Derived.Test.YtgbjfohgmpmjoaaGreatDoorLv0
import Derived.Test.YtgbjfohgmpmjoaaGreatDoorTab
import Derived.Test.YtgbjfohgmpmjoaaGreatDoorTB
import Derived.Test.YtgbjfohgmpmjoaaGreatDoorLk46
import Derived.Test.YtgbjfohgmpmjoaaGreatDoorK9
import Derived.Test.YtgbjfohgmpmjoaaGreatDoorLk21
import Derived.Test.YtgbjfohgmpmjoaaGreatDoorLp7
import Derived.Test.YtgbjfohgmpmjoaaGreatDoorLp4
import Derived.Test.YtgbjfohgmpmjoaaGreatDoorLr2
set_option linter.unusedVariables false
set_option linter.unusedSimpArgs false
namespace Go.Sx
open Go.Proofs
set_option maxRecDepth 100000
set_option maxHeartbeats 2000000

theorem strV_get {ls : List (List UInt8)} {j : Nat} (h : j < ls.length) : (strV ls)[j]? = some (.string (mkB ls[j]!)) := by
  unfold strV
  rw [List.getElem?_toArray, List.getElem?_map, List.getElem?_eq_getElem h, getElem!_pos ls j h]; rfl
end Go.Sx
/- What functions of this seat's program compute, told in words (a predicate over heaps for each), and the proofs that the words are no more than the code's own weakest precondition. -/
namespace Go.Sx
open Go.Proofs
set_option linter.unusedVariables false
set_option maxRecDepth 100000

def impl_FilterText.S (f_0 : Array Value) (Post : Value → Heap → Prop) (h : Heap) : Prop :=
    ALC f_0 T_impl_Filter (fun g1 h2 =>
    LDA 6 h2 ⟨g1, 0, none⟩ fun a3 =>
    CALL prg f_impl_ValidFilter #[.agg a3] (fun q4 h5 =>
    asB q4 fun b6 =>
    BIF (!b6) (
    Post (.string (⟨#[]⟩ : ByteArray)) h5) (
    oI .i64 (cell h5 ⟨g1, 0, none⟩) fun n7 =>
    SLB (0 : Int) (3 : Int) (3 : Int) <|
    SLB (0 : Int) (2 : Int) (2 : Int) <|
    CALL prg f_strconv_FormatInt #[.int .i64 n7, .int .i64 (10 : Int)] (fun q8 h9 =>
    asS q8 fun s10 =>
    ((ByteArray.size (⟨#[102, 105, 108, 116, 101, 114, 32]⟩ : ByteArray) + ByteArray.size s10 : Nat) : Int) ≤ 9223372036854775807 ∧ (
    ((ByteArray.size ((⟨#[102, 105, 108, 116, 101, 114, 32]⟩ : ByteArray) ++ s10) + ByteArray.size (⟨#[32]⟩ : ByteArray) : Nat) : Int) ≤ 9223372036854775807 ∧ (
    CALL prg f_impl_samplesText #[.slice (some (slP ⟨g1, 1, none⟩ 3 0 1)) (3 - 0) (3 - 0)] (fun q11 h12 =>
    asS q11 fun s13 =>
    ((ByteArray.size ((((⟨#[102, 105, 108, 116, 101, 114, 32]⟩ : ByteArray) ++ s10) ++ (⟨#[32]⟩ : ByteArray))) + ByteArray.size s13 : Nat) : Int) ≤ 9223372036854775807 ∧ (
    ((ByteArray.size (((((⟨#[102, 105, 108, 116, 101, 114, 32]⟩ : ByteArray) ++ s10) ++ (⟨#[32]⟩ : ByteArray)) ++ s13)) + ByteArray.size (⟨#[32]⟩ : ByteArray) : Nat) : Int) ≤ 9223372036854775807 ∧ (
    CALL prg f_impl_samplesText #[.slice (some (slP ⟨g1, 4, none⟩ 2 0 1)) (2 - 0) (2 - 0)] (fun q14 h15 =>
    asS q14 fun s16 =>
    ((ByteArray.size ((((((⟨#[102, 105, 108, 116, 101, 114, 32]⟩ : ByteArray) ++ s10) ++ (⟨#[32]⟩ : ByteArray)) ++ s13) ++ (⟨#[32]⟩ : ByteArray))) + ByteArray.size s16 : Nat) : Int) ≤ 9223372036854775807 ∧ (
    Post (.string (((((((⟨#[102, 105, 108, 116, 101, 114, 32]⟩ : ByteArray) ++ s10) ++ (⟨#[32]⟩ : ByteArray)) ++ s13) ++ (⟨#[32]⟩ : ByteArray)) ++ s16))) h15)) h12))) h9))) h5)) h2) h
noncomputable def impl_FilterText.code : Code := (Tryz.f17.body).getD .skip
theorem impl_FilterText.call {f_0 : Array Value} {Post : Value → Heap → Prop} {h : Heap} (H : impl_FilterText.S f_0 Post h) : CALL prg f_impl_FilterText #[.agg f_0] Post h :=
  fn_call tau_ok mixed (c := impl_FilterText.code) (Λ := lookL []) Tryz.func17 (by kernel_rfl) (by kernel_rfl)
    (Rq.free (by kernel_rfl))
    (Eq.mp (by kernel_rfl) H)

def impl_ReadFilter.J8 (Post : Value → Heap → Prop) (text_0 : ByteArray) (t2 : Addr) (kind_5 : Int) (list_7b : Option Addr) (list_7l : Nat) (list_7c : Nat) (h : Heap) : Prop :=
    SLB (0 : Int) (3 : Int) (list_7c : Int) <|
    AAP (slA list_7b list_7c 0 1) 3 (3 - 0) fun p35 =>
    LDA 3 h p35 fun a36 =>
    SLB (3 : Int) (list_7l : Int) (list_7c : Int) <|
    AAP (slA list_7b list_7c 3 1) 2 (list_7l - 3) fun p37 =>
    LDA 2 h p37 fun a38 =>
    SIZ (Array.size a36) 3 <|
    SIZ (Array.size a38) 2 <|
    ALC ⟨Z_impl_Filter⟩ T_impl_Filter (fun g39 h40 =>
    PIN h p37 2 h40 <|
    PIN h p35 3 h40 <|
    STA 6 h40 ⟨g39, 0, none⟩ ⟨(splice 4 2 a38 (splice 1 3 a36 [.int .i64 kind_5, .float .f32 0, .float .f32 0, .float .f32 0, .float .f32 0, .float .f32 0]))⟩ fun h41 =>
    LDA 6 h41 ⟨g39, 0, none⟩ fun a42 =>
    CALL prg f_impl_FilterText #[.agg a42] (fun q43 h44 =>
    asS q43 fun s45 =>
    BIF (!(ByteArray.toList s45 == ByteArray.toList text_0)) (
    STA 6 h44 t2 (⟨[.int .i64 (0 : Int), .float .f32 0, .float .f32 0, .float .f32 0, .float .f32 0, .float .f32 0]⟩ : Array Value) fun h46 =>
    LDA 6 h46 t2 fun a47 =>
    Post (.tuple ⟨[.agg a47, .int .i64 (5 : Int)]⟩) h46) (
    LDA 6 h44 ⟨g39, 0, none⟩ fun a48 =>
    STA 6 h44 t2 a48 fun h49 =>
    LDA 6 h49 t2 fun a50 =>
    Post (.tuple ⟨[.agg a50, .int .i64 (0 : Int)]⟩) h49)) h41) h
def impl_ReadFilter.j8 (Post : Value → Heap → Prop) : Frame → Heap → Prop := fun fr h => GRD (shape (kds 52 [(0, .s), (2, .p), (5, .i .i64), (7, .l)]) fr) (impl_ReadFilter.J8 Post (gS (lget fr 0)) (gP (lget fr 2)) (gI (lget fr 5)) (gLb (lget fr 7)) (gLl (lget fr 7)) (gLc (lget fr 7)) h)
def impl_ReadFilter.S (text_0 : ByteArray) (Post : Value → Heap → Prop) (h : Heap) : Prop :=
    ALC ⟨Z_impl_Filter⟩ T_impl_Filter (fun g1 h2 =>
    CALL prg f_strings_Split #[.string text_0, .string (⟨#[32]⟩ : ByteArray)] (fun q3 h4 =>
    asL q3 fun l5b l5l l5c =>
    BIF ((l5l : Int) != (7 : Int)) (
    STA 6 h4 ⟨g1, 0, none⟩ (⟨[.int .i64 (0 : Int), .float .f32 0, .float .f32 0, .float .f32 0, .float .f32 0, .float .f32 0]⟩ : Array Value) fun h8 =>
    LDA 6 h8 ⟨g1, 0, none⟩ fun a9 =>
    Post (.tuple ⟨[.agg a9, .int .i64 (5 : Int)]⟩) h8) (
    IDXS l5b (1 : Int) l5l fun p10 =>
    oS (cell h4 (Addr.add p10 1)) fun s11 =>
    CALL prg f_strconv_ParseInt #[.string s11, .int .i64 (10 : Int), .int .i64 (64 : Int)] (fun q12 h13 =>
    TUP2 q12 fun q14 q15 =>
    asI .i64 q14 fun n16 =>
    SLB (2 : Int) (l5l : Int) (l5c : Int) <|
    CALL prg f_impl_readSamples #[.slice (slA l5b l5c 2 1) (l5l - 2) (l5c - 2)] (fun q17 h18 =>
    TUP2 q17 fun q19 q20 =>
    asL q19 fun l21b l21l l21c =>
    asB q20 fun b22 =>
    binI tau .neq T_error q15 .nilIface (
    CMP prg .neq T_error (.tmp 29) (.const .nilIface) q15 .nilIface (fun b23 h24 =>
    BIF b23 (
    STA 6 h24 ⟨g1, 0, none⟩ (⟨[.int .i64 (0 : Int), .float .f32 0, .float .f32 0, .float .f32 0, .float .f32 0, .float .f32 0]⟩ : Array Value) fun h25 =>
    LDA 6 h25 ⟨g1, 0, none⟩ fun a26 =>
    Post (.tuple ⟨[.agg a26, .int .i64 (5 : Int)]⟩) h25) (
    BIF (!b22) (
    STA 6 h24 ⟨g1, 0, none⟩ (⟨[.int .i64 (0 : Int), .float .f32 0, .float .f32 0, .float .f32 0, .float .f32 0, .float .f32 0]⟩ : Array Value) fun h27 =>
    LDA 6 h27 ⟨g1, 0, none⟩ fun a28 =>
    Post (.tuple ⟨[.agg a28, .int .i64 (5 : Int)]⟩) h27) (
    impl_ReadFilter.J8 Post text_0 ⟨g1, 0, none⟩ n16 l21b l21l l21c h24))) h18) fun v29 =>
    SPL v29 (
    STA 6 h18 ⟨g1, 0, none⟩ (⟨[.int .i64 (0 : Int), .float .f32 0, .float .f32 0, .float .f32 0, .float .f32 0, .float .f32 0]⟩ : Array Value) fun h31 =>
    LDA 6 h31 ⟨g1, 0, none⟩ fun a32 =>
    Post (.tuple ⟨[.agg a32, .int .i64 (5 : Int)]⟩) h31) (
    BIF (!b22) (
    STA 6 h18 ⟨g1, 0, none⟩ (⟨[.int .i64 (0 : Int), .float .f32 0, .float .f32 0, .float .f32 0, .float .f32 0, .float .f32 0]⟩ : Array Value) fun h33 =>
    LDA 6 h33 ⟨g1, 0, none⟩ fun a34 =>
    Post (.tuple ⟨[.agg a34, .int .i64 (5 : Int)]⟩) h33) (
    impl_ReadFilter.J8 Post text_0 ⟨g1, 0, none⟩ n16 l21b l21l l21c h18)) fun cs30 =>
    False) h13) h4)) h2) h
noncomputable def impl_ReadFilter.code : Code := (Tryz.f16.body).getD .skip
theorem impl_ReadFilter.call {text_0 : ByteArray} {Post : Value → Heap → Prop} {h : Heap} (H : impl_ReadFilter.S text_0 Post h) : CALL prg f_impl_ReadFilter #[.string text_0] Post h :=
  fn_call tau_ok mixed (c := impl_ReadFilter.code) (Λ := lookL [(8, impl_ReadFilter.j8 Post)]) Tryz.func16 (by kernel_rfl) (by kernel_rfl)
    (Rq.seq (by kernel_rfl) (Rq.free (by kernel_rfl)) (Rq.seq (by kernel_rfl) (Rq.free (by kernel_rfl)) (Rq.seq (by kernel_rfl) (Rq.free (by kernel_rfl)) (Rq.seq (by kernel_rfl) (Rq.free (by kernel_rfl)) (Rq.seq (by kernel_rfl) (Rq.free (by kernel_rfl)) (Rq.seqJ (impl_ReadFilter.j8 Post) (by kernel_rfl) (seg (fun _ _ => by kernel_rfl)) (Rq.free (by kernel_rfl))
(Rq.free (by kernel_rfl))))))))
    (Eq.mp (by kernel_rfl) H)

end Go.Sx
/- Rings, filters and lines, told and read. -/
set_option linter.unusedVariables false
set_option linter.unusedSimpArgs false
namespace Go.Sx
open Go.Proofs
set_option maxRecDepth 100000
set_option maxHeartbeats 1000000

/-- What the texts of a program lean on. -/
structure Txt (h : Heap) : Prop where
  lb : Libs h
  br : Bru h
theorem Txt.ext {h h' : Heap} (T : Txt h) (X : Ext h h') : Txt h' := ⟨T.lb.ext X, T.br.ext X⟩
theorem slr_drop {α : Type} {r : Rep α} {h : Heap} {b : Option Addr} {l c n : Nat} {xs : List α} (S : SlR r h b l c xs) (hn : n ≤ l) : SlR r h (slA b c n r.sz) (l - n) (c - n) (xs.drop n) := by
  obtain ⟨h1, h2, h3, ws, h4, h5⟩ := S
  refine ⟨by rw [List.length_drop, h1], by omega, by omega, ws.drop (n * r.sz), ?_, ?_⟩
  · refine h4.sub ?_
    rw [h5.len, h1]
    exact Nat.mul_le_mul_right _ h2
  · have key : ∀ (xs : List α) (ws : List Value) (n : Nat), rds r h ws xs → rds r h (ws.drop (n * r.sz)) (xs.drop n) := by
      intro xs
      induction xs with
      | nil => intro ws n e; rw [show ws = [] from e]; simp [rds]
      | cons x xs ih =>
        intro ws n e
        cases n with
        | zero => simpa using e
        | succ n =>
          obtain ⟨v1, v2, rfl, g1, g2⟩ := e
          have := ih v2 n g2
          rw [Nat.succ_mul, Nat.add_comm, ← List.drop_drop, List.drop_left' (r.rlen g1)]
          exact this
    exact key xs ws n h5
theorem strV_slr {h0 h : Heap} {L : List Blk} {g : Nat} {ls : List (List UInt8)} (M : Mem h0 h L) (l : Look L g (strV ls)) (hs : ∀ x ∈ ls, x.length ≤ maxLen) (hn : ls.length ≤ maxLen) : SlR rS h (some ⟨g, 0, none⟩) ls.length ls.length (ls.map mkB) := by
  refine ⟨by rw [List.length_map], Nat.le_refl _, hn, ls.map fun l => .string (mkB l), fun i hi => ⟨_, rfl, ?_⟩, ?_⟩
  · rw [add_none, M.cell l, Nat.zero_add]
    unfold strV
    rw [List.getElem?_toArray]
  · clear l hn
    induction ls with
    | nil => rfl
    | cons x r ih => exact ⟨[_], _, rfl, ⟨rfl, by rw [mk_size]; exact hs x (List.mem_cons_self ..)⟩, ih fun y hy => hs y (List.mem_cons_of_mem _ hy)⟩
section
variable {h0 h : Heap} {L : List Blk}
theorem FilterText_c {cs : Array Value} {f : GFilter} (R0 : rFilter.rd h cs.toList f) (hok : f.ok = true) (A : FiltA f) (T : Txt h) : CALL prg f_impl_FilterText #[.agg cs] (fun u h' => u = .string (mkB f.line) ∧ Ext h h') h := by
  have B := A.b
  have k0 := B.k0
  have k1 := B.k1
  have c3 := B.c3
  have s2 := B.s2
  have d1 := dec_le (n := f.Kind.toNat) (k := 1) (by omega)
  have sz := smp_le B.cb
  have sz2 := smp_le B.sb
  refine impl_FilterText.call (alcR R0 fun g h1 x1 R => R.lda1 rfl fun c1 R1 => goX (ValidFilter_c R1) fun h2 x2 => as_b ?_)
  rw [hok]
  have R := R.ext x2
  refine br_f rfl (R.oI1 (slb (by decide) (by decide) (by decide) (slb (by decide) (by decide) (by decide) ?_)))
  obtain ⟨k, hk⟩ : ∃ n : Nat, f.Kind = (n : Int) := ⟨f.Kind.toNat, by omega⟩
  rw [hk, Int.toNat_natCast] at d1
  rw [hk]
  have D := FormatInt_n (n := (k : Int)) (by omega) (by omega) (T.ext (x1.trans x2)).lb.tens
  rw [Lib.itoa_nonneg] at D
  refine goX D fun h3 x3 => as_s ?_
  have SC := ((R.ext x3).foc0 foc_Filter_C).arr (by decide)
  refine ⟨by simp only [ba_len, mk_size, List.length_cons, List.length_nil]; omega, by simp only [ba_len, mk_size, List.length_cons, List.length_nil]; omega, ?_⟩
  rw [slP_zero]
  refine goX (samplesText_c SC (by decide) (T.ext (x1.trans (x2.trans x3))).br) fun h4 x4 => as_s ⟨by simp only [ba_len, mk_size, List.length_cons, List.length_nil]; omega, by simp only [ba_len, mk_size, List.length_cons, List.length_nil]; omega, ?_⟩
  have SS := ((R.ext (x3.trans x4)).foc0 foc_Filter_S).arr (by decide)
  rw [slP_zero]
  refine goX (samplesText_c SS (by decide) (T.ext (x1.trans (x2.trans (x3.trans x4)))).br) fun h5 x5 => as_s ⟨by simp only [ba_len, mk_size, List.length_cons, List.length_nil]; omega, ?_, x1.trans (x2.trans (x3.trans (x4.trans x5)))⟩
  have e32 : (⟨#[32]⟩ : ByteArray) = mkB [32] := rfl
  have e7 : (⟨#[102, 105, 108, 116, 101, 114, 32]⟩ : ByteArray) = mkB (fwL ++ [32]) := rfl
  rw [e32, e7]
  simp only [mkB_app, List.append_assoc]
  unfold GFilter.line filtL
  rw [hk, Int.toNat_natCast]
  rfl
theorem map_bits (ns : List Nat) : (ns.map bitL).map mkB = bitsS ns := by rw [List.map_map]; rfl
end
end Go.Sx
/- Filters read; two numbers, filters and two rings of lines. -/
set_option linter.unusedVariables false
set_option linter.unusedSimpArgs false
namespace Go.Sx
open Go.Proofs
set_option maxRecDepth 100000
set_option maxHeartbeats 1000000

theorem cells_lda {h : Heap} {a : Addr} {ws : List Value} {n : Nat} {F : Array Value → Prop} (C : Cells h (some a) ws) (hn : n ≤ ws.length) (H : F ⟨ws.take n⟩) : LDA n h a F := by
  refine ⟨⟨ws.take n⟩, by simp; omega, fun i hi => ?_, H⟩
  rw [C.get (List.getElem?_eq_getElem (show i < ws.length by omega))]
  simp [List.getElem?_take_of_lt hi, show i < ws.length by omega]
theorem slA_0 (b : Option Addr) (c s : Nat) : slA b c 0 s = b := by
  unfold slA
  split
  · rfl
  · cases b with
    | none => rfl
    | some a => show some (a.add (0 * s)) = _; rw [Nat.zero_mul, add0]
theorem slA_n {a : Addr} {c n s : Nat} (h : n < c) : slA (some a) c n s = some (a.add (n * s)) := by
  unfold slA
  rw [if_neg (by omega)]; rfl
section
variable {h0 h : Heap} {L : List Blk}
theorem five {b : Option Addr} {l c c0 c1 c2 s0 s1 : Nat} (S : SlR (rF .f32) h b l c [c0, c1, c2, s0, s1]) : ∃ a y0 y1 y2 y3 y4, b = some a ∧ Cells h (some a) [.float .f32 y0, .float .f32 y1, .float .f32 y2, .float .f32 y3, .float .f32 y4] ∧
    FW .f32 y0 c0 ∧ FW .f32 y1 c1 ∧ FW .f32 y2 c2 ∧ FW .f32 y3 s0 ∧ FW .f32 y4 s1 := by
  obtain ⟨_, _, _, ws, C, w1, r1, e1, ⟨y0, rfl, f0⟩, w2, r2, e2, ⟨y1, rfl, f1⟩, w3, r3, e3, ⟨y2, rfl, f2⟩, w4, r4, e4, ⟨y3, rfl, f3⟩, w5, r5, e5, ⟨y4, rfl, f4⟩, e6⟩ := S
  have e6 : r5 = [] := e6
  subst e6 e5 e4 e3 e2 e1
  obtain ⟨a, rfl⟩ := C.base (by simp)
  exact ⟨a, y0, y1, y2, y3, y4, rfl, C, f0, f1, f2, f3, f4⟩
theorem is3 {α : Type} {l : List α} (h : l.length = 3) : ∃ a b c, l = [a, b, c] := by
  match l, h with
  | [a, b, c], _ => exact ⟨a, b, c, rfl⟩
theorem ParseInt_ok {m : Nat} (T : Txt h) (hm : m < 1000000000) : CALL prg f_strconv_ParseInt #[.string (mkB (Lib.decDigits m)), .int .i64 10, .int .i64 64] (fun u h' => u = .tuple ⟨[.int .i64 (m : Int), .nilIface]⟩ ∧ Ext h h') h := by
  have hd := dec_le (n := m) (k := 8) hm
  have hp : Lib.parseIntB 64 (mkB (Lib.decDigits m)).data.toList = .ok (m : Int) := by rw [mkB_data]; exact parse_dec (by omega)
  refine (ParseInt_c T.lb (s := mkB (Lib.decDigits m)) (by rw [mk_size]; omega)).mono ?_
  rintro _ h1 ⟨⟨v, e, rfl⟩ | ⟨v, t, x, e, rfl⟩, x1⟩
  · rw [hp] at e
    obtain rfl : (m : Int) = v := by injection e
    exact ⟨rfl, x1⟩
  · exact absurd hp (e _)
theorem ReadFilter_ok {f : GFilter} (hok : f.ok = true) (A : FiltA f) (T : Txt h) : CALL prg f_impl_ReadFilter #[.string (mkB f.line)] (fun u h' => ∃ cs : Array Value, u = .tuple ⟨[.agg cs, .int .i64 (0 : Int)]⟩ ∧ rFilter.ow [] cs.toList f ∧ Ext h h') h := by
  have B := A.b
  have k0 := B.k0
  have k1 := B.k1
  have sz := B.size
  have bc := B.cut
  obtain ⟨c0, c1, c2, hC⟩ := is3 A.c3
  obtain ⟨s0, s1, hS⟩ := is2 A.s2
  have hCS : f.C ++ f.S = [c0, c1, c2, s0, s1] := by rw [hC, hS]; rfl
  have ha : A32 (f.C ++ f.S) := fun a h => (List.mem_append.1 h).elim (A.ca a) (A.sa a)
  refine impl_ReadFilter.call ((Mem.start h).alc fun g1 h1 x1 M => Split_c (c := 32) (T.ext x1).lb (by rw [mk_size]; omega) M fun g h2 x2 M => as_l ?_)
  rw [mkB_data, bc] at M ⊢
  have el : (fwL :: Lib.decDigits f.Kind.toNat :: (f.C ++ f.S).map bitL).length = 7 := by rw [hCS]; rfl
  rw [el]
  refine br_f rfl (idxs (by omega) (by omega) ?_)
  rw [add_none]
  refine M.oS .here (strV_get (j := 1) (by omega)) ?_
  refine goM M (ParseInt_ok (T.ext M.ext) (m := f.Kind.toNat) (by omega)) fun h3 M => tup2 (as_i (slb (by omega) (by omega) (by omega) ?_))
  have S := strV_slr M .here (fun x hx => by
    have hm : (1048576 : Nat) ≤ maxLen := by decide
    simp only [List.mem_cons, List.mem_map] at hx
    rcases hx with rfl | rfl | ⟨n, hn, rfl⟩
    · have : fwL.length = 6 := rfl
      omega
    · have := dec_le (n := f.Kind.toNat) (k := 1) (by omega); omega
    · rw [bitL_len (ha n hn).lt]; omega) (by have hm : (1048576 : Nat) ≤ maxLen := by decide
                                             omega)
  have S2 := slr_drop S (n := 2) (by omega)
  rw [el] at S2
  have e2 : ((fwL :: Lib.decDigits f.Kind.toNat :: (f.C ++ f.S).map bitL).map mkB).drop 2 = bitsS (f.C ++ f.S) := map_bits _
  rw [e2] at S2
  refine (readSamples_ok S2 ha (by omega) (T.ext M.ext).br).mono ?_
  rintro _ h4 ⟨b', c', B', rfl, O, N⟩
  have M := (M.join N).cnt (W := (g1, T_impl_Filter, ⟨Z_impl_Filter⟩) :: B') (fun p => by simp only [List.append_eq, cnt_app, cnt_cons, cnt_nil] at *; omega)
  refine tup2 (as_l (as_b (cmp_ne_nn (br_f rfl (br_f rfl ?_)))))
  unfold impl_ReadFilter.J8
  rw [hCS] at O
  have S4 := O.look M (List.sublist_cons_self _ _)
  have hcap := S4.2.1
  obtain ⟨a, y0, y1, y2, y3, y4, rfl, C, f0, f1, f2, f3, f4⟩ := five S4
  have C3 : Cells h4 (some (a.add 3)) [.float .f32 y3, .float .f32 y4] := by
    have := C.sub (cap := c') (lo := 3) (sz := 1) (by simp; omega)
    rw [slA_n (by omega)] at this
    exact this
  refine slb (by omega) (by omega) (by omega) ?_
  rw [slA_0]
  refine ⟨by omega, cells_lda C (by simp) (slb (by omega) (by omega) (by omega) ?_)⟩
  have e3 : slA (some a) c' 3 1 = some (a.add 3) := slA_n (by omega)
  rw [e3]
  refine ⟨by omega, cells_lda C3 (by simp) (siz rfl (siz rfl (M.alc fun g5 h5 x5 M => ?_)))⟩
  refine pin x5 (fun j hj => ?_) (pin x5 (fun j hj => ?_) ?_)
  · obtain ⟨_, e, e2⟩ := C3 j (by simpa using hj)
    cases e
    rw [List.getElem?_eq_getElem (by simpa using hj)] at e2
    exact ⟨_, e2⟩
  · obtain ⟨_, e, e2⟩ := C j (by simp; omega)
    cases e
    rw [List.getElem?_eq_getElem (by simp; omega)] at e2
    exact ⟨_, e2⟩
  have OF : rFilter.ow [] (flC (f.Kind.toNat : Int) y0 y1 y2 y3 y4) f := by
    have := filter_ow (k := (f.Kind.toNat : Int)) f0 f1 f2 f3 f4
    rw [← hC, ← hS, Int.toNat_of_nonneg (by omega)] at this
    rw [Int.toNat_of_nonneg (by omega)]
    exact this
  refine M.sta0 (vs := ⟨flC (f.Kind.toNat : Int) y0 y1 y2 y3 y4⟩) .here rfl (all_one rfl) rfl .here fun h6 M => M.lda0 .here rfl ?_
  have RF : rFilter.rd h6 (⟨flC (f.Kind.toNat : Int) y0 y1 y2 y3 y4⟩ : Array Value).toList f := rFilter.look OF (Mem.start h6) (List.Sublist.refl _)
  refine goM M (FilterText_c RF hok A (T.ext M.ext)) fun h7 M => as_s (br_f (by simp) ?_)
  refine M.lda0 .here rfl (M.sta0 (.there .here) rfl (all_one rfl) rfl (.there .here) fun h8 M => M.lda0 (.there .here) rfl ⟨_, rfl, OF, M.ext⟩)
end
end Go.Sx
/- New values kept in blocks, and what is read of them. -/
set_option linter.unusedVariables false
set_option linter.unusedSimpArgs false
namespace Go.Sx
open Go.Proofs
set_option maxRecDepth 100000
set_option maxHeartbeats 2000000

/-- Bytes that are read. -/
structure Reads (h : Heap) (cb mb : Option Addr) (code more : List Int) : Prop where
  c : Cells h cb (iv .u8 code)
  m : Cells h mb (iv .u8 more)
  bc : Byt' code
  bm : Byt' more
theorem Reads.ext {h h' : Heap} {cb mb : Option Addr} {code more : List Int} (G : Reads h cb mb code more) (X : Ext h h') : Reads h' cb mb code more := ⟨G.c.ext X, G.m.ext X, G.bc, G.bm⟩
theorem keepIn {α : Type} {r : Rep α} {h hh : Heap} {B W : List Blk} {cs Z : Array Value} {x : α} {T n : Nat} {F : Nat → Heap → Prop} (O : r.ow B cs.toList x) (hn : r.sz = n) (hz : Z.size = n) (M : Mem h hh W) (H : ∀ g h2, Mem h h2 ((g, T, cs) :: W) → F g h2) : ALC Z T (fun g h1 => STA n h1 ⟨g, 0, none⟩ cs fun h2 => F g h2) hh :=
  M.alc fun g h1 _ M => M.sta0 .here (by rw [← hn]; simpa using r.olen O) (r.oone O) hz .here fun h2 M => H g h2 M
theorem keepR {α : Type} {r : Rep α} {h hh : Heap} {B : List Blk} {cs Z : Array Value} {x : α} {T n : Nat} {F : Nat → Heap → Prop} (O : r.ow B cs.toList x) (hn : r.sz = n) (hz : Z.size = n) (M : Mem h hh B) (H : ∀ g h2, Ext h h2 → RdP r h2 ⟨g, 0, none⟩ x → F g h2) : ALC Z T (fun g h1 => STA n h1 ⟨g, 0, none⟩ cs fun h2 => F g h2) hh :=
  keepIn O hn hz M fun g h2 M => H g h2 M.ext (M.rdp .here (r.look O M (List.sublist_cons_self _ _)))
abbrev TB2 (h : Heap) : Value → Heap → Prop := fun u h' => u = .bool true ∧ Ext h h'
end Go.Sx
