/- Bits told and read: the program's, at texts of bits. -/
import Derived.Lib.ConvBytes
import Derived.Laws.Build
import Derived.Test.YtnhcoeogejgidadGreatDoorLva
import Derived.Test.YtnhcoeogejgidadGreatDoorTF
import Derived.Test.YtnhcoeogejgidadGreatDoorLgw
import Derived.Test.YtnhcoeogejgidadGreatDoorTab
import Derived.Test.YtnhcoeogejgidadGreatDoorLvr
import Derived.Test.YtnhcoeogejgidadGreatDoorTabE
import Derived.Test.YtnhcoeogejgidadGreatDoorLq3
import Derived.Test.YtnhcoeogejgidadGreatDoorLk45
import Derived.Test.YtnhcoeogejgidadGreatDoorLk50
import Derived.Test.YtnhcoeogejgidadGreatDoorLk29
import Derived.Test.YtnhcoeogejgidadGreatDoorLr3
import Derived.Test.YtnhcoeogejgidadGreatDoorLm7
import Derived.Test.YtnhcoeogejgidadGreatDoorLk25
import Derived.Test.YtnhcoeogejgidadGreatDoorK4
import Derived.Test.YtnhcoeogejgidadGreatDoorLk1
import Derived.Test.YtnhcoeogejgidadGreatDoorLk33
set_option linter.unusedVariables false
set_option linter.unusedSimpArgs false
namespace Go.Sx
open Go.Proofs
set_option maxRecDepth 100000
set_option maxHeartbeats 1000000

section
variable {h0 h : Heap} {L : List Blk} {y a n : Nat}
theorem FormatUint16_c {u : Nat} (hu : u < 18446744073709551616) (T : Bru h) : CALL prg f_strconv_FormatUint #[.int .u64 (u : Int), .int .i64 16] (fun v h' => v = .string (mkB (hexL u)) ∧ Ext h h') h := by
  refine strconv_FormatUint.call (internal_strconv_FormatUint.call (br_f rfl ((formatBits16_c hu T).mono ?_)))
  rintro _ h1 ⟨rfl, x1⟩
  exact tup2 (as_l (as_s (as_s ⟨rfl, x1⟩)))
theorem mkB_app (a b : List UInt8) : mkB a ++ mkB b = mkB (a ++ b) := by
  have : (mkB a ++ mkB b).data.toList = a ++ b := by rw [ByteArray.data_append, Array.toList_append]
  rw [← mkB_list (mkB a ++ mkB b), this]
theorem bitsText_c (hy : FW .f32 y a) (T : Bru h) : CALL prg f_impl_bitsText #[.float .f32 y] (fun u h' => u = .string (mkB (bitL a)) ∧ Ext h h') h := by
  have ha : a < 4294967296 := hy.lt
  have hx := hexL_le 7 a (by simpa using ha)
  have hp := hexL_pos a
  refine impl_bitsText.call ((bitsOf_c hy).go fun h1 x1 => as_i ?_)
  rw [show IntKind.u64.wrap (a : Int) = (a : Int) by unfold IntKind.wrap; show (a : Int) % 2 ^ 64 = _; omega]
  refine goX (FormatUint16_c (u := a) (by omega) (T.ext x1)) fun h2 x2 => as_s ?_
  rw [mk_size, wrap64 (by omega) (by omega), show (8 : Int) - ((hexL a).length : Int) = ((8 - (hexL a).length : Nat) : Int) by omega]
  refine goX (Repeat_c (by omega)) fun h3 x3 => as_s ⟨by rw [mk_size, List.length_replicate]; omega, ?_, x1.trans (x2.trans x3)⟩
  rw [mkB_app]; rfl
/-- Texts of samples in a slice. -/
def bitsS (ns : List Nat) : List ByteArray := ns.map fun n => mkB (bitL n)
theorem bitsS_join {ns : List Nat} : Lib.join ((bitsS ns).map (·.data.toList)) [32] = smpL ns := by
  unfold bitsS smpL
  rw [List.map_map]
  congr 1
theorem samplesText_c {b : Option Addr} {l c : Nat} {ns : List Nat} (S : SlR (rF .f32) h b l c ns) (hs : l ≤ 1048576) (T : Bru h) : CALL prg f_impl_samplesText #[.slice b l c] (fun u h' => u = .string (mkB (smpL ns)) ∧ Ext h h') h := by
  have hl := S.len
  have hm : (1048577 : Nat) ≤ maxLen := by decide
  have ha := S.a
  refine impl_samplesText.call ?_
  refine loop (fun x hh => ∃ (n : Nat) (b' : Option Addr) (c' : Nat) (B : List Blk), x = (b', n, c', b, l, c, (l : Int), (n : Int)) ∧ n ≤ l ∧ SlO T_string rS B b' n c' (bitsS (ns.take n)) ∧ Mem h hh B) (fun x => (l - x.2.2.2.2.2.2.2).toNat)
    ⟨0, _, _, [], rfl, by omega, SlO.nil, Mem.start h⟩ ?_
  rintro x hh ⟨n, b', c', B, rfl, hn, O, M⟩
  refine brd (fun hc => ?_) fun hc => ?_
  · refine (S.ext M.ext).idx (by decide) (by omega) (by omega) fun p Rp => Rp.oF1 fun w hw => ?_
    refine goM M (bitsText_c hw (T.ext M.ext)) fun h1 M => as_s ?_
    have hb := bitL_len (hw.lt : ns[(n : Int).toNat]! < 4294967296)
    have hb2 := hb
    rw [Int.toNat_natCast] at hb
    refine push_own (Bn := []) (L := []) (x := mkB (bitL ns[n]!)) E_sl_string O (M.cnt fun p => by simp only [cnt_app, cnt_nil]; omega) (str_ow (by rw [mk_size]; omega)) (by omega) (by omega) fun b2 c2 h2 B2 O2 M2 => as_l ?_
    refine ⟨⟨n + 1, b2, c2, B2, by rw [wrap64_succ (by omega)], by omega, ?_, M2.cnt fun p => by simp only [cnt_app, cnt_nil]; omega⟩, by rw [wrap64_succ (by omega)]; show _ < _; simp; omega⟩
    have e : bitsS (ns.take (n + 1)) = bitsS (ns.take n) ++ [mkB (bitL ns[n]!)] := by
      unfold bitsS
      rw [take_snoc (by omega), List.map_append]; rfl
    rw [e]; exact O2
  · obtain rfl : n = l := by omega
    rw [← hl, List.take_length] at O
    have hj : (Lib.join ((bitsS ns).map (·.data.toList)) ((⟨#[32]⟩ : ByteArray)).data.toList).length ≤ 140737488355328 := by
      have e : ((⟨#[32]⟩ : ByteArray)).data.toList = [32] := rfl
      rw [e, bitsS_join]
      have := smp_le ha.b
      omega
    have jc := Join_c (sep := ⟨#[32]⟩) O M (List.Sublist.refl _) (by omega) hj
    rw [hl] at jc
    refine goM M jc fun h1 M => as_s ⟨?_, M.ext⟩
    show Value.string (mkB (Lib.join ((bitsS ns).map (·.data.toList)) [32])) = _
    rw [bitsS_join]
end
end Go.Sx
/- What functions of this seat's program compute, told in words (a predicate over heaps for each), and the proofs that the words are no more than the code's own weakest precondition. -/
namespace Go.Sx
open Go.Proofs
set_option linter.unusedVariables false
set_option maxRecDepth 100000

def impl_ringText.S (r_0 : Array Value) (Post : Value → Heap → Prop) (h : Heap) : Prop :=
    ALC r_0 T_impl_Ring (fun g1 h2 =>
    oL (cell h2 ⟨g1, 0, none⟩) fun l3b l3l l3c =>
    oI .i64 (cell h2 ⟨g1, 1, none⟩) fun n4 =>
    oL (cell h2 ⟨g1, 0, none⟩) fun l5b l5l l5c =>
    CALL prg f_impl_length_float32 #[.slice l3b l3l l3c] (fun q6 h7 =>
    asI .i64 q6 fun n8 =>
    PIN h2 ⟨g1, 0, none⟩ 1 h7 <|
    PIN h2 ⟨g1, 1, none⟩ 1 h7 <|
    CALL prg f_impl_decimal #[.int .i64 n8] (fun q9 h10 =>
    asS q9 fun s11 =>
    PIN h2 ⟨g1, 0, none⟩ 1 h10 <|
    PIN h2 ⟨g1, 1, none⟩ 1 h10 <|
    ((ByteArray.size s11 + ByteArray.size (⟨#[32]⟩ : ByteArray) : Nat) : Int) ≤ 9223372036854775807 ∧ (
    CALL prg f_impl_decimal #[.int .i64 n4] (fun q12 h13 =>
    asS q12 fun s14 =>
    PIN h2 ⟨g1, 0, none⟩ 1 h13 <|
    ((ByteArray.size (s11 ++ (⟨#[32]⟩ : ByteArray)) + ByteArray.size s14 : Nat) : Int) ≤ 9223372036854775807 ∧ (
    ((ByteArray.size (((s11 ++ (⟨#[32]⟩ : ByteArray)) ++ s14)) + ByteArray.size (⟨#[32]⟩ : ByteArray) : Nat) : Int) ≤ 9223372036854775807 ∧ (
    CALL prg f_impl_samplesText #[.slice l5b l5l l5c] (fun q15 h16 =>
    asS q15 fun s17 =>
    ((ByteArray.size ((((s11 ++ (⟨#[32]⟩ : ByteArray)) ++ s14) ++ (⟨#[32]⟩ : ByteArray))) + ByteArray.size s17 : Nat) : Int) ≤ 9223372036854775807 ∧ (
    Post (.string (((((s11 ++ (⟨#[32]⟩ : ByteArray)) ++ s14) ++ (⟨#[32]⟩ : ByteArray)) ++ s17))) h16)) h13))) h10)) h7) h2) h
noncomputable def impl_ringText.code : Code := (Tryz.f164.body).getD .skip
theorem impl_ringText.call {r_0 : Array Value} {Post : Value → Heap → Prop} {h : Heap} (H : impl_ringText.S r_0 Post h) : CALL prg f_impl_ringText #[.agg r_0] Post h :=
  fn_call tau_ok mixed (c := impl_ringText.code) (Λ := lookL []) Tryz.func164 (by kernel_rfl) (by kernel_rfl)
    (Rq.free (by kernel_rfl))
    (Eq.mp (by kernel_rfl) H)

def impl_FilterText.S (f_0 : Array Value) (Post : Value → Heap → Prop) (h : Heap) : Prop :=
    ALC f_0 T_impl_Filter (fun g1 h2 =>
    LDA 6 h2 ⟨g1, 0, none⟩ fun a3 =>
    CALL prg f_impl_ValidFilter #[.agg a3] (fun q4 h5 =>
    asB q4 fun b6 =>
    BIF (!b6) (
    Post (.string (⟨#[]⟩ : ByteArray)) h5) (
    oI .i64 (cell h5 ⟨g1, 0, none⟩) fun n7 =>
    SLB (0 : Int) (3 : Int) (3 : Int) <|
    SLB (0 : Int) (2 : Int) (2 : Int) <|
    CALL prg f_strconv_FormatInt #[.int .i64 n7, .int .i64 (10 : Int)] (fun q8 h9 =>
    asS q8 fun s10 =>
    ((ByteArray.size (⟨#[102, 105, 108, 116, 101, 114, 32]⟩ : ByteArray) + ByteArray.size s10 : Nat) : Int) ≤ 9223372036854775807 ∧ (
    ((ByteArray.size ((⟨#[102, 105, 108, 116, 101, 114, 32]⟩ : ByteArray) ++ s10) + ByteArray.size (⟨#[32]⟩ : ByteArray) : Nat) : Int) ≤ 9223372036854775807 ∧ (
    CALL prg f_impl_samplesText #[.slice (some (slP ⟨g1, 1, none⟩ 3 0 1)) (3 - 0) (3 - 0)] (fun q11 h12 =>
    asS q11 fun s13 =>
    ((ByteArray.size ((((⟨#[102, 105, 108, 116, 101, 114, 32]⟩ : ByteArray) ++ s10) ++ (⟨#[32]⟩ : ByteArray))) + ByteArray.size s13 : Nat) : Int) ≤ 9223372036854775807 ∧ (
    ((ByteArray.size (((((⟨#[102, 105, 108, 116, 101, 114, 32]⟩ : ByteArray) ++ s10) ++ (⟨#[32]⟩ : ByteArray)) ++ s13)) + ByteArray.size (⟨#[32]⟩ : ByteArray) : Nat) : Int) ≤ 9223372036854775807 ∧ (
    CALL prg f_impl_samplesText #[.slice (some (slP ⟨g1, 4, none⟩ 2 0 1)) (2 - 0) (2 - 0)] (fun q14 h15 =>
    asS q14 fun s16 =>
    ((ByteArray.size ((((((⟨#[102, 105, 108, 116, 101, 114, 32]⟩ : ByteArray) ++ s10) ++ (⟨#[32]⟩ : ByteArray)) ++ s13) ++ (⟨#[32]⟩ : ByteArray))) + ByteArray.size s16 : Nat) : Int) ≤ 9223372036854775807 ∧ (
    Post (.string (((((((⟨#[102, 105, 108, 116, 101, 114, 32]⟩ : ByteArray) ++ s10) ++ (⟨#[32]⟩ : ByteArray)) ++ s13) ++ (⟨#[32]⟩ : ByteArray)) ++ s16))) h15)) h12))) h9))) h5)) h2) h
noncomputable def impl_FilterText.code : Code := (Tryz.f161.body).getD .skip
theorem impl_FilterText.call {f_0 : Array Value} {Post : Value → Heap → Prop} {h : Heap} (H : impl_FilterText.S f_0 Post h) : CALL prg f_impl_FilterText #[.agg f_0] Post h :=
  fn_call tau_ok mixed (c := impl_FilterText.code) (Λ := lookL []) Tryz.func161 (by kernel_rfl) (by kernel_rfl)
    (Rq.free (by kernel_rfl))
    (Eq.mp (by kernel_rfl) H)

end Go.Sx
/- Rings, filters and lines, told and read. -/
set_option linter.unusedVariables false
set_option linter.unusedSimpArgs false
namespace Go.Sx
open Go.Proofs
set_option maxRecDepth 100000
set_option maxHeartbeats 1000000

/-- What the texts of a program lean on. -/
structure Txt (h : Heap) : Prop where
  lb : Libs h
  br : Bru h
/-- The tables alone. -/
structure TxW (h : Heap) : Prop where
  tens : Tens h
  br : Bru h
theorem TxW.ext {h h' : Heap} (T : TxW h) (X : Ext h h') : TxW h' := ⟨T.tens.ext X, T.br.ext X⟩
instance {h : Heap} : Coe (Txt h) (TxW h) := ⟨fun T => ⟨T.lb.tens, T.br⟩⟩
theorem Txt.ext {h h' : Heap} (T : Txt h) (X : Ext h h') : Txt h' := ⟨T.lb.ext X, T.br.ext X⟩
theorem decB_mk (n : Nat) : decB n = mkB (Lib.decDigits n) := rfl
section
variable {h0 h : Heap} {L : List Blk}
theorem ringText_c {cs : Array Value} {r : GRing} (R0 : rRing.rd h cs.toList r) (A : RingA r) (T : TxW h) : CALL prg f_impl_ringText #[.agg cs] (fun u h' => u = .string (mkB r.line) ∧ Ext h h') h := by
  have B := A.b
  have hl := B.len
  have a0 := B.a0
  have a1 := B.a1
  have d1 := dec_le (n := r.Samples.length) (k := 9) (by omega)
  have d2 := dec_le (n := r.At.toNat) (k := 9) (by omega)
  have sz := smp_le B.bits
  refine impl_ringText.call (alcR R0 fun g h1 x1 R => R.oL1 fun b l c S => R.oI2 (R.oL1 fun b' l' c' S' => ?_))
  obtain rfl := S.len
  have el' := S'.len
  refine goX (length_f32_c _ _ _ _) fun h2 x2 => as_i ?_
  have P0 : ∀ (j : Nat) {hh : Heap} {p : Prop}, j + 1 ≤ rRing.sz → Ext h1 hh → p → PIN h1 ⟨g, j, none⟩ 1 hh p := fun j {hh p} hj X H => by
    have q1 := R.pinO (off := j) (n := 1) hj X H
    rwa [add_g] at q1
  have P1 : ∀ {hh : Heap} {p : Prop}, Ext h1 hh → p → PIN h1 ⟨g, 0, none⟩ 1 hh p := fun X H => P0 0 (by decide) X H
  have P2 : ∀ {hh : Heap} {p : Prop}, Ext h1 hh → p → PIN h1 ⟨g, 0, none⟩ 1 hh (PIN h1 ⟨g, 1, none⟩ 1 hh p) := fun X H => P0 0 (by decide) X (P0 1 (by decide) X H)
  refine P2 x2 (goX (decimal_c (m := r.Samples.length) (by omega) (T.ext (x1.trans x2)).tens) fun h3 x3 => as_s (P2 (x2.trans x3) ?_))
  rw [decB_mk]
  refine ⟨by simp only [ba_len, mk_size, List.length_cons, List.length_nil]; omega, ?_⟩
  obtain ⟨at_, hat⟩ : ∃ n : Nat, r.At = (n : Int) := ⟨r.At.toNat, by omega⟩
  rw [hat] at d2 ⊢
  rw [Int.toNat_natCast] at d2
  refine goX (decimal_c (m := at_) (by omega) (T.ext (x1.trans (x2.trans x3))).tens) fun h4 x4 => as_s (P1 (x2.trans (x3.trans x4)) ?_)
  rw [decB_mk]
  refine ⟨by simp only [ba_len, mk_size, List.length_cons, List.length_nil]; omega, by simp only [ba_len, mk_size, List.length_cons, List.length_nil]; omega, ?_⟩
  refine goX (samplesText_c (S'.ext (x2.trans (x3.trans x4))) (by omega) (T.ext (x1.trans (x2.trans (x3.trans x4)))).br) fun h5 x5 => as_s ⟨by simp only [ba_len, mk_size, List.length_cons, List.length_nil]; omega, ?_, x1.trans (x2.trans (x3.trans (x4.trans x5)))⟩
  have e32 : (⟨#[32]⟩ : ByteArray) = mkB [32] := rfl
  rw [e32]
  simp only [mkB_app, List.append_assoc]
  unfold GRing.line ringL
  rw [hat, Int.toNat_natCast]
  rfl
theorem FilterText_c {cs : Array Value} {f : GFilter} (R0 : rFilter.rd h cs.toList f) (hok : f.ok = true) (A : FiltA f) (T : TxW h) : CALL prg f_impl_FilterText #[.agg cs] (fun u h' => u = .string (mkB f.line) ∧ Ext h h') h := by
  have B := A.b
  have k0 := B.k0
  have k1 := B.k1
  have c3 := B.c3
  have s2 := B.s2
  have d1 := dec_le (n := f.Kind.toNat) (k := 1) (by omega)
  have sz := smp_le B.cb
  have sz2 := smp_le B.sb
  refine impl_FilterText.call (alcR R0 fun g h1 x1 R => R.lda1 rfl fun c1 R1 => goX (ValidFilter_c R1) fun h2 x2 => as_b ?_)
  rw [hok]
  have R := R.ext x2
  refine br_f rfl (R.oI1 (slb (by decide) (by decide) (by decide) (slb (by decide) (by decide) (by decide) ?_)))
  obtain ⟨k, hk⟩ : ∃ n : Nat, f.Kind = (n : Int) := ⟨f.Kind.toNat, by omega⟩
  rw [hk, Int.toNat_natCast] at d1
  rw [hk]
  have D := FormatInt_n (n := (k : Int)) (by omega) (by omega) (T.ext (x1.trans x2)).tens
  rw [Lib.itoa_nonneg] at D
  refine goX D fun h3 x3 => as_s ?_
  have SC := ((R.ext x3).foc0 foc_Filter_C).arr (by decide)
  refine ⟨by simp only [ba_len, mk_size, List.length_cons, List.length_nil]; omega, by simp only [ba_len, mk_size, List.length_cons, List.length_nil]; omega, ?_⟩
  rw [slP_zero]
  refine goX (samplesText_c SC (by decide) (T.ext (x1.trans (x2.trans x3))).br) fun h4 x4 => as_s ⟨by simp only [ba_len, mk_size, List.length_cons, List.length_nil]; omega, by simp only [ba_len, mk_size, List.length_cons, List.length_nil]; omega, ?_⟩
  have SS := ((R.ext (x3.trans x4)).foc0 foc_Filter_S).arr (by decide)
  rw [slP_zero]
  refine goX (samplesText_c SS (by decide) (T.ext (x1.trans (x2.trans (x3.trans x4)))).br) fun h5 x5 => as_s ⟨by simp only [ba_len, mk_size, List.length_cons, List.length_nil]; omega, ?_, x1.trans (x2.trans (x3.trans (x4.trans x5)))⟩
  have e32 : (⟨#[32]⟩ : ByteArray) = mkB [32] := rfl
  have e7 : (⟨#[102, 105, 108, 116, 101, 114, 32]⟩ : ByteArray) = mkB (fwL ++ [32]) := rfl
  rw [e32, e7]
  simp only [mkB_app, List.append_assoc]
  unfold GFilter.line filtL
  rw [hk, Int.toNat_natCast]
  rfl
end
end Go.Sx
/- What is told of strings, pipes and rooms, line by line. -/
set_option linter.unusedVariables false
set_option linter.unusedSimpArgs false
namespace Go.Sx
open Go.Proofs Go.RowKit
set_option maxRecDepth 100000
set_option maxHeartbeats 1000000

/-- A word without blanks and new lines. -/
def Word (w : List UInt8) : Prop := ∀ b ∈ w, b ≠ 32 ∧ b ≠ 10
theorem word_dec (n : Nat) : Word (Lib.decDigits n) := fun b hb => ⟨dec_no n (.inl (by decide)) b hb, dec_no n (.inl (by decide)) b hb⟩
theorem word_bits {n : Nat} (h : n < 4294967296) : Word (bitL n) := fun b hb => ⟨bitL_ne h (by decide) b hb, bitL_ne h (by decide) b hb⟩
/-- Words in a line. -/
def wordsL (ws : List (List UInt8)) : List UInt8 := Lib.join ws [32]
theorem words_mem {ws : List (List UInt8)} (h : ∀ x ∈ ws, Word x) : ∀ b ∈ wordsL ws, b ≠ 10 := by
  intro b hb e
  rcases join_mem ws hb with k | ⟨x, hx, k⟩
  · rw [e] at k; exact absurd k (by decide)
  · exact (h x hx b k).2 e
theorem words_size {k : Nat} : ∀ {ws : List (List UInt8)}, (∀ x ∈ ws, x.length ≤ k) → (wordsL ws).length ≤ (k + 1) * ws.length
  | [], _ => by unfold wordsL; rw [Lib.join_nil]; exact Nat.zero_le _
  | [x], h => by
    have := h x (List.mem_cons_self ..)
    unfold wordsL
    rw [Lib.join_one]
    simp only [List.length_cons, List.length_nil]
    omega
  | x :: y :: r, h => by
    have h1 := h x (List.mem_cons_self ..)
    have h2 : (wordsL (y :: r)).length ≤ _ := words_size fun z hz => h z (List.mem_cons_of_mem _ hz)
    unfold wordsL at h2 ⊢
    rw [join_two, List.length_append, List.length_cons, List.length_cons, Nat.mul_succ]
    omega
theorem words_one (w : List UInt8) : wordsL [w] = w := Lib.join_one _ _
theorem words_cons (w : List UInt8) (x : List UInt8) (r : List (List UInt8)) : wordsL (w :: x :: r) = w ++ 32 :: wordsL (x :: r) := join_two w x r 32
/-- A word more behind a line. -/
theorem words_snoc : ∀ (w : List UInt8) (r : List (List UInt8)) (x : List UInt8), wordsL (w :: r ++ [x]) = wordsL (w :: r) ++ 32 :: x
  | w, [], x => by
    show wordsL [w, x] = _
    rw [words_cons, words_one, words_one]
  | w, y :: r, x => by
    show wordsL (w :: y :: (r ++ [x])) = _
    rw [words_cons, words_cons, List.append_assoc, List.cons_append]
    have := words_snoc y r x
    rw [List.cons_append] at this
    rw [this]
theorem smp_words (ns : List Nat) : smpL ns = wordsL (ns.map bitL) := rfl
theorem words_smp {w : List UInt8} {ns : List Nat} (h : ns ≠ []) : wordsL (w :: ns.map bitL) = headL w ns := by
  cases ns with
  | nil => exact absurd rfl h
  | cons n r => exact words_cons w (bitL n) (r.map bitL)
def strW : List UInt8 := [115, 116, 114, 105, 110, 103]
def GString.lines (x : GString) : List (List UInt8) :=
  [wordsL [strW, bitL x.Loss, Lib.decDigits x.Loop.Samples.length, Lib.decDigits x.Loop.At.toNat], x.Tune.line, x.Damp.line, smpL x.Loop.Samples]
structure StrB (x : GString) : Prop where
  l : RingB x.Loop
  t : FiltB x.Tune
  d : FiltB x.Damp
  b : x.Loss < 4294967296
theorem StrB.words {x : GString} (h : StrB x) : ∀ w ∈ [strW, bitL x.Loss, Lib.decDigits x.Loop.Samples.length, Lib.decDigits x.Loop.At.toNat], Word w := by
  intro w hw
  simp only [List.mem_cons, List.not_mem_nil, or_false] at hw
  rcases hw with rfl | rfl | rfl | rfl
  · intro b hb
    have : ∀ b ∈ strW, b ≠ 32 ∧ b ≠ 10 := by decide
    exact this b hb
  · exact word_bits h.b
  · exact word_dec _
  · exact word_dec _
theorem StrB.mem {x : GString} (h : StrB x) : ∀ l ∈ x.lines, ∀ b ∈ l, b ≠ 10 := by
  intro l hl
  simp only [GString.lines, List.mem_cons, List.not_mem_nil, or_false] at hl
  rcases hl with rfl | rfl | rfl | rfl
  · exact words_mem h.words
  · exact h.t.mem
  · exact h.d.mem
  · exact smp_mem h.l.bits
theorem StrB.cut {x : GString} (h : StrB x) : cutL 10 (linL x.lines) = x.lines ++ [[]] := lin_cut h.mem
theorem StrB.size {x : GString} (h : StrB x) : (linL x.lines).length ≤ 37204 := by
  refine lin_size (k := 9300) fun l hl => ?_
  simp only [GString.lines, List.mem_cons, List.not_mem_nil, or_false] at hl
  rcases hl with rfl | rfl | rfl | rfl
  · refine Nat.le_trans (words_size (k := 10) fun w hw => ?_) (show (10 + 1) * 4 ≤ 9300 by decide)
    simp only [List.mem_cons, List.not_mem_nil, or_false] at hw
    rcases hw with rfl | rfl | rfl | rfl
    · decide
    · rw [bitL_len h.b]; decide
    · exact dec_le (k := 9) (by have := h.l.len; omega)
    · exact dec_le (k := 9) (by have := h.l.a1; omega)
  · exact Nat.le_trans h.t.size (by decide)
  · exact Nat.le_trans h.d.size (by decide)
  · have := smp_le h.l.bits
    have := h.l.len
    omega
def pipeW : List UInt8 := [112, 105, 112, 101]
def openW : List UInt8 := [111, 112, 101, 110]
def closW : List UInt8 := [99, 108, 111, 115, 101, 100]
def scatW : List UInt8 := [115, 99, 97, 116, 116, 101, 114]
def duo : List GRing → List GRing → List GRing
  | r :: rs, l :: ls => r :: l :: duo rs ls
  | _, _ => []
def GPipe.lines (x : GPipe) : List (List UInt8) :=
  wordsL (pipeW :: (if x.Open then openW else closW) :: [x.Loss, x.Rest, x.Slope].map bitL) :: wordsL (scatW :: x.Scatter.map bitL) :: x.End.line :: (duo x.Right x.Left).map GRing.line
structure PipeB (x : GPipe) : Prop where
  r : ∀ y ∈ x.Right, RingB y
  l : ∀ y ∈ x.Left, RingB y
  e : FiltB x.End
  n1 : 1 ≤ x.Right.length
  n3 : x.Right.length ≤ 3
  nl : x.Left.length = x.Right.length
  ns : x.Scatter.length + 1 = x.Right.length
  s : B32 x.Scatter
  b : B32 [x.Loss, x.Rest, x.Slope]
theorem duo_len : ∀ {a b : List GRing}, b.length = a.length → (duo a b).length = 2 * a.length
  | [], _, _ => by simp [duo]
  | r :: rs, [], h => by simp at h
  | r :: rs, l :: ls, h => by
    have := duo_len (a := rs) (b := ls) (by simpa using h)
    simp only [duo, List.length_cons, this]
    omega
theorem duo_mem : ∀ {a b : List GRing} {y : GRing}, y ∈ duo a b → y ∈ a ∨ y ∈ b
  | [], b, y, h => by simp [duo] at h
  | r :: rs, [], y, h => by simp [duo] at h
  | r :: rs, l :: ls, y, h => by
    simp only [duo, List.mem_cons] at h
    rcases h with rfl | rfl | h
    · exact .inl (List.mem_cons_self ..)
    · exact .inr (List.mem_cons_self ..)
    · rcases duo_mem h with h | h
      · exact .inl (List.mem_cons_of_mem _ h)
      · exact .inr (List.mem_cons_of_mem _ h)
theorem bits_word {ns : List Nat} (h : B32 ns) : ∀ w ∈ ns.map bitL, Word w := by
  intro w hw
  obtain ⟨n, hn, rfl⟩ := List.mem_map.mp hw
  exact word_bits (h n hn)
theorem PipeB.words0 {x : GPipe} (h : PipeB x) : ∀ w ∈ pipeW :: (if x.Open then openW else closW) :: [x.Loss, x.Rest, x.Slope].map bitL, Word w := by
  intro w hw
  rcases List.mem_cons.1 hw with rfl | hw
  · intro b hb
    have : ∀ b ∈ pipeW, b ≠ 32 ∧ b ≠ 10 := by decide
    exact this b hb
  rcases List.mem_cons.1 hw with rfl | hw
  · intro b hb
    have a1 : ∀ b ∈ openW, b ≠ 32 ∧ b ≠ 10 := by decide
    have a2 : ∀ b ∈ closW, b ≠ 32 ∧ b ≠ 10 := by decide
    split at hb
    · exact a1 b hb
    · exact a2 b hb
  exact bits_word h.b w hw
theorem PipeB.words1 {x : GPipe} (h : PipeB x) : ∀ w ∈ scatW :: x.Scatter.map bitL, Word w := by
  intro w hw
  rcases List.mem_cons.1 hw with rfl | hw
  · intro b hb
    have : ∀ b ∈ scatW, b ≠ 32 ∧ b ≠ 10 := by decide
    exact this b hb
  exact bits_word h.s w hw
theorem PipeB.ring {x : GPipe} (h : PipeB x) : ∀ y ∈ duo x.Right x.Left, RingB y := fun y hy => (duo_mem hy).elim (h.r y) (h.l y)
theorem PipeB.mem {x : GPipe} (h : PipeB x) : ∀ l ∈ x.lines, ∀ b ∈ l, b ≠ 10 := by
  intro l hl
  unfold GPipe.lines at hl
  rcases List.mem_cons.1 hl with rfl | hl
  · exact words_mem h.words0
  rcases List.mem_cons.1 hl with rfl | hl
  · exact words_mem h.words1
  rcases List.mem_cons.1 hl with rfl | hl
  · exact h.e.mem
  obtain ⟨y, hy, rfl⟩ := List.mem_map.1 hl
  exact (h.ring y hy).mem
theorem PipeB.cut {x : GPipe} (h : PipeB x) : cutL 10 (linL x.lines) = x.lines ++ [[]] := lin_cut h.mem
theorem PipeB.len {x : GPipe} (h : PipeB x) : x.lines.length = 2 * x.Right.length + 3 := by
  unfold GPipe.lines
  simp only [List.length_cons, List.length_map, duo_len h.nl]
theorem bits_len {ns : List Nat} (h : B32 ns) : ∀ w ∈ ns.map bitL, w.length ≤ 8 := by
  intro w hw
  obtain ⟨n, hn, rfl⟩ := List.mem_map.mp hw
  rw [bitL_len (h n hn)]
  decide
theorem PipeB.size {x : GPipe} (h : PipeB x) : (linL x.lines).length ≤ 90000 := by
  have e := h.len
  have n3 := h.n3
  refine Nat.le_trans (lin_size (k := 9300) fun l hl => ?_) (by rw [e]; omega)
  unfold GPipe.lines at hl
  rcases List.mem_cons.1 hl with rfl | hl
  · refine Nat.le_trans (words_size (k := 8) fun w hw => ?_) (show (8 + 1) * 5 ≤ 9300 by decide)
    rcases List.mem_cons.1 hw with rfl | hw
    · decide
    rcases List.mem_cons.1 hw with rfl | hw
    · split <;> decide
    exact bits_len h.b w hw
  rcases List.mem_cons.1 hl with rfl | hl
  · refine Nat.le_trans (words_size (k := 8) fun w hw => ?_) (by have := h.ns; simp only [List.length_cons, List.length_map]; omega)
    rcases List.mem_cons.1 hw with rfl | hw
    · decide
    exact bits_len h.s w hw
  rcases List.mem_cons.1 hl with rfl | hl
  · exact Nat.le_trans h.e.size (by decide)
  obtain ⟨y, hy, rfl⟩ := List.mem_map.1 hl
  exact (h.ring y hy).size
end Go.Sx
/- Jets told and read. -/
set_option linter.unusedVariables false
set_option linter.unusedSimpArgs false
namespace Go.Sx
open Go.Proofs
set_option maxRecDepth 100000
set_option maxHeartbeats 2000000

section
variable {h0 h : Heap} {L : List Blk}
/-- Two floats in a new block. -/
theorem two_slr {g y z a b : Nat} {h0 h : Heap} {L : List Blk} (M : Mem h0 h L) (l : Look L g ⟨[.float .f32 y, .float .f32 z]⟩) (hy : FW .f32 y a) (hz : FW .f32 z b) : SlR (rF .f32) h (some ⟨g, 0, none⟩) 2 2 [a, b] :=
  ⟨rfl, Nat.le_refl _, by decide, [.float .f32 y, .float .f32 z], fun i hi => ⟨_, rfl, by rw [add_none, M.cell l, Nat.zero_add, List.getElem?_toArray]⟩, [.float .f32 y], _, rfl, ⟨y, rfl, hy⟩, [.float .f32 z], [], rfl, ⟨z, rfl, hz⟩, rfl⟩
end
end Go.Sx
/- Filters drawn are valid. -/
set_option linter.unusedVariables false
set_option linter.unusedSimpArgs false
namespace Go.Sx
open Go.Proofs Ieee
set_option maxRecDepth 100000
set_option maxHeartbeats 1000000

/-- A filter's cells, told by a call. -/
def FlT (u : Value) (f : GFilter) : Prop := ∃ v, u = .agg ⟨flT v⟩ ∧ rFilter.ow [] (flT v) f
theorem FlR.t {u : Value} {f : GFilter} (h : FlR u f) : FlT u f := by
  obtain ⟨k, y, z, e, O⟩ := h
  exact ⟨(k, y, z, 0, 0, 0), e, O⟩
end Go.Sx
/- Filters run over blocks, one by one and in a chain. -/
set_option linter.unusedVariables false
set_option linter.unusedSimpArgs false
namespace Go.Sx
open Go.Proofs
set_option maxRecDepth 100000
set_option maxHeartbeats 2000000

abbrev V6 := Int × Nat × Nat × Nat × Nat × Nat
end Go.Sx
/- Strings drawn are valid: the numbers. -/
set_option linter.unusedVariables false
set_option linter.unusedSimpArgs false
namespace Go.Sx
open Go.Proofs Ieee
set_option maxRecDepth 100000
set_option maxHeartbeats 1000000

theorem str_loop {x : GString} (h : x.ok = true) : x.Loop.ok = true := gstr_ring h
end Go.Sx
/- What functions of this seat's program compute, told in words (a predicate over heaps for each), and the proofs that the words are no more than the code's own weakest precondition. -/
namespace Go.Sx
open Go.Proofs
set_option linter.unusedVariables false
set_option maxRecDepth 100000

def impl_StringText.S (x_0 : Array Value) (Post : Value → Heap → Prop) (h : Heap) : Prop :=
    ALC x_0 T_impl_String (fun g1 h2 =>
    LDA 15 h2 ⟨g1, 0, none⟩ fun a3 =>
    CALL prg f_impl_ValidString #[.agg a3] (fun q4 h5 =>
    asB q4 fun b6 =>
    BIF (!b6) (
    Post (.string (⟨#[]⟩ : ByteArray)) h5) (
    oF .f32 (cell h5 ⟨g1, 14, none⟩) fun r7 =>
    oL (cell h5 ⟨g1, 0, none⟩) fun l8b l8l l8c =>
    oI .i64 (cell h5 ⟨g1, 1, none⟩) fun n9 =>
    LDA 6 h5 ⟨g1, 2, none⟩ fun a10 =>
    LDA 6 h5 ⟨g1, 8, none⟩ fun a11 =>
    oL (cell h5 ⟨g1, 0, none⟩) fun l12b l12l l12c =>
    CALL prg f_impl_bitsText #[.float .f32 r7] (fun q13 h14 =>
    asS q13 fun s15 =>
    PIN h5 ⟨g1, 0, none⟩ 1 h14 <|
    PIN h5 ⟨g1, 8, none⟩ 6 h14 <|
    PIN h5 ⟨g1, 2, none⟩ 6 h14 <|
    PIN h5 ⟨g1, 1, none⟩ 1 h14 <|
    PIN h5 ⟨g1, 0, none⟩ 1 h14 <|
    ((ByteArray.size (⟨#[115, 116, 114, 105, 110, 103, 32]⟩ : ByteArray) + ByteArray.size s15 : Nat) : Int) ≤ 9223372036854775807 ∧ (
    ((ByteArray.size ((⟨#[115, 116, 114, 105, 110, 103, 32]⟩ : ByteArray) ++ s15) + ByteArray.size (⟨#[32]⟩ : ByteArray) : Nat) : Int) ≤ 9223372036854775807 ∧ (
    CALL prg f_impl_length_float32 #[.slice l8b l8l l8c] (fun q16 h17 =>
    asI .i64 q16 fun n18 =>
    PIN h5 ⟨g1, 0, none⟩ 1 h17 <|
    PIN h5 ⟨g1, 8, none⟩ 6 h17 <|
    PIN h5 ⟨g1, 2, none⟩ 6 h17 <|
    PIN h5 ⟨g1, 1, none⟩ 1 h17 <|
    CALL prg f_impl_decimal #[.int .i64 n18] (fun q19 h20 =>
    asS q19 fun s21 =>
    PIN h5 ⟨g1, 0, none⟩ 1 h20 <|
    PIN h5 ⟨g1, 8, none⟩ 6 h20 <|
    PIN h5 ⟨g1, 2, none⟩ 6 h20 <|
    PIN h5 ⟨g1, 1, none⟩ 1 h20 <|
    ((ByteArray.size ((((⟨#[115, 116, 114, 105, 110, 103, 32]⟩ : ByteArray) ++ s15) ++ (⟨#[32]⟩ : ByteArray))) + ByteArray.size s21 : Nat) : Int) ≤ 9223372036854775807 ∧ (
    ((ByteArray.size (((((⟨#[115, 116, 114, 105, 110, 103, 32]⟩ : ByteArray) ++ s15) ++ (⟨#[32]⟩ : ByteArray)) ++ s21)) + ByteArray.size (⟨#[32]⟩ : ByteArray) : Nat) : Int) ≤ 9223372036854775807 ∧ (
    CALL prg f_impl_decimal #[.int .i64 n9] (fun q22 h23 =>
    asS q22 fun s24 =>
    PIN h5 ⟨g1, 0, none⟩ 1 h23 <|
    PIN h5 ⟨g1, 8, none⟩ 6 h23 <|
    PIN h5 ⟨g1, 2, none⟩ 6 h23 <|
    ((ByteArray.size ((((((⟨#[115, 116, 114, 105, 110, 103, 32]⟩ : ByteArray) ++ s15) ++ (⟨#[32]⟩ : ByteArray)) ++ s21) ++ (⟨#[32]⟩ : ByteArray))) + ByteArray.size s24 : Nat) : Int) ≤ 9223372036854775807 ∧ (
    ((ByteArray.size (((((((⟨#[115, 116, 114, 105, 110, 103, 32]⟩ : ByteArray) ++ s15) ++ (⟨#[32]⟩ : ByteArray)) ++ s21) ++ (⟨#[32]⟩ : ByteArray)) ++ s24)) + ByteArray.size (⟨#[10]⟩ : ByteArray) : Nat) : Int) ≤ 9223372036854775807 ∧ (
    CALL prg f_impl_FilterText #[.agg a10] (fun q25 h26 =>
    asS q25 fun s27 =>
    PIN h5 ⟨g1, 0, none⟩ 1 h26 <|
    PIN h5 ⟨g1, 8, none⟩ 6 h26 <|
    ((ByteArray.size ((((((((⟨#[115, 116, 114, 105, 110, 103, 32]⟩ : ByteArray) ++ s15) ++ (⟨#[32]⟩ : ByteArray)) ++ s21) ++ (⟨#[32]⟩ : ByteArray)) ++ s24) ++ (⟨#[10]⟩ : ByteArray))) + ByteArray.size s27 : Nat) : Int) ≤ 9223372036854775807 ∧ (
    ((ByteArray.size (((((((((⟨#[115, 116, 114, 105, 110, 103, 32]⟩ : ByteArray) ++ s15) ++ (⟨#[32]⟩ : ByteArray)) ++ s21) ++ (⟨#[32]⟩ : ByteArray)) ++ s24) ++ (⟨#[10]⟩ : ByteArray)) ++ s27)) + ByteArray.size (⟨#[10]⟩ : ByteArray) : Nat) : Int) ≤ 9223372036854775807 ∧ (
    CALL prg f_impl_FilterText #[.agg a11] (fun q28 h29 =>
    asS q28 fun s30 =>
    PIN h5 ⟨g1, 0, none⟩ 1 h29 <|
    ((ByteArray.size ((((((((((⟨#[115, 116, 114, 105, 110, 103, 32]⟩ : ByteArray) ++ s15) ++ (⟨#[32]⟩ : ByteArray)) ++ s21) ++ (⟨#[32]⟩ : ByteArray)) ++ s24) ++ (⟨#[10]⟩ : ByteArray)) ++ s27) ++ (⟨#[10]⟩ : ByteArray))) + ByteArray.size s30 : Nat) : Int) ≤ 9223372036854775807 ∧ (
    ((ByteArray.size (((((((((((⟨#[115, 116, 114, 105, 110, 103, 32]⟩ : ByteArray) ++ s15) ++ (⟨#[32]⟩ : ByteArray)) ++ s21) ++ (⟨#[32]⟩ : ByteArray)) ++ s24) ++ (⟨#[10]⟩ : ByteArray)) ++ s27) ++ (⟨#[10]⟩ : ByteArray)) ++ s30)) + ByteArray.size (⟨#[10]⟩ : ByteArray) : Nat) : Int) ≤ 9223372036854775807 ∧ (
    CALL prg f_impl_samplesText #[.slice l12b l12l l12c] (fun q31 h32 =>
    asS q31 fun s33 =>
    ((ByteArray.size ((((((((((((⟨#[115, 116, 114, 105, 110, 103, 32]⟩ : ByteArray) ++ s15) ++ (⟨#[32]⟩ : ByteArray)) ++ s21) ++ (⟨#[32]⟩ : ByteArray)) ++ s24) ++ (⟨#[10]⟩ : ByteArray)) ++ s27) ++ (⟨#[10]⟩ : ByteArray)) ++ s30) ++ (⟨#[10]⟩ : ByteArray))) + ByteArray.size s33 : Nat) : Int) ≤ 9223372036854775807 ∧ (
    ((ByteArray.size (((((((((((((⟨#[115, 116, 114, 105, 110, 103, 32]⟩ : ByteArray) ++ s15) ++ (⟨#[32]⟩ : ByteArray)) ++ s21) ++ (⟨#[32]⟩ : ByteArray)) ++ s24) ++ (⟨#[10]⟩ : ByteArray)) ++ s27) ++ (⟨#[10]⟩ : ByteArray)) ++ s30) ++ (⟨#[10]⟩ : ByteArray)) ++ s33)) + ByteArray.size (⟨#[10]⟩ : ByteArray) : Nat) : Int) ≤ 9223372036854775807 ∧ (
    Post (.string ((((((((((((((⟨#[115, 116, 114, 105, 110, 103, 32]⟩ : ByteArray) ++ s15) ++ (⟨#[32]⟩ : ByteArray)) ++ s21) ++ (⟨#[32]⟩ : ByteArray)) ++ s24) ++ (⟨#[10]⟩ : ByteArray)) ++ s27) ++ (⟨#[10]⟩ : ByteArray)) ++ s30) ++ (⟨#[10]⟩ : ByteArray)) ++ s33) ++ (⟨#[10]⟩ : ByteArray)))) h32))) h29))) h26))) h23))) h20))) h17) h14))) h5)) h2) h
noncomputable def impl_StringText.code : Code := (Tryz.f75.body).getD .skip
theorem impl_StringText.call {x_0 : Array Value} {Post : Value → Heap → Prop} {h : Heap} (H : impl_StringText.S x_0 Post h) : CALL prg f_impl_StringText #[.agg x_0] Post h :=
  fn_call tau_ok mixed (c := impl_StringText.code) (Λ := lookL []) Tryz.func75 (by kernel_rfl) (by kernel_rfl)
    (Rq.free (by kernel_rfl))
    (Eq.mp (by kernel_rfl) H)

end Go.Sx
