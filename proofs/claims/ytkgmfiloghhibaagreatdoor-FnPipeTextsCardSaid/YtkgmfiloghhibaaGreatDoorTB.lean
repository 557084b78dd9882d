/- What functions of this seat's program compute, told in words (a predicate over heaps for each), and the proofs that the words are no more than the code's own weakest precondition. -/
import Derived.Test.YtkgmfiloghhibaaGreatDoorTab
import Derived.Test.YtkgmfiloghhibaaGreatDoorLv0
import Derived.Test.YtkgmfiloghhibaaGreatDoorLvp
import Derived.Test.YtkgmfiloghhibaaGreatDoorTabE
import Derived.Test.YtkgmfiloghhibaaGreatDoorLk76
namespace Go.Sx
open Go.Proofs
set_option linter.unusedVariables false
set_option maxRecDepth 100000

def strconv_FormatUint.S (i_0 : Int) (base_1 : Int) (Post : Value → Heap → Prop) (h : Heap) : Prop :=
    CALL prg f_internal_strconv_FormatUint #[.int .u64 i_0, .int .i64 base_1] (fun q1 h2 =>
    asS q1 fun s3 =>
    Post (.string s3) h2) h
noncomputable def strconv_FormatUint.code : Code := (Tryz.f105.body).getD .skip
theorem strconv_FormatUint.call {i_0 : Int} {base_1 : Int} {Post : Value → Heap → Prop} {h : Heap} (H : strconv_FormatUint.S i_0 base_1 Post h) : CALL prg f_strconv_FormatUint #[.int .u64 i_0, .int .i64 base_1] Post h :=
  fn_call tau_ok mixed (c := strconv_FormatUint.code) (Λ := lookL []) Tryz.func105 (by kernel_rfl) (by kernel_rfl)
    (Rq.free (by kernel_rfl))
    (Eq.mp (by kernel_rfl) H)

def internal_strconv_FormatUint.S (i_0 : Int) (base_1 : Int) (Post : Value → Heap → Prop) (h : Heap) : Prop :=
    BIF (base_1 == (10 : Int)) (
    BIF ((decide (i_0 < (100 : Int)))) (
    CALL prg f_internal_strconv_small #[.int .i64 (IntKind.i64.wrap i_0)] (fun q1 h2 =>
    asS q1 fun s3 =>
    Post (.string s3) h2) h) (
    ALC ⟨Z_24_uint8⟩ T_24_uint8 (fun g4 h5 =>
    CALL prg f_internal_strconv_numDigits #[.int .u64 i_0] (fun q6 h7 =>
    asI .i64 q6 fun n8 =>
    SLB (0 : Int) n8 (24 : Int) <|
    CALL prg f_internal_strconv_formatBase10 #[.slice (some (slP ⟨g4, 0, none⟩ 24 0 1)) ((Int.toNat n8) - 0) (24 - 0), .int .u64 i_0] (fun q9 h10 =>
    SLB (0 : Int) n8 (24 : Int) <|
    SEMV prg (convert T_sl_uint8 T_string (.slice (some (slP ⟨g4, 0, none⟩ 24 0 1)) ((Int.toNat n8) - 0) (24 - 0))) (fun q11 h12 =>
    asS q11 fun s13 =>
    Post (.string s13) h12) h10) h7) h5) h)) (
    CALL prg f_internal_strconv_formatBits #[.slice none 0 0, .int .u64 i_0, .int .i64 base_1, .bool false, .bool false] (fun q14 h15 =>
    TUP2 q14 fun q16 q17 =>
    asL q16 fun l18b l18l l18c =>
    asS q17 fun s19 =>
    Post (.string s19) h15) h)
noncomputable def internal_strconv_FormatUint.code : Code := (Tryz.f167.body).getD .skip
theorem internal_strconv_FormatUint.call {i_0 : Int} {base_1 : Int} {Post : Value → Heap → Prop} {h : Heap} (H : internal_strconv_FormatUint.S i_0 base_1 Post h) : CALL prg f_internal_strconv_FormatUint #[.int .u64 i_0, .int .i64 base_1] Post h :=
  fn_call tau_ok mixed (c := internal_strconv_FormatUint.code) (Λ := lookL []) Tryz.func167 (by kernel_rfl) (by kernel_rfl)
    (Rq.free (by kernel_rfl))
    (Eq.mp (by kernel_rfl) H)

def impl_bitsText.S (a_0 : Nat) (Post : Value → Heap → Prop) (h : Heap) : Prop :=
    CALL prg f_impl_bitsOf #[.float .f32 a_0] (fun q1 h2 =>
    asI .u32 q1 fun n3 =>
    CALL prg f_strconv_FormatUint #[.int .u64 (IntKind.u64.wrap n3), .int .i64 (16 : Int)] (fun q4 h5 =>
    asS q4 fun s6 =>
    CALL prg f_strings_Repeat #[.string (⟨#[48]⟩ : ByteArray), .int .i64 ((IntKind.i64.wrap ((8 : Int) - ((ByteArray.size s6) : Int))))] (fun q9 h10 =>
    asS q9 fun s11 =>
    ((ByteArray.size s11 + ByteArray.size s6 : Nat) : Int) ≤ 9223372036854775807 ∧ (
    Post (.string (s11 ++ s6)) h10)) h5) h2) h
noncomputable def impl_bitsText.code : Code := (Tryz.f45.body).getD .skip
theorem impl_bitsText.call {a_0 : Nat} {Post : Value → Heap → Prop} {h : Heap} (H : impl_bitsText.S a_0 Post h) : CALL prg f_impl_bitsText #[.float .f32 a_0] Post h :=
  fn_call tau_ok mixed (c := impl_bitsText.code) (Λ := lookL []) Tryz.func45 (by kernel_rfl) (by kernel_rfl)
    (Rq.free (by kernel_rfl))
    (Eq.mp (by kernel_rfl) H)

def strconv_ParseUint.S (s_0 : ByteArray) (base_1 : Int) (bitSize_2 : Int) (Post : Value → Heap → Prop) (h : Heap) : Prop :=
    CALL prg f_internal_strconv_ParseUint #[.string s_0, .int .i64 base_1, .int .i64 bitSize_2] (fun q1 h2 =>
    TUP2 q1 fun q3 q4 =>
    asI .u64 q3 fun n5 =>
    binI tau .neq T_error q4 .nilIface (
    CMP prg .neq T_error (.tmp 17) (.const .nilIface) q4 .nilIface (fun b6 h7 =>
    BIF b6 (
    CALL prg f_strconv_toError #[.string (⟨#[80, 97, 114, 115, 101, 85, 105, 110, 116]⟩ : ByteArray), .string s_0, .int .i64 base_1, .int .i64 bitSize_2, q4] (fun q8 h9 =>
    Post (.tuple ⟨[.int .u64 n5, q8]⟩) h9) h7) (
    Post (.tuple ⟨[.int .u64 n5, .nilIface]⟩) h7)) h2) fun v10 =>
    asB v10 fun b11 =>
    BIF b11 (
    CALL prg f_strconv_toError #[.string (⟨#[80, 97, 114, 115, 101, 85, 105, 110, 116]⟩ : ByteArray), .string s_0, .int .i64 base_1, .int .i64 bitSize_2, q4] (fun q12 h13 =>
    Post (.tuple ⟨[.int .u64 n5, q12]⟩) h13) h2) (
    Post (.tuple ⟨[.int .u64 n5, .nilIface]⟩) h2)) h
noncomputable def strconv_ParseUint.code : Code := (Tryz.f162.body).getD .skip
theorem strconv_ParseUint.call {s_0 : ByteArray} {base_1 : Int} {bitSize_2 : Int} {Post : Value → Heap → Prop} {h : Heap} (H : strconv_ParseUint.S s_0 base_1 bitSize_2 Post h) : CALL prg f_strconv_ParseUint #[.string s_0, .int .i64 base_1, .int .i64 bitSize_2] Post h :=
  fn_call tau_ok mixed (c := strconv_ParseUint.code) (Λ := lookL []) Tryz.func162 (by kernel_rfl) (by kernel_rfl)
    (Rq.free (by kernel_rfl))
    (Eq.mp (by kernel_rfl) H)

def impl_readBits.S (s_0 : ByteArray) (Post : Value → Heap → Prop) (h : Heap) : Prop :=
    CALL prg f_strconv_ParseUint #[.string s_0, .int .i64 (16 : Int), .int .i64 (32 : Int)] (fun q1 h2 =>
    TUP2 q1 fun q3 q4 =>
    asI .u64 q3 fun n5 =>
    binI tau .neq T_error q4 .nilIface (
    CMP prg .neq T_error (.tmp 12) (.const .nilIface) q4 .nilIface (fun b6 h7 =>
    BIF b6 (
    Post (.tuple ⟨[.float .f32 0, .bool false]⟩) h7) (
    CALL prg f_math_Float32frombits #[.int .u32 (IntKind.u32.wrap n5)] (fun q8 h9 =>
    asF .f32 q8 fun r10 =>
    CALL prg f_impl_bitsText #[.float .f32 r10] (fun q11 h12 =>
    asS q11 fun s13 =>
    Post (.tuple ⟨[.float .f32 r10, .bool (ByteArray.toList s13 == ByteArray.toList s_0)]⟩) h12) h9) h7)) h2) fun v14 =>
    asB v14 fun b15 =>
    BIF b15 (
    Post (.tuple ⟨[.float .f32 0, .bool false]⟩) h2) (
    CALL prg f_math_Float32frombits #[.int .u32 (IntKind.u32.wrap n5)] (fun q16 h17 =>
    asF .f32 q16 fun r18 =>
    CALL prg f_impl_bitsText #[.float .f32 r18] (fun q19 h20 =>
    asS q19 fun s21 =>
    Post (.tuple ⟨[.float .f32 r18, .bool (ByteArray.toList s21 == ByteArray.toList s_0)]⟩) h20) h17) h2)) h
noncomputable def impl_readBits.code : Code := (Tryz.f100.body).getD .skip
theorem impl_readBits.call {s_0 : ByteArray} {Post : Value → Heap → Prop} {h : Heap} (H : impl_readBits.S s_0 Post h) : CALL prg f_impl_readBits #[.string s_0] Post h :=
  fn_call tau_ok mixed (c := impl_readBits.code) (Λ := lookL []) Tryz.func100 (by kernel_rfl) (by kernel_rfl)
    (Rq.free (by kernel_rfl))
    (Eq.mp (by kernel_rfl) H)

def impl_samplesText.B3 (Post : Value → Heap → Prop) (N3 : (Option Addr × Nat × Nat × Option Addr × Nat × Nat × Int × Int) → Heap → Prop) : Option Addr × Nat × Nat × Option Addr × Nat × Nat × Int × Int → Heap → Prop
  | (words_3b, words_3l, words_3c, t6b, t6l, t6c, t7, t8), h =>
    BIF (decide (t8 < t7)) (
    IDXS t6b t8 t6l fun p3 =>
    oF .f32 (cell h ((Addr.add p3 ((Int.toNat t8) * 1)))) fun r4 =>
    CALL prg f_impl_bitsText #[.float .f32 r4] (fun q5 h6 =>
    asS q5 fun s7 =>
    ALC ⟨[.string s7]⟩ T_string (fun g8 h9 =>
    SEMV prg (Builtin.append_ #[T_sl_string, T_sl_string] T_sl_string #[.slice words_3b words_3l words_3c, .slice (some ⟨g8, 0, none⟩) 1 1]) (fun q10 h11 =>
    asL q10 fun l12b l12l l12c =>
    N3 (l12b, l12l, l12c, t6b, t6l, t6c, t7, ((IntKind.i64.wrap (t8 + (1 : Int))))) h11) h9) h6) h) (
    CALL prg f_strings_Join #[.slice words_3b words_3l words_3c, .string (⟨#[32]⟩ : ByteArray)] (fun q13 h14 =>
    asS q13 fun s15 =>
    Post (.string s15) h14) h)
def impl_samplesText.g3 (fr : Frame) : Option Addr × Nat × Nat × Option Addr × Nat × Nat × Int × Int := ((gLb (lget fr 3)), (gLl (lget fr 3)), (gLc (lget fr 3)), (gLb (lget fr 6)), (gLl (lget fr 6)), (gLc (lget fr 6)), (gI (lget fr 7)), (gI (lget fr 8)))
def impl_samplesText.l3 (Post : Value → Heap → Prop) : Frame → Heap → Prop := fun fr h => GRD (shape (kds 20 [(3, .l), (6, .l), (7, .i .i64), (8, .i .i64)]) fr) (LOOP (impl_samplesText.B3 Post) (impl_samplesText.g3 fr) h)
def impl_samplesText.S (list_0b : Option Addr) (list_0l list_0c : Nat) (Post : Value → Heap → Prop) (h : Heap) : Prop :=
    LOOP (impl_samplesText.B3 Post) (none, 0, 0, list_0b, list_0l, list_0c, (list_0l : Int), (0 : Int)) h
noncomputable def impl_samplesText.code : Code := (Tryz.f44.body).getD .skip
theorem impl_samplesText.call {list_0b : Option Addr} {list_0l list_0c : Nat} {Post : Value → Heap → Prop} {h : Heap} (H : impl_samplesText.S list_0b list_0l list_0c Post h) : CALL prg f_impl_samplesText #[.slice list_0b list_0l list_0c] Post h :=
  fn_call tau_ok mixed (c := impl_samplesText.code) (Λ := lookL [(1000003, impl_samplesText.l3 Post)]) Tryz.func44 (by kernel_rfl) (by kernel_rfl)
    (Rq.seq (by kernel_rfl) (Rq.free (by kernel_rfl)) (Rq.seq (by kernel_rfl) (Rq.free (by kernel_rfl)) (Rq.seq (by kernel_rfl) (Rq.seq (by kernel_rfl) (Rq.free (by kernel_rfl)) (Rq.block (Rq.loop (impl_samplesText.l3 Post) (by kernel_rfl) (segL (g := impl_samplesText.g3) tau_ok mixed (Λ := fun N3 => lookL []) (fun _ _ _ => by kernel_rfl) (fun N3 => (Rq.free (by kernel_rfl))))))) (Rq.free (by kernel_rfl)))))
    (Eq.mp (by kernel_rfl) H)

def impl_readSamples.B3 (Post : Value → Heap → Prop) (N3 : (Option Addr × Nat × Nat × Option Addr × Nat × Nat × Int × Int) → Heap → Prop) : Option Addr × Nat × Nat × Option Addr × Nat × Nat × Int × Int → Heap → Prop
  | (out_4b, out_4l, out_4c, t9b, t9l, t9c, t10, t11), h =>
    BIF (decide (t11 < t10)) (
    IDXS t9b t11 t9l fun p3 =>
    oS (cell h ((Addr.add p3 ((Int.toNat t11) * 1)))) fun s4 =>
    CALL prg f_impl_readBits #[.string s4] (fun q5 h6 =>
    TUP2 q5 fun q7 q8 =>
    asF .f32 q7 fun r9 =>
    asB q8 fun b10 =>
    BIF (!b10) (
    Post (.tuple ⟨[.slice none 0 0, .bool false]⟩) h6) (
    ALC ⟨[.float .f32 r9]⟩ T_float32 (fun g11 h12 =>
    SEMV prg (Builtin.append_ #[T_sl_float32, T_sl_float32] T_sl_float32 #[.slice out_4b out_4l out_4c, .slice (some ⟨g11, 0, none⟩) 1 1]) (fun q13 h14 =>
    asL q13 fun l15b l15l l15c =>
    N3 (l15b, l15l, l15c, t9b, t9l, t9c, t10, ((IntKind.i64.wrap (t11 + (1 : Int))))) h14) h12) h6)) h) (
    Post (.tuple ⟨[.slice out_4b out_4l out_4c, .bool true]⟩) h)
def impl_readSamples.g3 (fr : Frame) : Option Addr × Nat × Nat × Option Addr × Nat × Nat × Int × Int := ((gLb (lget fr 4)), (gLl (lget fr 4)), (gLc (lget fr 4)), (gLb (lget fr 9)), (gLl (lget fr 9)), (gLc (lget fr 9)), (gI (lget fr 10)), (gI (lget fr 11)))
def impl_readSamples.l3 (Post : Value → Heap → Prop) : Frame → Heap → Prop := fun fr h => GRD (shape (kds 28 [(4, .l), (9, .l), (10, .i .i64), (11, .i .i64)]) fr) (LOOP (impl_readSamples.B3 Post) (impl_readSamples.g3 fr) h)
def impl_readSamples.S (words_0b : Option Addr) (words_0l words_0c : Nat) (Post : Value → Heap → Prop) (h : Heap) : Prop :=
    LOOP (impl_readSamples.B3 Post) (none, 0, 0, words_0b, words_0l, words_0c, (words_0l : Int), (0 : Int)) h
noncomputable def impl_readSamples.code : Code := (Tryz.f40.body).getD .skip
theorem impl_readSamples.call {words_0b : Option Addr} {words_0l words_0c : Nat} {Post : Value → Heap → Prop} {h : Heap} (H : impl_readSamples.S words_0b words_0l words_0c Post h) : CALL prg f_impl_readSamples #[.slice words_0b words_0l words_0c] Post h :=
  fn_call tau_ok mixed (c := impl_readSamples.code) (Λ := lookL [(1000003, impl_readSamples.l3 Post)]) Tryz.func40 (by kernel_rfl) (by kernel_rfl)
    (Rq.seq (by kernel_rfl) (Rq.free (by kernel_rfl)) (Rq.seq (by kernel_rfl) (Rq.free (by kernel_rfl)) (Rq.seq (by kernel_rfl) (Rq.seq (by kernel_rfl) (Rq.free (by kernel_rfl)) (Rq.block (Rq.loop (impl_readSamples.l3 Post) (by kernel_rfl) (segL (g := impl_readSamples.g3) tau_ok mixed (Λ := fun N3 => lookL []) (fun _ _ _ => by kernel_rfl) (fun N3 => (Rq.free (by kernel_rfl))))))) (Rq.free (by kernel_rfl)))))
    (Eq.mp (by kernel_rfl) H)

end Go.Sx
/- Bits told and read: the program's, at texts of bits. -/
set_option linter.unusedVariables false
set_option linter.unusedSimpArgs false
namespace Go.Sx
open Go.Proofs
set_option maxRecDepth 100000
set_option maxHeartbeats 1000000

section
variable {h0 h : Heap} {L : List Blk} {y a n : Nat}
theorem FormatUint16_c {u : Nat} (hu : u < 18446744073709551616) (T : Bru h) : CALL prg f_strconv_FormatUint #[.int .u64 (u : Int), .int .i64 16] (fun v h' => v = .string (mkB (hexL u)) ∧ Ext h h') h := by
  refine strconv_FormatUint.call (internal_strconv_FormatUint.call (br_f rfl ((formatBits16_c hu T).mono ?_)))
  rintro _ h1 ⟨rfl, x1⟩
  exact tup2 (as_l (as_s (as_s ⟨rfl, x1⟩)))
theorem mkB_app (a b : List UInt8) : mkB a ++ mkB b = mkB (a ++ b) := by
  have : (mkB a ++ mkB b).data.toList = a ++ b := by rw [ByteArray.data_append, Array.toList_append]
  rw [← mkB_list (mkB a ++ mkB b), this]
theorem bitsText_c (hy : FW .f32 y a) (T : Bru h) : CALL prg f_impl_bitsText #[.float .f32 y] (fun u h' => u = .string (mkB (bitL a)) ∧ Ext h h') h := by
  have ha : a < 4294967296 := hy.lt
  have hx := hexL_le 7 a (by simpa using ha)
  have hp := hexL_pos a
  refine impl_bitsText.call ((bitsOf_c hy).go fun h1 x1 => as_i ?_)
  rw [show IntKind.u64.wrap (a : Int) = (a : Int) by unfold IntKind.wrap; show (a : Int) % 2 ^ 64 = _; omega]
  refine goX (FormatUint16_c (u := a) (by omega) (T.ext x1)) fun h2 x2 => as_s ?_
  rw [mk_size, wrap64 (by omega) (by omega), show (8 : Int) - ((hexL a).length : Int) = ((8 - (hexL a).length : Nat) : Int) by omega]
  refine goX (Repeat_c (by omega)) fun h3 x3 => as_s ⟨by rw [mk_size, List.length_replicate]; omega, ?_, x1.trans (x2.trans x3)⟩
  rw [mkB_app]; rfl
theorem ParseUint_ok {n : Nat} (hn : n < 4294967296) : CALL prg f_strconv_ParseUint #[.string (mkB (bitL n)), .int .i64 16, .int .i64 32] (fun u h' => u = .tuple ⟨[.int .u64 (n : Int), .nilIface]⟩ ∧ Ext h h') h := by
  have hl := bitL_len hn
  refine strconv_ParseUint.call ((ParseUint16_c (by rw [mk_size]; omega)).mono ?_)
  rintro _ h1 ⟨m, q, rfl, hc, x1⟩
  rw [mkB_data, bitL_read hn] at hc
  rcases hc with ⟨rfl, _, m', rfl, _, e⟩ | ⟨k | k, _⟩
  · obtain rfl : n = m' := Option.some.inj e
    exact tup2 (as_i (cmp_ne_nn (br_f rfl ⟨rfl, x1⟩)))
  · rw [k] at hl; cases hl
  · cases k
theorem frombits_ok (n : Nat) : CALL prg f_math_Float32frombits #[.int .u32 (n : Int)] (fun u h' => u = .float .f32 n ∧ Ext h h') h := by
  have := frombits_c (n : Int) h
  rwa [Int.toNat_natCast] at this
theorem readBits_ok (hn : FW .f32 n n) (T : Bru h) : CALL prg f_impl_readBits #[.string (mkB (bitL n))] (fun u h' => u = .tuple ⟨[.float .f32 n, .bool true]⟩ ∧ Ext h h') h := by
  have hl : n < 4294967296 := hn.lt
  refine impl_readBits.call (goX (ParseUint_ok hl) fun h1 x1 => tup2 (as_i (cmp_ne_nn (br_f rfl ?_))))
  rw [show IntKind.u32.wrap (n : Int) = (n : Int) by unfold IntKind.wrap; show (n : Int) % 2 ^ 32 = _; omega]
  refine goX (frombits_ok n) fun h2 x2 => as_f (goX (bitsText_c hn (T.ext (x1.trans x2))) fun h3 x3 => as_s ⟨?_, x1.trans (x2.trans x3)⟩)
  simp
/-- Texts of samples in a slice. -/
def bitsS (ns : List Nat) : List ByteArray := ns.map fun n => mkB (bitL n)
theorem bitsS_len (ns : List Nat) : (bitsS ns).length = ns.length := by unfold bitsS; rw [List.length_map]
theorem bitsS_get {ns : List Nat} {i : Nat} (hi : i < ns.length) : (bitsS ns)[i]! = mkB (bitL ns[i]!) := by
  unfold bitsS
  rw [getElem!_pos _ i (by rw [List.length_map]; exact hi), List.getElem_map, getElem!_pos ns i hi]
theorem bitsS_join {ns : List Nat} : Lib.join ((bitsS ns).map (·.data.toList)) [32] = smpL ns := by
  unfold bitsS smpL
  rw [List.map_map]
  congr 1
theorem samplesText_c {b : Option Addr} {l c : Nat} {ns : List Nat} (S : SlR (rF .f32) h b l c ns) (hs : l ≤ 1048576) (T : Bru h) : CALL prg f_impl_samplesText #[.slice b l c] (fun u h' => u = .string (mkB (smpL ns)) ∧ Ext h h') h := by
  have hl := S.len
  have hm : (1048577 : Nat) ≤ maxLen := by decide
  have ha := S.a
  refine impl_samplesText.call ?_
  refine loop (fun x hh => ∃ (n : Nat) (b' : Option Addr) (c' : Nat) (B : List Blk), x = (b', n, c', b, l, c, (l : Int), (n : Int)) ∧ n ≤ l ∧ SlO T_string rS B b' n c' (bitsS (ns.take n)) ∧ Mem h hh B) (fun x => (l - x.2.2.2.2.2.2.2).toNat)
    ⟨0, _, _, [], rfl, by omega, SlO.nil, Mem.start h⟩ ?_
  rintro x hh ⟨n, b', c', B, rfl, hn, O, M⟩
  refine brd (fun hc => ?_) fun hc => ?_
  · refine (S.ext M.ext).idx (by decide) (by omega) (by omega) fun p Rp => Rp.oF1 fun w hw => ?_
    refine goM M (bitsText_c hw (T.ext M.ext)) fun h1 M => as_s ?_
    have hb := bitL_len (hw.lt : ns[(n : Int).toNat]! < 4294967296)
    have hb2 := hb
    rw [Int.toNat_natCast] at hb
    refine push_own (Bn := []) (L := []) (x := mkB (bitL ns[n]!)) E_sl_string O (M.cnt fun p => by simp only [cnt_app, cnt_nil]; omega) (str_ow (by rw [mk_size]; omega)) (by omega) (by omega) fun b2 c2 h2 B2 O2 M2 => as_l ?_
    refine ⟨⟨n + 1, b2, c2, B2, by rw [wrap64_succ (by omega)], by omega, ?_, M2.cnt fun p => by simp only [cnt_app, cnt_nil]; omega⟩, by rw [wrap64_succ (by omega)]; show _ < _; simp; omega⟩
    have e : bitsS (ns.take (n + 1)) = bitsS (ns.take n) ++ [mkB (bitL ns[n]!)] := by
      unfold bitsS
      rw [take_snoc (by omega), List.map_append]; rfl
    rw [e]; exact O2
  · obtain rfl : n = l := by omega
    rw [← hl, List.take_length] at O
    have hj : (Lib.join ((bitsS ns).map (·.data.toList)) ((⟨#[32]⟩ : ByteArray)).data.toList).length ≤ 140737488355328 := by
      have e : ((⟨#[32]⟩ : ByteArray)).data.toList = [32] := rfl
      rw [e, bitsS_join]
      have := smp_le ha.b
      omega
    have jc := Join_c (sep := ⟨#[32]⟩) O M (List.Sublist.refl _) (by omega) hj
    rw [hl] at jc
    refine goM M jc fun h1 M => as_s ⟨?_, M.ext⟩
    show Value.string (mkB (Lib.join ((bitsS ns).map (·.data.toList)) [32])) = _
    rw [bitsS_join]
theorem readSamples_ok {b : Option Addr} {l c : Nat} {ns : List Nat} (S : SlR rS h b l c (bitsS ns)) (ha : A32 ns) (hs : l ≤ 1048576) (T : Bru h) :
    CALL prg f_impl_readSamples #[.slice b l c] (fun u h' => ∃ b' c' B, u = .tuple ⟨[.slice b' l c', .bool true]⟩ ∧ SlO T_float32 (rF .f32) B b' l c' ns ∧ Mem h h' B) h := by
  have hl := S.len
  rw [bitsS_len] at hl
  have hm : (1048577 : Nat) ≤ maxLen := by decide
  refine impl_readSamples.call ?_
  refine loop (fun x hh => ∃ (n : Nat) (b' : Option Addr) (c' : Nat) (B : List Blk), x = (b', n, c', b, l, c, (l : Int), (n : Int)) ∧ n ≤ l ∧ SlO T_float32 (rF .f32) B b' n c' (ns.take n) ∧ Mem h hh B) (fun x => (l - x.2.2.2.2.2.2.2).toNat)
    ⟨0, _, _, [], rfl, by omega, SlO.nil, Mem.start h⟩ ?_
  rintro x hh ⟨n, b', c', B, rfl, hn, O, M⟩
  refine brd (fun hc => ?_) fun hc => ?_
  · refine (S.ext M.ext).idx (by decide) (by omega) (by omega) fun p Rp => Rp.oS1 fun _ => ?_
    rw [Int.toNat_natCast, bitsS_get (by omega)]
    have hw := ha _ (mem_get (l := ns) (i := n) (by omega))
    refine goM M (readBits_ok hw (T.ext M.ext)) fun h1 M => tup2 (as_f (as_b (br_f rfl ?_)))
    refine push_own (Bn := []) (L := []) (x := ns[n]!) E_sl_float32 O (M.cnt fun p => by simp only [cnt_app, cnt_nil]; omega) ⟨rfl, _, rfl, hw⟩ (by omega) (by omega) fun b2 c2 h2 B2 O2 M2 => as_l ?_
    refine ⟨⟨n + 1, b2, c2, B2, by rw [wrap64_succ (by omega)], by omega, ?_, M2.cnt fun p => by simp only [cnt_app, cnt_nil]; omega⟩, by rw [wrap64_succ (by omega)]; show _ < _; simp; omega⟩
    rw [take_snoc (by omega)]; exact O2
  · obtain rfl : n = l := by omega
    rw [← hl, List.take_length] at O
    rw [← hl]
    exact ⟨b', c', B, rfl, O, M⟩
end
end Go.Sx
/- Deeds read: the program's, and the law. -/
set_option linter.unusedVariables false
set_option linter.unusedSimpArgs false
namespace Go.Sx
open Go.Proofs
set_option maxRecDepth 100000
set_option maxHeartbeats 2000000

theorem strV_get {ls : List (List UInt8)} {j : Nat} (h : j < ls.length) : (strV ls)[j]? = some (.string (mkB ls[j]!)) := by
  unfold strV
  rw [List.getElem?_toArray, List.getElem?_map, List.getElem?_eq_getElem h, getElem!_pos ls j h]; rfl
end Go.Sx
