/- Bits told and read: the program's, at texts of bits. -/
import Derived.Test.YtgbjfohgmpmjoaaGreatDoorLv0
import Derived.Test.YtgbjfohgmpmjoaaGreatDoorLvp
import Derived.Test.YtgbjfohgmpmjoaaGreatDoorK0
import Derived.Test.YtgbjfohgmpmjoaaGreatDoorLk60
import Derived.Test.YtgbjfohgmpmjoaaGreatDoorTab
set_option linter.unusedVariables false
set_option linter.unusedSimpArgs false
namespace Go.Sx
open Go.Proofs
set_option maxRecDepth 100000
set_option maxHeartbeats 1000000

section
variable {h0 h : Heap} {L : List Blk} {y a n : Nat}
theorem FormatUint16_c {u : Nat} (hu : u < 18446744073709551616) (T : Bru h) : CALL prg f_strconv_FormatUint #[.int .u64 (u : Int), .int .i64 16] (fun v h' => v = .string (mkB (hexL u)) ∧ Ext h h') h := by
  refine strconv_FormatUint.call (internal_strconv_FormatUint.call (br_f rfl ((formatBits16_c hu T).mono ?_)))
  rintro _ h1 ⟨rfl, x1⟩
  exact tup2 (as_l (as_s (as_s ⟨rfl, x1⟩)))
theorem mkB_app (a b : List UInt8) : mkB a ++ mkB b = mkB (a ++ b) := by
  have : (mkB a ++ mkB b).data.toList = a ++ b := by rw [ByteArray.data_append, Array.toList_append]
  rw [← mkB_list (mkB a ++ mkB b), this]
theorem bitsText_c (hy : FW .f32 y a) (T : Bru h) : CALL prg f_impl_bitsText #[.float .f32 y] (fun u h' => u = .string (mkB (bitL a)) ∧ Ext h h') h := by
  have ha : a < 4294967296 := hy.lt
  have hx := hexL_le 7 a (by simpa using ha)
  have hp := hexL_pos a
  refine impl_bitsText.call ((bitsOf_c hy).go fun h1 x1 => as_i ?_)
  rw [show IntKind.u64.wrap (a : Int) = (a : Int) by unfold IntKind.wrap; show (a : Int) % 2 ^ 64 = _; omega]
  refine goX (FormatUint16_c (u := a) (by omega) (T.ext x1)) fun h2 x2 => as_s ?_
  rw [mk_size, wrap64 (by omega) (by omega), show (8 : Int) - ((hexL a).length : Int) = ((8 - (hexL a).length : Nat) : Int) by omega]
  refine goX (Repeat_c (by omega)) fun h3 x3 => as_s ⟨by rw [mk_size, List.length_replicate]; omega, ?_, x1.trans (x2.trans x3)⟩
  rw [mkB_app]; rfl
theorem ParseUint_ok {n : Nat} (hn : n < 4294967296) : CALL prg f_strconv_ParseUint #[.string (mkB (bitL n)), .int .i64 16, .int .i64 32] (fun u h' => u = .tuple ⟨[.int .u64 (n : Int), .nilIface]⟩ ∧ Ext h h') h := by
  have hl := bitL_len hn
  refine strconv_ParseUint.call ((ParseUint16_c (by rw [mk_size]; omega)).mono ?_)
  rintro _ h1 ⟨m, q, rfl, hc, x1⟩
  rw [mkB_data, bitL_read hn] at hc
  rcases hc with ⟨rfl, _, m', rfl, _, e⟩ | ⟨k | k, _⟩
  · obtain rfl : n = m' := Option.some.inj e
    exact tup2 (as_i (cmp_ne_nn (br_f rfl ⟨rfl, x1⟩)))
  · rw [k] at hl; cases hl
  · cases k
theorem frombits_ok (n : Nat) : CALL prg f_math_Float32frombits #[.int .u32 (n : Int)] (fun u h' => u = .float .f32 n ∧ Ext h h') h := by
  have := frombits_c (n : Int) h
  rwa [Int.toNat_natCast] at this
theorem readBits_ok (hn : FW .f32 n n) (T : Bru h) : CALL prg f_impl_readBits #[.string (mkB (bitL n))] (fun u h' => u = .tuple ⟨[.float .f32 n, .bool true]⟩ ∧ Ext h h') h := by
  have hl : n < 4294967296 := hn.lt
  refine impl_readBits.call (goX (ParseUint_ok hl) fun h1 x1 => tup2 (as_i (cmp_ne_nn (br_f rfl ?_))))
  rw [show IntKind.u32.wrap (n : Int) = (n : Int) by unfold IntKind.wrap; show (n : Int) % 2 ^ 32 = _; omega]
  refine goX (frombits_ok n) fun h2 x2 => as_f (goX (bitsText_c hn (T.ext (x1.trans x2))) fun h3 x3 => as_s ⟨?_, x1.trans (x2.trans x3)⟩)
  simp
/-- Texts of samples in a slice. -/
def bitsS (ns : List Nat) : List ByteArray := ns.map fun n => mkB (bitL n)
theorem bitsS_len (ns : List Nat) : (bitsS ns).length = ns.length := by unfold bitsS; rw [List.length_map]
theorem bitsS_get {ns : List Nat} {i : Nat} (hi : i < ns.length) : (bitsS ns)[i]! = mkB (bitL ns[i]!) := by
  unfold bitsS
  rw [getElem!_pos _ i (by rw [List.length_map]; exact hi), List.getElem_map, getElem!_pos ns i hi]
theorem bitsS_join {ns : List Nat} : Lib.join ((bitsS ns).map (·.data.toList)) [32] = smpL ns := by
  unfold bitsS smpL
  rw [List.map_map]
  congr 1
theorem samplesText_c {b : Option Addr} {l c : Nat} {ns : List Nat} (S : SlR (rF .f32) h b l c ns) (hs : l ≤ 1048576) (T : Bru h) : CALL prg f_impl_samplesText #[.slice b l c] (fun u h' => u = .string (mkB (smpL ns)) ∧ Ext h h') h := by
  have hl := S.len
  have hm : (1048577 : Nat) ≤ maxLen := by decide
  have ha := S.a
  refine impl_samplesText.call ?_
  refine loop (fun x hh => ∃ (n : Nat) (b' : Option Addr) (c' : Nat) (B : List Blk), x = (b', n, c', b, l, c, (l : Int), (n : Int)) ∧ n ≤ l ∧ SlO T_string rS B b' n c' (bitsS (ns.take n)) ∧ Mem h hh B) (fun x => (l - x.2.2.2.2.2.2.2).toNat)
    ⟨0, _, _, [], rfl, by omega, SlO.nil, Mem.start h⟩ ?_
  rintro x hh ⟨n, b', c', B, rfl, hn, O, M⟩
  refine brd (fun hc => ?_) fun hc => ?_
  · refine (S.ext M.ext).idx (by decide) (by omega) (by omega) fun p Rp => Rp.oF1 fun w hw => ?_
    refine goM M (bitsText_c hw (T.ext M.ext)) fun h1 M => as_s ?_
    have hb := bitL_len (hw.lt : ns[(n : Int).toNat]! < 4294967296)
    have hb2 := hb
    rw [Int.toNat_natCast] at hb
    refine push_own (Bn := []) (L := []) (x := mkB (bitL ns[n]!)) E_sl_string O (M.cnt fun p => by simp only [cnt_app, cnt_nil]; omega) (str_ow (by rw [mk_size]; omega)) (by omega) (by omega) fun b2 c2 h2 B2 O2 M2 => as_l ?_
    refine ⟨⟨n + 1, b2, c2, B2, by rw [wrap64_succ (by omega)], by omega, ?_, M2.cnt fun p => by simp only [cnt_app, cnt_nil]; omega⟩, by rw [wrap64_succ (by omega)]; show _ < _; simp; omega⟩
    have e : bitsS (ns.take (n + 1)) = bitsS (ns.take n) ++ [mkB (bitL ns[n]!)] := by
      unfold bitsS
      rw [take_snoc (by omega), List.map_append]; rfl
    rw [e]; exact O2
  · obtain rfl : n = l := by omega
    rw [← hl, List.take_length] at O
    have hj : (Lib.join ((bitsS ns).map (·.data.toList)) ((⟨#[32]⟩ : ByteArray)).data.toList).length ≤ 140737488355328 := by
      have e : ((⟨#[32]⟩ : ByteArray)).data.toList = [32] := rfl
      rw [e, bitsS_join]
      have := smp_le ha.b
      omega
    have jc := Join_c (sep := ⟨#[32]⟩) O M (List.Sublist.refl _) (by omega) hj
    rw [hl] at jc
    refine goM M jc fun h1 M => as_s ⟨?_, M.ext⟩
    show Value.string (mkB (Lib.join ((bitsS ns).map (·.data.toList)) [32])) = _
    rw [bitsS_join]
theorem readSamples_ok {b : Option Addr} {l c : Nat} {ns : List Nat} (S : SlR rS h b l c (bitsS ns)) (ha : A32 ns) (hs : l ≤ 1048576) (T : Bru h) :
    CALL prg f_impl_readSamples #[.slice b l c] (fun u h' => ∃ b' c' B, u = .tuple ⟨[.slice b' l c', .bool true]⟩ ∧ SlO T_float32 (rF .f32) B b' l c' ns ∧ Mem h h' B) h := by
  have hl := S.len
  rw [bitsS_len] at hl
  have hm : (1048577 : Nat) ≤ maxLen := by decide
  refine impl_readSamples.call ?_
  refine loop (fun x hh => ∃ (n : Nat) (b' : Option Addr) (c' : Nat) (B : List Blk), x = (b', n, c', b, l, c, (l : Int), (n : Int)) ∧ n ≤ l ∧ SlO T_float32 (rF .f32) B b' n c' (ns.take n) ∧ Mem h hh B) (fun x => (l - x.2.2.2.2.2.2.2).toNat)
    ⟨0, _, _, [], rfl, by omega, SlO.nil, Mem.start h⟩ ?_
  rintro x hh ⟨n, b', c', B, rfl, hn, O, M⟩
  refine brd (fun hc => ?_) fun hc => ?_
  · refine (S.ext M.ext).idx (by decide) (by omega) (by omega) fun p Rp => Rp.oS1 fun _ => ?_
    rw [Int.toNat_natCast, bitsS_get (by omega)]
    have hw := ha _ (mem_get (l := ns) (i := n) (by omega))
    refine goM M (readBits_ok hw (T.ext M.ext)) fun h1 M => tup2 (as_f (as_b (br_f rfl ?_)))
    refine push_own (Bn := []) (L := []) (x := ns[n]!) E_sl_float32 O (M.cnt fun p => by simp only [cnt_app, cnt_nil]; omega) ⟨rfl, _, rfl, hw⟩ (by omega) (by omega) fun b2 c2 h2 B2 O2 M2 => as_l ?_
    refine ⟨⟨n + 1, b2, c2, B2, by rw [wrap64_succ (by omega)], by omega, ?_, M2.cnt fun p => by simp only [cnt_app, cnt_nil]; omega⟩, by rw [wrap64_succ (by omega)]; show _ < _; simp; omega⟩
    rw [take_snoc (by omega)]; exact O2
  · obtain rfl : n = l := by omega
    rw [← hl, List.take_length] at O
    rw [← hl]
    exact ⟨b', c', B, rfl, O, M⟩
end
end Go.Sx
/- Deeds read: the program's, and the law. -/
set_option linter.unusedVariables false
set_option linter.unusedSimpArgs false
namespace Go.Sx
open Go.Proofs
set_option maxRecDepth 100000
set_option maxHeartbeats 2000000

theorem strV_get {ls : List (List UInt8)} {j : Nat} (h : j < ls.length) : (strV ls)[j]? = some (.string (mkB ls[j]!)) := by
  unfold strV
  rw [List.getElem?_toArray, List.getElem?_map, List.getElem?_eq_getElem h, getElem!_pos ls j h]; rfl
end Go.Sx
/- What functions of this seat's program compute, told in words (a predicate over heaps for each), and the proofs that the words are no more than the code's own weakest precondition. -/
namespace Go.Sx
open Go.Proofs
set_option linter.unusedVariables false
set_option maxRecDepth 100000

def impl_FilterText.S (f_0 : Array Value) (Post : Value → Heap → Prop) (h : Heap) : Prop :=
    ALC f_0 T_impl_Filter (fun g1 h2 =>
    LDA 6 h2 ⟨g1, 0, none⟩ fun a3 =>
    CALL prg f_impl_ValidFilter #[.agg a3] (fun q4 h5 =>
    asB q4 fun b6 =>
    BIF (!b6) (
    Post (.string (⟨#[]⟩ : ByteArray)) h5) (
    oI .i64 (cell h5 ⟨g1, 0, none⟩) fun n7 =>
    SLB (0 : Int) (3 : Int) (3 : Int) <|
    SLB (0 : Int) (2 : Int) (2 : Int) <|
    CALL prg f_strconv_FormatInt #[.int .i64 n7, .int .i64 (10 : Int)] (fun q8 h9 =>
    asS q8 fun s10 =>
    ((ByteArray.size (⟨#[102, 105, 108, 116, 101, 114, 32]⟩ : ByteArray) + ByteArray.size s10 : Nat) : Int) ≤ 9223372036854775807 ∧ (
    ((ByteArray.size ((⟨#[102, 105, 108, 116, 101, 114, 32]⟩ : ByteArray) ++ s10) + ByteArray.size (⟨#[32]⟩ : ByteArray) : Nat) : Int) ≤ 9223372036854775807 ∧ (
    CALL prg f_impl_samplesText #[.slice (some (slP ⟨g1, 1, none⟩ 3 0 1)) (3 - 0) (3 - 0)] (fun q11 h12 =>
    asS q11 fun s13 =>
    ((ByteArray.size ((((⟨#[102, 105, 108, 116, 101, 114, 32]⟩ : ByteArray) ++ s10) ++ (⟨#[32]⟩ : ByteArray))) + ByteArray.size s13 : Nat) : Int) ≤ 9223372036854775807 ∧ (
    ((ByteArray.size (((((⟨#[102, 105, 108, 116, 101, 114, 32]⟩ : ByteArray) ++ s10) ++ (⟨#[32]⟩ : ByteArray)) ++ s13)) + ByteArray.size (⟨#[32]⟩ : ByteArray) : Nat) : Int) ≤ 9223372036854775807 ∧ (
    CALL prg f_impl_samplesText #[.slice (some (slP ⟨g1, 4, none⟩ 2 0 1)) (2 - 0) (2 - 0)] (fun q14 h15 =>
    asS q14 fun s16 =>
    ((ByteArray.size ((((((⟨#[102, 105, 108, 116, 101, 114, 32]⟩ : ByteArray) ++ s10) ++ (⟨#[32]⟩ : ByteArray)) ++ s13) ++ (⟨#[32]⟩ : ByteArray))) + ByteArray.size s16 : Nat) : Int) ≤ 9223372036854775807 ∧ (
    Post (.string (((((((⟨#[102, 105, 108, 116, 101, 114, 32]⟩ : ByteArray) ++ s10) ++ (⟨#[32]⟩ : ByteArray)) ++ s13) ++ (⟨#[32]⟩ : ByteArray)) ++ s16))) h15)) h12))) h9))) h5)) h2) h
noncomputable def impl_FilterText.code : Code := (Tryz.f17.body).getD .skip
theorem impl_FilterText.call {f_0 : Array Value} {Post : Value → Heap → Prop} {h : Heap} (H : impl_FilterText.S f_0 Post h) : CALL prg f_impl_FilterText #[.agg f_0] Post h :=
  fn_call tau_ok mixed (c := impl_FilterText.code) (Λ := lookL []) Tryz.func17 (by kernel_rfl) (by kernel_rfl)
    (Rq.free (by kernel_rfl))
    (Eq.mp (by kernel_rfl) H)

def impl_ReadFilter.J8 (Post : Value → Heap → Prop) (text_0 : ByteArray) (t2 : Addr) (kind_5 : Int) (list_7b : Option Addr) (list_7l : Nat) (list_7c : Nat) (h : Heap) : Prop :=
    SLB (0 : Int) (3 : Int) (list_7c : Int) <|
    AAP (slA list_7b list_7c 0 1) 3 (3 - 0) fun p35 =>
    LDA 3 h p35 fun a36 =>
    SLB (3 : Int) (list_7l : Int) (list_7c : Int) <|
    AAP (slA list_7b list_7c 3 1) 2 (list_7l - 3) fun p37 =>
    LDA 2 h p37 fun a38 =>
    SIZ (Array.size a36) 3 <|
    SIZ (Array.size a38) 2 <|
    ALC ⟨Z_impl_Filter⟩ T_impl_Filter (fun g39 h40 =>
    PIN h p37 2 h40 <|
    PIN h p35 3 h40 <|
    STA 6 h40 ⟨g39, 0, none⟩ ⟨(splice 4 2 a38 (splice 1 3 a36 [.int .i64 kind_5, .float .f32 0, .float .f32 0, .float .f32 0, .float .f32 0, .float .f32 0]))⟩ fun h41 =>
    LDA 6 h41 ⟨g39, 0, none⟩ fun a42 =>
    CALL prg f_impl_FilterText #[.agg a42] (fun q43 h44 =>
    asS q43 fun s45 =>
    BIF (!(ByteArray.toList s45 == ByteArray.toList text_0)) (
    STA 6 h44 t2 (⟨[.int .i64 (0 : Int), .float .f32 0, .float .f32 0, .float .f32 0, .float .f32 0, .float .f32 0]⟩ : Array Value) fun h46 =>
    LDA 6 h46 t2 fun a47 =>
    Post (.tuple ⟨[.agg a47, .int .i64 (5 : Int)]⟩) h46) (
    LDA 6 h44 ⟨g39, 0, none⟩ fun a48 =>
    STA 6 h44 t2 a48 fun h49 =>
    LDA 6 h49 t2 fun a50 =>
    Post (.tuple ⟨[.agg a50, .int .i64 (0 : Int)]⟩) h49)) h41) h
def impl_ReadFilter.j8 (Post : Value → Heap → Prop) : Frame → Heap → Prop := fun fr h => GRD (shape (kds 52 [(0, .s), (2, .p), (5, .i .i64), (7, .l)]) fr) (impl_ReadFilter.J8 Post (gS (lget fr 0)) (gP (lget fr 2)) (gI (lget fr 5)) (gLb (lget fr 7)) (gLl (lget fr 7)) (gLc (lget fr 7)) h)
def impl_ReadFilter.S (text_0 : ByteArray) (Post : Value → Heap → Prop) (h : Heap) : Prop :=
    ALC ⟨Z_impl_Filter⟩ T_impl_Filter (fun g1 h2 =>
    CALL prg f_strings_Split #[.string text_0, .string (⟨#[32]⟩ : ByteArray)] (fun q3 h4 =>
    asL q3 fun l5b l5l l5c =>
    BIF ((l5l : Int) != (7 : Int)) (
    STA 6 h4 ⟨g1, 0, none⟩ (⟨[.int .i64 (0 : Int), .float .f32 0, .float .f32 0, .float .f32 0, .float .f32 0, .float .f32 0]⟩ : Array Value) fun h8 =>
    LDA 6 h8 ⟨g1, 0, none⟩ fun a9 =>
    Post (.tuple ⟨[.agg a9, .int .i64 (5 : Int)]⟩) h8) (
    IDXS l5b (1 : Int) l5l fun p10 =>
    oS (cell h4 (Addr.add p10 1)) fun s11 =>
    CALL prg f_strconv_ParseInt #[.string s11, .int .i64 (10 : Int), .int .i64 (64 : Int)] (fun q12 h13 =>
    TUP2 q12 fun q14 q15 =>
    asI .i64 q14 fun n16 =>
    SLB (2 : Int) (l5l : Int) (l5c : Int) <|
    CALL prg f_impl_readSamples #[.slice (slA l5b l5c 2 1) (l5l - 2) (l5c - 2)] (fun q17 h18 =>
    TUP2 q17 fun q19 q20 =>
    asL q19 fun l21b l21l l21c =>
    asB q20 fun b22 =>
    binI tau .neq T_error q15 .nilIface (
    CMP prg .neq T_error (.tmp 29) (.const .nilIface) q15 .nilIface (fun b23 h24 =>
    BIF b23 (
    STA 6 h24 ⟨g1, 0, none⟩ (⟨[.int .i64 (0 : Int), .float .f32 0, .float .f32 0, .float .f32 0, .float .f32 0, .float .f32 0]⟩ : Array Value) fun h25 =>
    LDA 6 h25 ⟨g1, 0, none⟩ fun a26 =>
    Post (.tuple ⟨[.agg a26, .int .i64 (5 : Int)]⟩) h25) (
    BIF (!b22) (
    STA 6 h24 ⟨g1, 0, none⟩ (⟨[.int .i64 (0 : Int), .float .f32 0, .float .f32 0, .float .f32 0, .float .f32 0, .float .f32 0]⟩ : Array Value) fun h27 =>
    LDA 6 h27 ⟨g1, 0, none⟩ fun a28 =>
    Post (.tuple ⟨[.agg a28, .int .i64 (5 : Int)]⟩) h27) (
    impl_ReadFilter.J8 Post text_0 ⟨g1, 0, none⟩ n16 l21b l21l l21c h24))) h18) fun v29 =>
    SPL v29 (
    STA 6 h18 ⟨g1, 0, none⟩ (⟨[.int .i64 (0 : Int), .float .f32 0, .float .f32 0, .float .f32 0, .float .f32 0, .float .f32 0]⟩ : Array Value) fun h31 =>
    LDA 6 h31 ⟨g1, 0, none⟩ fun a32 =>
    Post (.tuple ⟨[.agg a32, .int .i64 (5 : Int)]⟩) h31) (
    BIF (!b22) (
    STA 6 h18 ⟨g1, 0, none⟩ (⟨[.int .i64 (0 : Int), .float .f32 0, .float .f32 0, .float .f32 0, .float .f32 0, .float .f32 0]⟩ : Array Value) fun h33 =>
    LDA 6 h33 ⟨g1, 0, none⟩ fun a34 =>
    Post (.tuple ⟨[.agg a34, .int .i64 (5 : Int)]⟩) h33) (
    impl_ReadFilter.J8 Post text_0 ⟨g1, 0, none⟩ n16 l21b l21l l21c h18)) fun cs30 =>
    False) h13) h4)) h2) h
noncomputable def impl_ReadFilter.code : Code := (Tryz.f16.body).getD .skip
theorem impl_ReadFilter.call {text_0 : ByteArray} {Post : Value → Heap → Prop} {h : Heap} (H : impl_ReadFilter.S text_0 Post h) : CALL prg f_impl_ReadFilter #[.string text_0] Post h :=
  fn_call tau_ok mixed (c := impl_ReadFilter.code) (Λ := lookL [(8, impl_ReadFilter.j8 Post)]) Tryz.func16 (by kernel_rfl) (by kernel_rfl)
    (Rq.seq (by kernel_rfl) (Rq.free (by kernel_rfl)) (Rq.seq (by kernel_rfl) (Rq.free (by kernel_rfl)) (Rq.seq (by kernel_rfl) (Rq.free (by kernel_rfl)) (Rq.seq (by kernel_rfl) (Rq.free (by kernel_rfl)) (Rq.seq (by kernel_rfl) (Rq.free (by kernel_rfl)) (Rq.seqJ (impl_ReadFilter.j8 Post) (by kernel_rfl) (seg (fun _ _ => by kernel_rfl)) (Rq.free (by kernel_rfl))
(Rq.free (by kernel_rfl))))))))
    (Eq.mp (by kernel_rfl) H)

def impl_linesOf.S (text_0 : ByteArray) (many_1 : Int) (Post : Value → Heap → Prop) (h : Heap) : Prop :=
    CALL prg f_strings_Split #[.string text_0, .string (⟨#[10]⟩ : ByteArray)] (fun q1 h2 =>
    asL q1 fun l3b l3l l3c =>
    BIF (((l3l : Int) != (IntKind.i64.wrap (many_1 + (1 : Int))))) (
    Post (.tuple ⟨[.slice none 0 0, .bool false]⟩) h2) (
    IDXS l3b many_1 l3l fun p6 =>
    oS (cell h2 ((Addr.add p6 ((Int.toNat many_1) * 1)))) fun s7 =>
    BIF ((!(ByteArray.toList s7 == ByteArray.toList (⟨#[]⟩ : ByteArray)))) (
    Post (.tuple ⟨[.slice none 0 0, .bool false]⟩) h2) (
    SLB (0 : Int) many_1 (l3c : Int) <|
    Post (.tuple ⟨[.slice (slA l3b l3c 0 1) ((Int.toNat many_1) - 0) (l3c - 0), .bool true]⟩) h2))) h
noncomputable def impl_linesOf.code : Code := (Tryz.f65.body).getD .skip
theorem impl_linesOf.call {text_0 : ByteArray} {many_1 : Int} {Post : Value → Heap → Prop} {h : Heap} (H : impl_linesOf.S text_0 many_1 Post h) : CALL prg f_impl_linesOf #[.string text_0, .int .i64 many_1] Post h :=
  fn_call tau_ok mixed (c := impl_linesOf.code) (Λ := lookL []) Tryz.func65 (by kernel_rfl) (by kernel_rfl)
    (Rq.free (by kernel_rfl))
    (Eq.mp (by kernel_rfl) H)

end Go.Sx
