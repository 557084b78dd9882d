/- Two numbers, filters and two rings, read of lines. -/
import Derived.Test.YteahcankljndlaaGreatDoorLvl
import Derived.Test.YteahcankljndlaaGreatDoorTab
set_option linter.unusedVariables false
set_option linter.unusedSimpArgs false
namespace Go.Sx
open Go.Proofs
set_option maxRecDepth 100000
set_option maxHeartbeats 2000000

/-- The lines of two numbers, filters and two rings. -/
def pairL (w : List UInt8) (a b : Nat) (fs : List GFilter) (r1 r2 : GRing) : List (List UInt8) := headL w [a, b] :: (fs.map GFilter.line ++ [r1.line, r2.line])
theorem pairL_len (w : List UInt8) (a b : Nat) (fs : List GFilter) (r1 r2 : GRing) : (pairL w a b fs r1 r2).length = fs.length + 3 := by
  unfold pairL
  simp
theorem pairL_f {w : List UInt8} {a b : Nat} {fs : List GFilter} {r1 r2 : GRing} {i : Nat} (h : i < fs.length) : (pairL w a b fs r1 r2)[i + 1]! = fs[i]!.line := by
  show (headL w [a, b] :: (fs.map GFilter.line ++ [r1.line, r2.line]))[i + 1]! = _
  have h2 : i + 1 < (headL w [a, b] :: (fs.map GFilter.line ++ [r1.line, r2.line])).length := by simp; omega
  rw [getElem!_pos (headL w [a, b] :: (fs.map GFilter.line ++ [r1.line, r2.line])) (i + 1) h2, getElem!_pos fs i h, List.getElem_cons_succ, List.getElem_append_left (by rw [List.length_map]; exact h), List.getElem_map]
theorem pairL_r {w : List UInt8} {a b : Nat} {fs : List GFilter} {r1 r2 : GRing} {i : Nat} (h : i < 2) : (pairL w a b fs r1 r2)[fs.length + 1 + i]! = [r1, r2][i]!.line := by
  show (headL w [a, b] :: (fs.map GFilter.line ++ [r1.line, r2.line]))[fs.length + 1 + i]! = _
  rw [show fs.length + 1 + i = (fs.length + i) + 1 by omega]
  have h2 : (fs.length + i) + 1 < (headL w [a, b] :: (fs.map GFilter.line ++ [r1.line, r2.line])).length := by simp; omega
  rw [getElem!_pos (headL w [a, b] :: (fs.map GFilter.line ++ [r1.line, r2.line])) (fs.length + i + 1) h2, List.getElem_cons_succ, List.getElem_append_right (by rw [List.length_map]; omega)]
  simp only [List.length_map, Nat.add_sub_cancel_left]
  rcases (show i = 0 ∨ i = 1 by omega) with rfl | rfl <;> rfl
section
variable {h0 h : Heap} {L : List Blk}
theorem readPair_ok {w : List UInt8} {a b : Nat} {fs : List GFilter} {r1 r2 : GRing} (hw : Word w) (hws : w.length ≤ 10) (hA : A32 [a, b]) (hf : ∀ f ∈ fs, FiltA f ∧ f.ok = true) (A1 : RingA r1) (A2 : RingA r2) (hk : fs.length ≤ 2) (T : Txt h) :
    CALL prg f_impl_readPair #[.string (mkB (linL (pairL w a b fs r1 r2))), .int .i64 (fs.length : Int)] (fun u h' => ∃ b1 c1 b2 c2 b3 c3 B1 B2 B3, u = .tuple ⟨[.slice b1 2 c1, .slice b2 fs.length c2, .slice b3 2 c3, .bool true]⟩ ∧ SlO T_float32 (rF .f32) B1 b1 2 c1 [a, b] ∧
      SlO T_impl_Filter rFilter B2 b2 fs.length c2 fs ∧ SlO T_impl_Ring rRing B3 b3 2 c3 [r1, r2] ∧ Mem h h' (B1 ++ (B2 ++ B3))) h := by
  have hm : (1048576 : Nat) ≤ maxLen := by decide
  have hlen := pairL_len w a b fs r1 r2
  have hall : ∀ l ∈ pairL w a b fs r1 r2, (∀ x ∈ l, x ≠ 10) ∧ l.length ≤ 9300 := fun l hl => by
    unfold pairL at hl
    simp only [List.mem_cons, List.mem_append, List.mem_map, List.not_mem_nil, or_false] at hl
    rcases hl with rfl | ⟨f, hf', rfl⟩ | rfl | rfl
    · exact ⟨head_mem (fun x hx => (hw x hx).2) hA.b, by have := head_size (w := w) hA.b; simp only [List.length_cons, List.length_nil] at this; omega⟩
    · exact ⟨(hf f hf').1.b.mem, by have := (hf f hf').1.b.size; omega⟩
    · exact ⟨A1.b.mem, A1.b.size⟩
    · exact ⟨A2.b.mem, A2.b.size⟩
  have hsz := lin_size (k := 9300) (ls := pairL w a b fs r1 r2) fun l hl => (hall l hl).2
  have e3 : IntKind.i64.wrap ((fs.length : Int) + 3) = ((fs.length + 3 : Nat) : Int) := by rw [wrap64 (by omega) (by omega)]; omega
  have e1 : IntKind.i64.wrap ((fs.length : Int) + 1) = ((fs.length + 1 : Nat) : Int) := by rw [wrap64 (by omega) (by omega)]; omega
  refine impl_readPair.call ?_
  unfold impl_readPair.S
  rw [e3]
  refine linesOf_ok T (m := fs.length + 3) hlen (by omega) (fun l hl => (hall l hl).1) (by rw [hlen] at hsz; have : (9300 + 1) * (fs.length + 3) ≤ (9300 + 1) * 5 := Nat.mul_le_mul_left _ (by omega); omega) (Mem.start h) fun g h1 x1 M => ?_
  have ec : (pairL w a b fs r1 r2 ++ [[]]).length = fs.length + 3 + 1 := by rw [List.length_append, hlen]; rfl
  have at_ : ∀ i, i < fs.length + 3 → (pairL w a b fs r1 r2 ++ [[]])[i]! = (pairL w a b fs r1 r2)[i]! := fun i hi => by
    rw [getElem!_pos _ i (by omega), getElem!_pos _ i (by omega), List.getElem_append_left (by omega)]
  have M : Mem h h1 [(g, T_string, strV (pairL w a b fs r1 r2 ++ [[]]))] := M
  generalize hLS : pairL w a b fs r1 r2 ++ [[]] = LS at M ec at_
  refine tup2 (as_l (as_b (br_f rfl (idxs (by omega) (by omega) ?_))))
  refine M.oS .here (j := 0) (strV_get (j := 0) (by omega)) ?_
  rw [at_ 0 (by omega), show (pairL w a b fs r1 r2)[0]! = headL w [a, b] from rfl]
  have hh := head_size (w := w) hA.b
  simp only [List.length_cons, List.length_nil] at hh
  refine Split_c (c := 32) (T.ext x1).lb (by rw [mk_size]; omega) M fun gw h2 x2 M => as_l ?_
  rw [mkB_data, head_cut (fun x hx => (hw x hx).1) hA.b (by simp)] at M ⊢
  have el : (w :: [a, b].map bitL).length = 3 := rfl
  rw [el]
  refine slb (by omega) (by omega) (by omega) ?_
  have S1 := slr_drop (n := 1) (strV_slr M .here (fun x hx => by
    simp only [List.mem_cons, List.mem_map] at hx
    rcases hx with rfl | ⟨n, hn, rfl⟩
    · omega
    · have := bitL_len (hA n (by simpa using hn)).lt; omega) (by rw [el]; omega)) (by rw [el]; omega)
  rw [el] at S1
  have eb : ((w :: [a, b].map bitL).map mkB).drop 1 = bitsS [a, b] := map_bits _
  rw [eb] at S1
  refine (readSamples_ok S1 hA (by omega) (T.ext M.ext).br).mono ?_
  rintro _ h3 ⟨bn, cn, Bn, rfl, On, N⟩
  have M := (M.join N).cnt (W := Bn ++ [(g, T_string, strV LS)]) (fun p => by simp only [List.append_eq, cnt_app, cnt_cons, cnt_nil] at *; omega)
  refine tup2 (as_l (as_b (br_f rfl (br_f rfl ?_))))
  unfold impl_readPair.J8
  rw [e1]
  simp only [Int.toNat_natCast]
  refine slb (by omega) (by omega) (by omega) ?_
  have hnl : 3 - 1 = 2 := rfl
  rw [hnl] at On ⊢
  have s1 : slA (some (⟨g, 0, none⟩ : Addr)) (fs.length + 3 + 1) 1 1 = some ⟨g, 1, none⟩ := by rw [slA_n (by omega), add_g]
  rw [s1]
  refine loop (fun y hh => ∃ (n : Nat) (b' : Option Addr) (c' : Nat) (B : List Blk), y = ((fs.length : Int), some ⟨g, 0, none⟩, fs.length + 3, fs.length + 3 + 1, bn, 2, cn, b', n, c', some ⟨g, 1, none⟩, fs.length + 1 - 1, fs.length + 3 + 1 - 1, ((fs.length + 1 - 1 : Nat) : Int), (n : Int)) ∧ n ≤ fs.length ∧ SlO T_impl_Filter rFilter B b' n c' (fs.take n) ∧ Mem h hh (B ++ (Bn ++ [(g, T_string, strV LS)]))) (fun y => (fs.length - y.2.2.2.2.2.2.2.2.2.2.2.2.2.2).toNat)
    ⟨0, _, _, [], rfl, by omega, SlO.nil, M⟩ ?_
  rintro y hh ⟨n, b', c', B, rfl, hn, O, M⟩
  refine brd (fun hc => ?_) fun hc => ?_
  · refine idxs (by omega) (by omega) ?_
    rw [Int.toNat_natCast, Nat.mul_one, add_none]
    refine M.oS (.skip (.skip .here)) (strV_get (j := 1 + n) (by omega)) ?_
    rw [at_ _ (by omega), Nat.add_comm, pairL_f (by omega)]
    obtain ⟨fA, fok⟩ := hf _ (mem_get (l := fs) (i := n) (by omega))
    refine (ReadFilter_ok fok fA (T.ext M.ext)).mono ?_
    rintro _ h4 ⟨cf, rfl, OF, x4⟩
    refine tup2 (as_a (as_i ((M.grow x4).alc fun g5 h5 x5 M => M.sta0 .here (osz OF rfl) (rFilter.oone OF) rfl .here fun h6 M => br_f rfl (M.lda0 .here (osz OF rfl) (siz (osz OF rfl) ?_)))))
    have M := M.drop
    have es : splice 0 6 cf [.int .i64 (0 : Int), .float .f32 0, .float .f32 0, .float .f32 0, .float .f32 0, .float .f32 0] = cf.toList := by
      unfold splice
      simp
    rw [es]
    refine push_own (Bn := []) (L := Bn ++ [(g, T_string, strV LS)]) (x := fs[n]!) (cs := ⟨cf.toList⟩) E_sl_impl_Filter O (M.cnt fun p => by simp only [cnt_app, cnt_cons, cnt_nil]; omega) OF (by omega) (by omega) fun b2 c2 h7 B2 O2 M2 => as_l ?_
    refine ⟨⟨n + 1, b2, c2, B2, by rw [wrap64_succ (by omega)], by omega, ?_, M2.cnt fun p => by simp only [cnt_app, cnt_cons, cnt_nil]; omega⟩, by rw [wrap64_succ (by omega)]; show _ < _; simp; omega⟩
    rw [take_snoc (by omega)]; exact O2
  obtain rfl : n = fs.length := by omega
  rw [List.take_length] at O
  refine slb (by omega) (by omega) (by omega) ?_
  have s2 : slA (some (⟨g, 0, none⟩ : Addr)) (fs.length + 3 + 1) (fs.length + 1) 1 = some ⟨g, fs.length + 1, none⟩ := by rw [slA_n (by omega), add_g, Nat.mul_one]
  have t2 : fs.length + 3 - (fs.length + 1) = 2 := by omega
  rw [e1]
  simp only [Int.toNat_natCast]
  rw [s2, t2]
  refine loop (fun y hh => ∃ (n : Nat) (b2 : Option Addr) (c2 : Nat) (B2 : List Blk), y = (bn, 2, cn, b', fs.length, c', b2, n, c2, some ⟨g, fs.length + 1, none⟩, 2, fs.length + 3 + 1 - (fs.length + 1), ((2 : Nat) : Int), (n : Int)) ∧ n ≤ 2 ∧ SlO T_impl_Ring rRing B2 b2 n c2 ([r1, r2].take n) ∧ Mem h hh (B2 ++ (B ++ (Bn ++ [(g, T_string, strV LS)])))) (fun y => (2 - y.2.2.2.2.2.2.2.2.2.2.2.2.2).toNat)
    ⟨0, _, _, [], rfl, by omega, SlO.nil, M⟩ ?_
  rintro y hh ⟨n, b2, c2, B2, rfl, hn, O2, M⟩
  refine brd (fun hc => ?_) fun hc => ?_
  · refine idxs (by omega) (by omega) ?_
    rw [Int.toNat_natCast, Nat.mul_one, add_none]
    refine M.oS (.skip (.skip (.skip .here))) (strV_get (j := fs.length + 1 + n) (by omega)) ?_
    rw [at_ _ (by omega), pairL_r (by omega)]
    have hA' : RingA [r1, r2][n]! := by rcases (show n = 0 ∨ n = 1 by omega) with rfl | rfl; exact A1; exact A2
    refine (readRing_ok hA' (T.ext M.ext)).mono ?_
    rintro _ h4 ⟨br, lr, cr, Br, rfl, OR, N⟩
    have M := (M.join N).cnt (W := Br ++ (B2 ++ (B ++ (Bn ++ [(g, T_string, strV LS)])))) (fun p => by simp only [List.append_eq, cnt_app, cnt_cons, cnt_nil] at *; omega)
    refine tup2 (as_a (as_b (M.alc fun g5 h5 x5 M => M.sta0 .here rfl (all_one rfl) rfl .here fun h6 M => br_f rfl (M.lda0 .here rfl (siz rfl ?_)))))
    have M := M.drop
    refine push_own (Bn := Br) (L := B ++ (Bn ++ [(g, T_string, strV LS)])) (x := [r1, r2][n]!) (cs := ⟨[.slice br lr cr, .int .i64 [r1, r2][n]!.At]⟩) E_sl_impl_Ring O2 (M.cnt fun p => by simp only [cnt_app, cnt_cons, cnt_nil]; omega) (ring_ow OR) (by omega) (by omega) fun b3 c3 h7 B3 O3 M3 => as_l ?_
    refine ⟨⟨n + 1, b3, c3, B3, by rw [wrap64_succ (by omega)], by omega, ?_, M3.cnt fun p => by simp only [cnt_app, cnt_cons, cnt_nil]; omega⟩, by rw [wrap64_succ (by omega)]; show _ < _; simp; omega⟩
    rw [take_snoc (l := [r1, r2]) (by show n < 2; omega)]; exact O3
  obtain rfl : n = 2 := by omega
  refine ⟨bn, cn, b', c', b2, c2, Bn, B, B2, rfl, On, O, O2, ?_⟩
  have M := M.cnt (W := (g, T_string, strV LS) :: (Bn ++ (B ++ B2))) fun p => by simp only [cnt_app, cnt_cons, cnt_nil]; omega
  exact M.drop
end
end Go.Sx
/- What functions of this seat's program compute, told in words (a predicate over heaps for each), and the proofs that the words are no more than the code's own weakest precondition. -/
namespace Go.Sx
open Go.Proofs
set_option linter.unusedVariables false
set_option maxRecDepth 100000

def impl_JetText.S (x_0 : Array Value) (Post : Value → Heap → Prop) (h : Heap) : Prop :=
    ALC x_0 T_impl_Jet (fun g1 h2 =>
    LDA 18 h2 ⟨g1, 0, none⟩ fun a3 =>
    CALL prg f_impl_ValidJet #[.agg a3] (fun q4 h5 =>
    asB q4 fun b6 =>
    BIF (!b6) (
    Post (.string (⟨#[]⟩ : ByteArray)) h5) (
    oF .f32 (cell h5 ⟨g1, 16, none⟩) fun r7 =>
    oF .f32 (cell h5 ⟨g1, 17, none⟩) fun r8 =>
    LDA 6 h5 ⟨g1, 4, none⟩ fun a9 =>
    LDA 6 h5 ⟨g1, 10, none⟩ fun a10 =>
    LDA 2 h5 ⟨g1, 0, none⟩ fun a11 =>
    LDA 2 h5 ⟨g1, 2, none⟩ fun a12 =>
    ALC ⟨[.float .f32 r7, .float .f32 r8]⟩ T_float32 (fun g13 h14 =>
    PIN h5 ⟨g1, 2, none⟩ 2 h14 <|
    PIN h5 ⟨g1, 0, none⟩ 2 h14 <|
    PIN h5 ⟨g1, 10, none⟩ 6 h14 <|
    PIN h5 ⟨g1, 4, none⟩ 6 h14 <|
    CALL prg f_impl_samplesText #[.slice (some ⟨g13, 0, none⟩) 2 2] (fun q15 h16 =>
    asS q15 fun s17 =>
    PIN h5 ⟨g1, 2, none⟩ 2 h16 <|
    PIN h5 ⟨g1, 0, none⟩ 2 h16 <|
    PIN h5 ⟨g1, 10, none⟩ 6 h16 <|
    PIN h5 ⟨g1, 4, none⟩ 6 h16 <|
    ((ByteArray.size (⟨#[106, 101, 116, 32]⟩ : ByteArray) + ByteArray.size s17 : Nat) : Int) ≤ 9223372036854775807 ∧ (
    ((ByteArray.size ((⟨#[106, 101, 116, 32]⟩ : ByteArray) ++ s17) + ByteArray.size (⟨#[10]⟩ : ByteArray) : Nat) : Int) ≤ 9223372036854775807 ∧ (
    CALL prg f_impl_FilterText #[.agg a9] (fun q18 h19 =>
    asS q18 fun s20 =>
    PIN h5 ⟨g1, 2, none⟩ 2 h19 <|
    PIN h5 ⟨g1, 0, none⟩ 2 h19 <|
    PIN h5 ⟨g1, 10, none⟩ 6 h19 <|
    ((ByteArray.size ((((⟨#[106, 101, 116, 32]⟩ : ByteArray) ++ s17) ++ (⟨#[10]⟩ : ByteArray))) + ByteArray.size s20 : Nat) : Int) ≤ 9223372036854775807 ∧ (
    ((ByteArray.size (((((⟨#[106, 101, 116, 32]⟩ : ByteArray) ++ s17) ++ (⟨#[10]⟩ : ByteArray)) ++ s20)) + ByteArray.size (⟨#[10]⟩ : ByteArray) : Nat) : Int) ≤ 9223372036854775807 ∧ (
    CALL prg f_impl_FilterText #[.agg a10] (fun q21 h22 =>
    asS q21 fun s23 =>
    PIN h5 ⟨g1, 2, none⟩ 2 h22 <|
    PIN h5 ⟨g1, 0, none⟩ 2 h22 <|
    ((ByteArray.size ((((((⟨#[106, 101, 116, 32]⟩ : ByteArray) ++ s17) ++ (⟨#[10]⟩ : ByteArray)) ++ s20) ++ (⟨#[10]⟩ : ByteArray))) + ByteArray.size s23 : Nat) : Int) ≤ 9223372036854775807 ∧ (
    ((ByteArray.size (((((((⟨#[106, 101, 116, 32]⟩ : ByteArray) ++ s17) ++ (⟨#[10]⟩ : ByteArray)) ++ s20) ++ (⟨#[10]⟩ : ByteArray)) ++ s23)) + ByteArray.size (⟨#[10]⟩ : ByteArray) : Nat) : Int) ≤ 9223372036854775807 ∧ (
    CALL prg f_impl_ringText #[.agg a11] (fun q24 h25 =>
    asS q24 fun s26 =>
    PIN h5 ⟨g1, 2, none⟩ 2 h25 <|
    ((ByteArray.size ((((((((⟨#[106, 101, 116, 32]⟩ : ByteArray) ++ s17) ++ (⟨#[10]⟩ : ByteArray)) ++ s20) ++ (⟨#[10]⟩ : ByteArray)) ++ s23) ++ (⟨#[10]⟩ : ByteArray))) + ByteArray.size s26 : Nat) : Int) ≤ 9223372036854775807 ∧ (
    ((ByteArray.size (((((((((⟨#[106, 101, 116, 32]⟩ : ByteArray) ++ s17) ++ (⟨#[10]⟩ : ByteArray)) ++ s20) ++ (⟨#[10]⟩ : ByteArray)) ++ s23) ++ (⟨#[10]⟩ : ByteArray)) ++ s26)) + ByteArray.size (⟨#[10]⟩ : ByteArray) : Nat) : Int) ≤ 9223372036854775807 ∧ (
    CALL prg f_impl_ringText #[.agg a12] (fun q27 h28 =>
    asS q27 fun s29 =>
    ((ByteArray.size ((((((((((⟨#[106, 101, 116, 32]⟩ : ByteArray) ++ s17) ++ (⟨#[10]⟩ : ByteArray)) ++ s20) ++ (⟨#[10]⟩ : ByteArray)) ++ s23) ++ (⟨#[10]⟩ : ByteArray)) ++ s26) ++ (⟨#[10]⟩ : ByteArray))) + ByteArray.size s29 : Nat) : Int) ≤ 9223372036854775807 ∧ (
    ((ByteArray.size (((((((((((⟨#[106, 101, 116, 32]⟩ : ByteArray) ++ s17) ++ (⟨#[10]⟩ : ByteArray)) ++ s20) ++ (⟨#[10]⟩ : ByteArray)) ++ s23) ++ (⟨#[10]⟩ : ByteArray)) ++ s26) ++ (⟨#[10]⟩ : ByteArray)) ++ s29)) + ByteArray.size (⟨#[10]⟩ : ByteArray) : Nat) : Int) ≤ 9223372036854775807 ∧ (
    Post (.string ((((((((((((⟨#[106, 101, 116, 32]⟩ : ByteArray) ++ s17) ++ (⟨#[10]⟩ : ByteArray)) ++ s20) ++ (⟨#[10]⟩ : ByteArray)) ++ s23) ++ (⟨#[10]⟩ : ByteArray)) ++ s26) ++ (⟨#[10]⟩ : ByteArray)) ++ s29) ++ (⟨#[10]⟩ : ByteArray)))) h28))) h25))) h22))) h19))) h16))) h14) h5)) h2) h
noncomputable def impl_JetText.code : Code := (Tryz.f15.body).getD .skip
theorem impl_JetText.call {x_0 : Array Value} {Post : Value → Heap → Prop} {h : Heap} (H : impl_JetText.S x_0 Post h) : CALL prg f_impl_JetText #[.agg x_0] Post h :=
  fn_call tau_ok mixed (c := impl_JetText.code) (Λ := lookL []) Tryz.func15 (by kernel_rfl) (by kernel_rfl)
    (Rq.free (by kernel_rfl))
    (Eq.mp (by kernel_rfl) H)

def impl_ReadJet.S (text_0 : ByteArray) (Post : Value → Heap → Prop) (h : Heap) : Prop :=
    ALC ⟨Z_impl_Jet⟩ T_impl_Jet (fun g1 h2 =>
    CALL prg f_impl_readPair #[.string text_0, .int .i64 (2 : Int)] (fun q3 h4 =>
    TUP4 q3 fun q5 q6 q7 q8 =>
    asL q5 fun l9b l9l l9c =>
    asL q6 fun l10b l10l l10c =>
    asL q7 fun l11b l11l l11c =>
    asB q8 fun b12 =>
    BIF (!b12) (
    STA 18 h4 ⟨g1, 0, none⟩ (⟨[.slice none 0 0, .int .i64 (0 : Int), .slice none 0 0, .int .i64 (0 : Int), .int .i64 (0 : Int), .float .f32 0, .float .f32 0, .float .f32 0, .float .f32 0, .float .f32 0, .int .i64 (0 : Int), .float .f32 0, .float .f32 0, .float .f32 0, .float .f32 0, .float .f32 0, .float .f32 0, .float .f32 0]⟩ : Array Value) fun h13 =>
    LDA 18 h13 ⟨g1, 0, none⟩ fun a14 =>
    Post (.tuple ⟨[.agg a14, .int .i64 (5 : Int)]⟩) h13) (
    IDXS l11b (0 : Int) l11l fun p15 =>
    LDA 2 h4 p15 fun a16 =>
    IDXS l11b (1 : Int) l11l fun p17 =>
    LDA 2 h4 (Addr.add p17 2) fun a18 =>
    IDXS l10b (0 : Int) l10l fun p19 =>
    LDA 6 h4 p19 fun a20 =>
    IDXS l10b (1 : Int) l10l fun p21 =>
    LDA 6 h4 (Addr.add p21 6) fun a22 =>
    IDXS l9b (0 : Int) l9l fun p23 =>
    oF .f32 (cell h4 p23) fun r24 =>
    IDXS l9b (1 : Int) l9l fun p25 =>
    oF .f32 (cell h4 (Addr.add p25 1)) fun r26 =>
    SIZ (Array.size a16) 2 <|
    SIZ (Array.size a18) 2 <|
    SIZ (Array.size a20) 6 <|
    SIZ (Array.size a22) 6 <|
    ALC ⟨Z_impl_Jet⟩ T_impl_Jet (fun g27 h28 =>
    PIN h4 (Addr.add p25 1) 1 h28 <|
    PIN h4 p23 1 h28 <|
    PIN h4 (Addr.add p21 6) 6 h28 <|
    PIN h4 p19 6 h28 <|
    PIN h4 (Addr.add p17 2) 2 h28 <|
    PIN h4 p15 2 h28 <|
    STA 18 h28 ⟨g27, 0, none⟩ ⟨(List.set (List.set (splice 10 6 a22 (splice 4 6 a20 (splice 2 2 a18 (splice 0 2 a16 [.slice none 0 0, .int .i64 (0 : Int), .slice none 0 0, .int .i64 (0 : Int), .int .i64 (0 : Int), .float .f32 0, .float .f32 0, .float .f32 0, .float .f32 0, .float .f32 0, .int .i64 (0 : Int), .float .f32 0, .float .f32 0, .float .f32 0, .float .f32 0, .float .f32 0, .float .f32 0, .float .f32 0])))) 16 (.float .f32 r24)) 17 (.float .f32 r26))⟩ fun h29 =>
    LDA 18 h29 ⟨g27, 0, none⟩ fun a30 =>
    CALL prg f_impl_JetText #[.agg a30] (fun q31 h32 =>
    asS q31 fun s33 =>
    BIF (!(ByteArray.toList s33 == ByteArray.toList text_0)) (
    STA 18 h32 ⟨g1, 0, none⟩ (⟨[.slice none 0 0, .int .i64 (0 : Int), .slice none 0 0, .int .i64 (0 : Int), .int .i64 (0 : Int), .float .f32 0, .float .f32 0, .float .f32 0, .float .f32 0, .float .f32 0, .int .i64 (0 : Int), .float .f32 0, .float .f32 0, .float .f32 0, .float .f32 0, .float .f32 0, .float .f32 0, .float .f32 0]⟩ : Array Value) fun h34 =>
    LDA 18 h34 ⟨g1, 0, none⟩ fun a35 =>
    Post (.tuple ⟨[.agg a35, .int .i64 (5 : Int)]⟩) h34) (
    LDA 18 h32 ⟨g27, 0, none⟩ fun a36 =>
    STA 18 h32 ⟨g1, 0, none⟩ a36 fun h37 =>
    LDA 18 h37 ⟨g1, 0, none⟩ fun a38 =>
    Post (.tuple ⟨[.agg a38, .int .i64 (0 : Int)]⟩) h37)) h29) h4)) h2) h
noncomputable def impl_ReadJet.code : Code := (Tryz.f14.body).getD .skip
theorem impl_ReadJet.call {text_0 : ByteArray} {Post : Value → Heap → Prop} {h : Heap} (H : impl_ReadJet.S text_0 Post h) : CALL prg f_impl_ReadJet #[.string text_0] Post h :=
  fn_call tau_ok mixed (c := impl_ReadJet.code) (Λ := lookL []) Tryz.func14 (by kernel_rfl) (by kernel_rfl)
    (Rq.free (by kernel_rfl))
    (Eq.mp (by kernel_rfl) H)

end Go.Sx
