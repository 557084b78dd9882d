/- Samples, rings, filters told by the rule. -/
import Derived.Test.YtnhcoeogejgidadGreatDoorLvj
import Derived.Test.YtnhcoeogejgidadGreatDoorLvw
import Derived.Test.YtnhcoeogejgidadGreatDoorTS
set_option linter.unusedVariables false
set_option linter.unusedSimpArgs false
namespace Go.Sx
open Go.Proofs
set_option maxRecDepth 100000
set_option maxHeartbeats 1000000

/-- The last k digits of a number, to base 16. -/
def lowX : Nat → Nat → List UInt8
  | _, 0 => []
  | n, k + 1 => lowX (n / 16) k ++ [hexD (n % 16)]
theorem lowX_len : ∀ (k n : Nat), (lowX n k).length = k
  | 0, _ => rfl
  | k + 1, n => by rw [lowX, List.length_append, lowX_len k]; rfl
theorem lowX_zero : ∀ k, lowX 0 k = List.replicate k 48
  | 0 => rfl
  | k + 1 => by
    rw [lowX, lowX_zero k, List.replicate_succ']
    rfl
theorem lowX_hex : ∀ (k n : Nat), n < 16 ^ (k + 1) → lowX n (k + 1) = List.replicate (k + 1 - (hexL n).length) 48 ++ hexL n
  | 0, n, h => by
    have h : n < 16 := by simpa using h
    rw [hexL_small h, lowX, lowX, Nat.mod_eq_of_lt h]; rfl
  | k + 1, n, h => by
    by_cases hn : n < 16
    · rw [hexL_small hn, lowX, Nat.div_eq_of_lt hn, lowX_zero, Nat.mod_eq_of_lt hn]; rfl
    · rw [lowX, lowX_hex k (n / 16) (by rw [Nat.pow_succ] at h; omega), hexL_step hn, List.length_append, List.append_assoc]
      congr 2
      have := hexL_pos (n / 16)
      simp only [List.length_cons, List.length_nil]
      omega
theorem bitL_low {n : Nat} (h : n < 4294967296) : bitL n = lowX n 8 := (lowX_hex 7 n (by simpa using h)).symm
theorem lowX_cons : ∀ (k n : Nat), lowX n (k + 1) = hexD (n / 16 ^ k % 16) :: lowX n k
  | 0, n => by rw [lowX, lowX]; simp [lowX]
  | k + 1, n => by
    rw [lowX, lowX_cons k (n / 16), lowX]
    rw [Nat.div_div_eq_div_mul, ← Nat.pow_succ']; rfl
section
variable {h : Heap} {y a : Nat}
theorem l01Bits_c (hy : FW .f32 y a) : Ret prg f_spec_l01Bits #[.float .f32 y] (.int .u32 a) := fun h => by
  have := cn_word hy
  refine spec_l01Bits.call ((l01NaN_c hy).go fun h1 x1 => as_b (br (fun hb => ⟨by rw [← this, if_pos hb]; rfl, x1⟩) fun hb => ?_))
  exact (Float32bits_c y).go fun h2 x2 => as_i ⟨by rw [← this, if_neg (by rw [hb]; decide)], x1.trans x2⟩
theorem xdig_at : ∀ k : Fin 16, byteAt (⟨#[48, 49, 50, 51, 52, 53, 54, 55, 56, 57, 97, 98, 99, 100, 101, 102]⟩ : ByteArray) ((k.val : Nat) : Int) = ((hexD k.val).toNat : Int) := by decide +kernel
/-- The bytes that have been written: m are left. -/
def hexW (a m : Nat) : List Int := List.replicate m 0 ++ (lowX a (8 - m)).map fun b => (b.toNat : Int)
theorem hexW_len {a m : Nat} (hm : m ≤ 8) : (hexW a m).length = 8 := by
  unfold hexW
  rw [List.length_append, List.length_replicate, List.length_map, lowX_len]; omega
theorem hexW_step {a m : Nat} (hm : m < 8) : (hexW a (m + 1)).set m ((hexD (a / 16 ^ (8 - (m + 1)) % 16)).toNat : Int) = hexW a m := by
  unfold hexW
  rw [List.replicate_succ', List.append_assoc, List.set_append_right _ _ (by simp), List.length_replicate, Nat.sub_self]
  rw [show 8 - m = (8 - (m + 1)) + 1 by omega, lowX_cons]
  rfl
theorem wrapU32 {n : Nat} (h : n < 4294967296) : IntKind.u32.wrap (n : Int) = n := by simp [IntKind.wrap, IntKind.bits, IntKind.signed]; omega
theorem l01Hex_c (hy : FW .f32 y a) : CALL prg f_spec_l01Hex #[.float .f32 y] (fun u h' => u = .string (mkB (bitL a)) ∧ Ext h h') h := by
  have ha : a < 4294967296 := hy.lt
  refine spec_l01Hex.call ((l01Bits_c hy).go fun h1 x1 => as_i ?_)
  refine make_sl (r := rI .u8) (z := 0) (zc := [.int .u8 0]) ⟨rfl, rfl⟩ rfl rfl (by decide) (Mem.start h1) (by decide) (by decide) fun g h2 x2 M _ => ?_
  have M : Mem h1 h2 [(g, T_uint8, ⟨iv .u8 (hexW a 8)⟩)] := M
  refine loop (fun y hh => ∃ m : Nat, y = (((a / 16 ^ (8 - m) : Nat) : Int), (some ⟨g, 0, none⟩ : Option Addr), 8, 8, (m : Int) - 1) ∧ m ≤ 8 ∧ Mem h1 hh [(g, T_uint8, ⟨iv .u8 (hexW a m)⟩)])
    (fun y => (y.2.2.2.2 + 1).toNat) ⟨8, by simp, by omega, M⟩ ?_
  clear M
  rintro y hh ⟨m, rfl, hm, M⟩
  refine brd (fun hc => ?_) fun hc => ?_
  · obtain ⟨m, rfl⟩ : ∃ k, m = k + 1 := ⟨m - 1, by omega⟩
    have e1 : Int.tmod (((a / 16 ^ (8 - (m + 1)) : Nat)) : Int) 16 = ((a / 16 ^ (8 - (m + 1)) % 16 : Nat) : Int) := rfl
    have e2 : Int.tdiv (((a / 16 ^ (8 - (m + 1)) : Nat)) : Int) 16 = ((a / 16 ^ (8 - m) : Nat) : Int) := by
      have : Int.tdiv (((a / 16 ^ (8 - (m + 1)) : Nat)) : Int) 16 = ((a / 16 ^ (8 - (m + 1)) / 16 : Nat) : Int) := rfl
      rw [this, Nat.div_div_eq_div_mul, ← Nat.pow_succ, show (8 - (m + 1)).succ = 8 - m by omega]
    have hl : a / 16 ^ (8 - (m + 1)) % 16 < 16 := Nat.mod_lt _ (by omega)
    have e3 : ((m + 1 : Nat) : Int) - 1 = (m : Int) := by omega
    have hq : a / 16 ^ (8 - m) ≤ a := Nat.div_le_self _ _
    refine nz (by decide) ?_
    rw [e1, e2, e3]
    refine idx (by omega) (by show _ < ((16 : Nat) : Int); omega) (idxs (by omega) (by omega) ?_)
    rw [Int.toNat_natCast, Nat.mul_one, add_g, xdig_at ⟨a / 16 ^ (8 - (m + 1)) % 16, hl⟩]
    refine M.st1 .here (by show m < (iv .u8 (hexW a (m + 1))).length; rw [iv_len, hexW_len hm]; omega) .here fun h3 M => nz (by decide) ?_
    have e4 : (⟨iv .u8 (hexW a (m + 1))⟩ : Array Value).setIfInBounds m (.int .u8 ((hexD (a / 16 ^ (8 - (m + 1)) % 16)).toNat : Int)) = ⟨iv .u8 (hexW a m)⟩ := by
      have e5 := congrArg (List.map (Value.int .u8)) (hexW_step (a := a) (m := m) (by omega))
      rw [List.map_set] at e5
      rw [List.setIfInBounds_toArray]
      exact congrArg List.toArray e5
    rw [e4] at M
    refine ⟨⟨m, ?_, by omega, M⟩, ?_⟩
    · rw [wrapU32 (Nat.lt_of_le_of_lt hq ha), wrap64 (by omega) (by omega)]
    · rw [wrap64 (by omega) (by omega)]; show ((m : Int) - 1 + 1).toNat < ((m : Int) + 1).toNat; omega
  · obtain rfl : m = 0 := by omega
    refine bytes_str (xs := hexW a 0) U_sl_uint8 U_uint8 U_string (fun i hi => ⟨_, rfl, ?_⟩) (hexW_len (by omega)) ?_
    · rw [add_none, Nat.zero_add, M.cell .here]
      rw [List.getElem?_toArray, List.getElem?_eq_getElem hi]
    · refine as_s ⟨?_, x1.trans M.ext⟩
      rw [bitL_low ha]
      show Value.string (bstr (hexW a 0)) = _
      unfold bstr hexW
      rw [List.replicate_zero, List.nil_append, List.map_map]
      congr 2
      have : ((fun n : Int => UInt8.ofNat n.toNat) ∘ fun b : UInt8 => (b.toNat : Int)) = id := by
        funext b
        show UInt8.ofNat (b.toNat : Int).toNat = b
        simp
      rw [this, List.map_id]
end
end Go.Sx
/- Filters, strings, pipes and bows told by the rule. -/
set_option linter.unusedVariables false
set_option linter.unusedSimpArgs false
namespace Go.Sx
open Go.Proofs
set_option maxRecDepth 100000
set_option maxHeartbeats 1000000

/-- Samples, each behind a blank. -/
def spL (ns : List Nat) : List UInt8 := (ns.map fun n => 32 :: bitL n).flatten
theorem spL_app (a b : List Nat) : spL (a ++ b) = spL a ++ spL b := by unfold spL; rw [List.map_append, List.flatten_append]
theorem spL_one (n : Nat) : spL [n] = 32 :: bitL n := by unfold spL; simp
theorem spL_cons : ∀ {ns : List Nat}, ns ≠ [] → spL ns = 32 :: smpL ns
  | [], h => absurd rfl h
  | [n], _ => by rw [spL_one, smp_words]; simp [words_one]
  | n :: m :: r, _ => by
    have := spL_cons (ns := m :: r) (by simp)
    show 32 :: bitL n ++ spL (m :: r) = _
    rw [this]
    show 32 :: bitL n ++ 32 :: wordsL (bitL m :: r.map bitL) = 32 :: wordsL (bitL n :: bitL m :: r.map bitL)
    rw [words_cons]; rfl
theorem words_sp (w : List UInt8) (ns : List Nat) : wordsL (w :: ns.map bitL) = w ++ spL ns := by
  cases ns with
  | nil => rw [List.map_nil, words_one]; simp [spL]
  | cons n r => rw [spL_cons (by simp), words_smp (by simp)]; rfl
theorem smp_cons (n : Nat) (r : List Nat) : smpL (n :: r) = bitL n ++ spL r := words_sp (bitL n) r
theorem spL_len {ns : List Nat} (h : A32 ns) : (spL ns).length = 9 * ns.length := by
  induction ns with
  | nil => rfl
  | cons n r ih =>
    have b8 := bitL_len (h n (.head _)).lt
    show (32 :: bitL n ++ spL r).length = _
    rw [List.length_append, ih fun a ha => h a (.tail _ ha), List.length_cons, List.length_cons, b8]; omega
theorem spL_take {ns : List Nat} {i : Nat} (hi : i < ns.length) : spL (ns.take (i + 1)) = spL (ns.take i) ++ 32 :: bitL ns[i]! := by
  rw [take_snoc hi, spL_app, spL_one]
theorem A32.take {ns : List Nat} (h : A32 ns) (i : Nat) : A32 (ns.take i) := fun a ha => h a (List.mem_of_mem_take ha)
theorem e10 : (⟨#[10]⟩ : ByteArray) = mkB [10] := rfl
theorem e32 : (⟨#[32]⟩ : ByteArray) = mkB [32] := rfl
section
variable {h : Heap} {cs : Array Value}
theorem l04Samples_c {b : Option Addr} {l c : Nat} {ns : List Nat} (S : SlR (rF .f32) h b l c ns) (hl : l ≤ 1048576) : CALL prg f_spec_l04Samples #[.slice b l c] (fun u h' => u = .string (mkB (spL ns)) ∧ Ext h h') h := by
  have hn := S.len
  have ha := S.a
  refine spec_l04Samples.call ?_
  refine loop (fun y hh => ∃ i : Nat, y = (b, l, c, mkB (spL (ns.take i)), (i : Int)) ∧ i ≤ l ∧ Ext h hh) (fun y => ((l : Int) - y.2.2.2.2).toNat) ⟨0, rfl, by omega, Ext.refl _⟩ ?_
  rintro y hh ⟨i, rfl, hi, X⟩
  refine brd (fun hc => ?_) fun hc => ⟨by rw [show ns.take i = ns by rw [show i = ns.length by omega, List.take_length]], X⟩
  refine (S.ext X).idn (by decide) (by omega) fun p Rp => Rp.oF1 fun w hw => goE X (l01Hex_c hw) fun h6 x6 => as_s ?_
  have b8 := bitL_len hw.lt
  have sl := spL_len (ha.take i)
  have tl : (ns.take i).length ≤ l := by rw [List.length_take]; omega
  rw [e32, mkB_app, mkB_app]
  refine ⟨by simp only [mk_size, List.length_append, List.length_cons, List.length_nil]; omega, by simp only [mk_size, List.length_append, List.length_cons, List.length_nil]; omega, ⟨i + 1, ?_, by omega, x6⟩, by rw [wrap64_succ (by omega)]; show _ < _; simp; omega⟩
  rw [wrap64_succ (by omega), spL_take (by omega)]
  rfl
theorem l04Line_c {q : Addr} {r : GRing} (R : RdP rRing h q r) (A : RingA r) : CALL prg f_spec_l04Line #[.pointer (some q)] (fun u h' => u = .string (mkB (r.line ++ [10])) ∧ Ext h h') h := by
  have B := A.b
  have hlen := B.len
  have a0 := B.a0
  have a1 := B.a1
  have d1 := dec_le (n := r.Samples.length) (k := 9) (by omega)
  have d2 := dec_le (n := r.At.toNat) (k := 9) (by omega)
  have sl := spL_len A.a
  refine spec_l04Line.call (R.oL1 fun b l c S => R.oI (R.oL1 fun b' l' c' S' => ?_))
  have e1 : r.Samples.length = l := S.len
  have e2 : r.Samples.length = l' := S'.len
  obtain ⟨k, hk⟩ : ∃ n : Nat, r.At = (n : Int) := ⟨r.At.toNat, by omega⟩
  rw [hk, Int.toNat_natCast] at d2
  rw [hk, e10, e32]
  refine (spec_Decimal_c l (by omega)).go fun h7 x7 => as_s (R.pin0 (by decide) x7 (R.pinO (by decide) x7 ?_))
  rw [decB_mk]
  rw [e1] at d1
  refine ⟨by simp only [mk_size, List.length_append, List.length_cons, List.length_nil]; omega, ?_⟩
  refine (spec_Decimal_c k (by omega)).go fun h8 x8 => as_s (R.pin0 (by decide) (x7.trans x8) ?_)
  rw [decB_mk]
  simp only [mkB_app]
  refine ⟨by simp only [mk_size, List.length_append, List.length_cons, List.length_nil]; omega, ?_⟩
  refine goE (x7.trans x8) (l04Samples_c (S'.ext (x7.trans x8)) (by omega)) fun h9 x9 => as_s ?_
  simp only [mkB_app]
  refine ⟨by simp only [mk_size, List.length_append, List.length_cons, List.length_nil]; omega, by simp only [mk_size, List.length_append, List.length_cons, List.length_nil]; omega, ?_, x9⟩
  congr 2
  unfold GRing.line ringL
  rw [spL_cons B.ne, e1, hk, Int.toNat_natCast]
  simp
theorem spec_FilterText_c {f : GFilter} (R0 : rFilter.rd h cs.toList f) (hok : f.ok = true) (A : FiltA f) : CALL prg f_spec_FilterText #[.agg cs] (fun u h' => u = .string (mkB f.line) ∧ Ext h h') h := by
  have B := A.b
  have k0 := B.k0
  have k1 := B.k1
  have c3 := B.c3
  have s2 := B.s2
  have d1 := dec_le (n := f.Kind.toNat) (k := 0) (by omega)
  refine spec_FilterText.call (alcR R0 fun g h1 x1 R => goX (l02Ok_c R) fun h2 x2 => as_b ?_)
  rw [hok]
  have R := R.ext x2
  obtain ⟨k, hk⟩ : ∃ n : Nat, f.Kind = (n : Int) := ⟨f.Kind.toNat, by omega⟩
  refine br_f rfl (R.oI2 ?_)
  rw [hk, Int.toNat_natCast] at d1
  rw [hk]
  refine (spec_Decimal_c k (by omega)).go fun h3 x3 => as_s ?_
  rw [decB_mk, show (⟨#[102, 105, 108, 116, 101, 114, 32]⟩ : ByteArray) = mkB (fwL ++ [32]) from rfl, mkB_app]
  have lf : fwL.length = 6 := rfl
  refine ⟨by simp only [mk_size, List.length_append, List.length_cons, List.length_nil]; omega, ?_⟩
  refine loop (fun y hh => ∃ i : Nat, y = (⟨g, 0, none⟩, mkB (fwL ++ [32] ++ Lib.decDigits k ++ spL (f.C.take i)), (i : Int)) ∧ i ≤ 3 ∧ Ext h2 hh) (fun y => ((3 : Int) - y.2.2).toNat) ⟨0, by simp [spL], by omega, x3⟩ ?_
  rintro y hh ⟨i, rfl, hi, X⟩
  have R := R.ext X
  have sl := spL_len (A.ca.take i)
  have tl : (f.C.take i).length ≤ 3 := by rw [List.length_take]; omega
  refine brd (fun hc => ?_) fun hc => ?_
  · refine idx (by omega) (by omega) (((R.foc foc_Filter_C).elem (i := i) (by omega)).oF1 fun w hw => goE X (l01Hex_c hw) fun h6 x6 => as_s ?_)
    have b8 := bitL_len hw.lt
    rw [e32, mkB_app, mkB_app]
    refine ⟨by simp only [mk_size, List.length_append, List.length_cons, List.length_nil]; omega, by simp only [mk_size, List.length_append, List.length_cons, List.length_nil]; omega, ⟨i + 1, ?_, by omega, x6⟩, by rw [wrap64_succ (by omega)]; show _ < _; simp; omega⟩
    rw [wrap64_succ (by omega), spL_take (by omega)]
    simp
  · obtain rfl : i = 3 := by omega
    rw [e32]
    simp only [mkB_app]
    refine ⟨by simp only [mk_size, List.length_append, List.length_cons, List.length_nil]; omega, ?_⟩
    refine idx (by omega) (by omega) (R.oF (off := 4) fun w hw => idx (by omega) (by omega) (R.oF (off := 5) fun v hv => goX (l01Hex_c hw) fun h6 x6' => as_s ?_))
    have b8 := bitL_len hw.lt
    have b9 := bitL_len hv.lt
    have x6 := X.trans x6'
    refine R.pinO (by decide) x6' ?_
    simp only [mkB_app]
    refine ⟨by simp only [mk_size, List.length_append, List.length_cons, List.length_nil]; omega, by simp only [mk_size, List.length_append, List.length_cons, List.length_nil]; omega, ?_⟩
    refine goE x6 (l01Hex_c hv) fun h7 x7 => as_s ?_
    simp only [mkB_app]
    refine ⟨by simp only [mk_size, List.length_append, List.length_cons, List.length_nil]; omega, ?_, x1.trans (x2.trans x7)⟩
    congr 2
    unfold GFilter.line filtL
    obtain ⟨s0, s1, hS⟩ := is2 s2
    have hC : f.C ≠ [] := fun e => by rw [e] at c3; simp at c3
    rw [show f.C.take 3 = f.C by rw [← c3, List.take_length], spL_cons hC, hk, Int.toNat_natCast, hS, smp_cons, spL_one]
    simp
theorem spec_StringText_c {x : GString} (R0 : rString.rd h cs.toList x) (hok : x.ok = true) : CALL prg f_spec_StringText #[.agg cs] (fun u h' => u = .string (mkB (linL x.lines)) ∧ Ext h h') h := by
  refine spec_StringText.call (alcR R0 fun g h1 x1 R => goX (l03Ok_c R) fun h2 x2 => as_b ?_)
  rw [hok]
  have R := R.ext x2
  have A := str_a R hok
  have fl := str_fl hok
  have s2 := A.t.b.size
  have s3 := A.d.b.size
  have hl := A.l.b.len
  have hne := A.l.b.ne
  have a0 := A.l.b.a0
  have a1 := A.l.b.a1
  have d1 := dec_le (n := x.Loop.Samples.length) (k := 9) (by omega)
  have d2 := dec_le (n := x.Loop.At.toNat) (k := 9) (by omega)
  have ls : strW.length = 6 := rfl
  refine br_f rfl (R.oF2 fun y hy => R.oL1 fun b l c S => R.oI2 ?_)
  have e1 : x.Loop.Samples.length = l := S.len
  obtain ⟨k, hk⟩ : ∃ n : Nat, x.Loop.At = (n : Int) := ⟨x.Loop.At.toNat, by omega⟩
  rw [hk, Int.toNat_natCast] at d2
  rw [e1] at d1 hl
  have b7 := bitL_len hy.lt
  have PN : ∀ (off n : Nat) {hh : Heap} {p : Prop}, off + n ≤ rString.sz → Ext h2 hh → p → PIN h2 ⟨g, off, none⟩ n hh p := fun off n {hh p} hj X H => by
    have q1 := R.pinO (off := off) (n := n) hj X H
    rwa [add_g] at q1
  rw [hk, e10, e32, show (⟨#[115, 116, 114, 105, 110, 103, 32]⟩ : ByteArray) = mkB (strW ++ [32]) from rfl]
  refine goX (l01Hex_c hy) fun h3 x3 => as_s (PN 1 1 (by decide) x3 (PN 0 1 (by decide) x3 ?_))
  simp only [mkB_app]
  refine ⟨by simp only [mk_size, List.length_append, List.length_cons, List.length_nil]; omega, by simp only [mk_size, List.length_append, List.length_cons, List.length_nil]; omega, ?_⟩
  refine (spec_Decimal_c l (by omega)).go fun h4 x4 => as_s (PN 1 1 (by decide) (x3.trans x4) ?_)
  rw [decB_mk]
  simp only [mkB_app]
  refine ⟨by simp only [mk_size, List.length_append, List.length_cons, List.length_nil]; omega, by simp only [mk_size, List.length_append, List.length_cons, List.length_nil]; omega, ?_⟩
  refine (spec_Decimal_c k (by omega)).go fun h5 x5 => as_s ?_
  rw [decB_mk]
  simp only [mkB_app]
  refine ⟨by simp only [mk_size, List.length_append, List.length_cons, List.length_nil]; omega, by simp only [mk_size, List.length_append, List.length_cons, List.length_nil]; omega, ?_⟩
  have X5 := x3.trans (x4.trans x5)
  have R5 := R.ext X5
  unfold spec_StringText.J4
  have PO : ∀ (off n : Nat) {hh : Heap} {p : Prop}, off + n ≤ rString.sz → Ext h5 hh → p → PIN h5 ((⟨g, 0, none⟩ : Addr).add off) n hh p := fun off n {hh p} hj X H => R5.pinO (off := off) (n := n) hj X H
  refine R5.lda foc_String_Tune rfl fun ct Rt => R5.lda foc_String_Damp rfl fun cd Rd => R5.oL1 fun b' l' c' S' => ?_
  have e2 : x.Loop.Samples.length = l' := S'.len
  obtain ⟨s0, sr, hS⟩ : ∃ s0 sr, x.Loop.Samples = s0 :: sr := by
    cases e : x.Loop.Samples with
    | nil => exact absurd e hne
    | cons a r => exact ⟨a, r, rfl⟩
  have hSl : x.Loop.Samples.length = sr.length + 1 := by rw [hS]; rfl
  refine S'.idx (i := 0) (by decide) (by omega) (by omega) fun p Rp => ?_
  have Rp : RdP (rF .f32) h5 p x.Loop.Samples[0]! := by have := Rp; simpa [add0] using this
  refine Rp.oF1 fun w hw => ?_
  rw [show x.Loop.Samples[0]! = s0 by rw [hS]; rfl] at hw
  have b9 := bitL_len hw.lt
  have PP : ∀ {hh : Heap} {q : Prop}, Ext h5 hh → q → PIN h5 p 1 hh q := fun X H => Rp.pin0 (by decide) X H
  refine goX (spec_FilterText_c Rt fl.1 A.t) fun h6 x6 => as_s (PP x6 (R5.pin0 (by decide) x6 (PO 8 6 (by decide) x6 ?_)))
  rw [e10]
  refine ⟨by simp only [mk_size, List.length_append, List.length_cons, List.length_nil]; omega, ?_⟩
  refine goX (spec_FilterText_c (rFilter.ext x6 Rd) fl.2 A.d) fun h7 x7 => as_s (PP (x6.trans x7) (R5.pin0 (by decide) (x6.trans x7) ?_))
  simp only [mkB_app]
  refine ⟨by simp only [mk_size, List.length_append, List.length_cons, List.length_nil]; omega, by simp only [mk_size, List.length_append, List.length_cons, List.length_nil]; omega, ?_⟩
  refine goX (l01Hex_c hw) fun h8 x8 => as_s ?_
  simp only [mkB_app]
  have ha := A.l.a
  have hal : A32 sr := fun a h => ha a (by rw [hS]; exact .tail _ h)
  have hsl : sr.length + 1 = l := by rw [← e1, hS]; rfl
  refine ⟨by simp only [mk_size, List.length_append, List.length_cons, List.length_nil]; omega, by simp only [mk_size, List.length_append, List.length_cons, List.length_nil]; omega, ?_⟩
  have X8 := X5.trans (x6.trans (x7.trans x8))
  generalize hW : strW ++ [32] ++ bitL x.Loss ++ [32] ++ Lib.decDigits l ++ [32] ++ Lib.decDigits k ++ [10] ++ (x.Tune.line ++ [10] ++ x.Damp.line ++ [10] ++ bitL s0) = W
  have lW : W.length ≤ 1000 := by
    rw [← hW]
    simp only [List.length_append, List.length_cons, List.length_nil]
    omega
  refine loop (fun y hh => ∃ i : Nat, y = (⟨g, 0, none⟩, mkB (W ++ spL (sr.take i)), ((i + 1 : Nat) : Int)) ∧ i + 1 ≤ l ∧ Ext h2 hh) (fun y => ((l : Int) - y.2.2).toNat) ⟨0, by simp [spL], by omega, X8⟩ ?_
  rintro y hh ⟨i, rfl, hi, X⟩
  have sl := spL_len (hal.take i)
  have tl : (sr.take i).length ≤ l := by rw [List.length_take]; omega
  refine (R.ext X).oL1 fun b8 l8 c8 S8 => ?_
  obtain rfl : x.Loop.Samples.length = l8 := S8.len
  refine brd (fun hc => ?_) fun hc => ?_
  · refine (R.ext X).oL1 fun b9' l9 c9 S9 => ?_
    obtain rfl : x.Loop.Samples.length = l9 := S9.len
    refine S9.idn (by decide) (by omega) fun p Rp => Rp.oF1 fun w hw => goE X (l01Hex_c hw) fun h9 x9 => as_s ?_
    have b9 := bitL_len hw.lt
    have es : x.Loop.Samples[i + 1]! = sr[i]! := by rw [hS]; rfl
    rw [e32]
    simp only [mkB_app]
    refine ⟨by simp only [mk_size, List.length_append, List.length_cons, List.length_nil]; omega, by simp only [mk_size, List.length_append, List.length_cons, List.length_nil]; omega, ⟨i + 1, ?_, by omega, x9⟩, by rw [wrap64_succ (by omega)]; show ((l : Int) - ((i + 1 + 1 : Nat) : Int)).toNat < ((l : Int) - ((i + 1 : Nat) : Int)).toNat; omega⟩
    rw [wrap64_succ (by omega), spL_take (by omega), es, List.append_assoc]
    rfl
  · have hi2 : i = sr.length := by omega
    rw [e10, mkB_app, show sr.take i = sr by rw [hi2, List.take_length]]
    rw [show sr.take i = sr by rw [hi2, List.take_length]] at sl
    refine ⟨by simp only [mk_size, List.length_append, List.length_cons, List.length_nil]; omega, ?_, x1.trans (x2.trans X)⟩
    congr 2
    rw [← hW]
    unfold GString.lines
    simp only [linL]
    rw [words_cons, words_cons, words_cons, words_one, hS, smp_cons, ← e1, hS, hk, Int.toNat_natCast]
    simp
end
end Go.Sx
