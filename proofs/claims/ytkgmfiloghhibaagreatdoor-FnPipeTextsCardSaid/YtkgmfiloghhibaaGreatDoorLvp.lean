/- Hexadecimal digits read: the library's ParseUint at base 16 and 32 bits, walked. -/
import Derived.Test.YtkgmfiloghhibaaGreatDoorTF
import Derived.Test.YtkgmfiloghhibaaGreatDoorTP
import Derived.Lib.ConvBytes
import Derived.Laws.Build
import Derived.Lib.Join
set_option linter.unusedVariables false
set_option linter.unusedSimpArgs false
namespace Go.Sx
open Go.Proofs Go.RowKit
set_option maxRecDepth 100000
set_option maxHeartbeats 1000000

/-- A digit, as the library reads it. -/
def lowB (b : UInt8) : Nat := b.toNat ||| 32
def xdig (b : UInt8) : Option Nat :=
  if 48 ≤ b.toNat ∧ b.toNat ≤ 57 then some (b.toNat - 48)
  else if 97 ≤ lowB b ∧ lowB b ≤ 102 then some (lowB b - 87) else none
def xdigs (acc : Nat) : List UInt8 → Option Nat
  | [] => some acc
  | b :: l => match xdig b with
    | none => none
    | some d => if acc * 16 + d < 4294967296 then xdigs (acc * 16 + d) l else none
section
variable {h : Heap}
theorem mkI {t : Nat} {x : Value} {K : Value → Heap → Prop} (hc : prg.concrete t = true) (H : K (.iface t x) h) : SEMV prg (Instr.makeInterface t x) K h :=
  semv fun w hw => ⟨.iface t x, w, run_makeInterface w t x hc, Same.refl _, by rw [hw]; exact H⟩
theorem str_bytes {s : ByteArray} {K : Value → Heap → Prop} (H : ∀ g c h', Ext h h' → Cells h' (some ⟨g, 0, none⟩) (iv .u8 (s.data.toList.map fun b => (b.toNat : Int))) → K (.slice (some ⟨g, 0, none⟩) s.size c) h') : SEMV prg (convert T_string T_sl_uint8 (.string s)) K h := by
  refine semv fun w hw => ⟨_, Lib.bytesWorld w T_uint8 s, Lib.run_convert_string_bytes w _ _ _ s U_string U_sl_uint8 U_uint8, below_same (Lib.bytesWorld_below w T_uint8 s), ?_⟩
  subst hw
  refine H _ _ _ (below_ext (Lib.bytesWorld_below w T_uint8 s)) fun j hj => ⟨_, rfl, ?_⟩
  rw [iv_len, List.length_map] at hj
  have hs := Lib.size_eq s
  rw [add_none, Nat.zero_add]
  have := Lib.bytesWorld_cell w T_uint8 s j (by omega)
  rw [cell_eq] at this
  rw [this, iv_get (by rw [List.length_map]; exact hj), List.getElem_map, List.getD_eq_getElem?_getD, List.getElem?_eq_getElem hj]
  rfl
theorem lower_c (b : UInt8) {K : Value → Heap → Prop} (H : K (.int .u8 (lowB b : Int)) h) : CALL prg f_internal_strconv_lower #[.int .u8 (b.toNat : Int)] K h := by
  refine internal_strconv_lower.call ?_
  unfold internal_strconv_lower.S
  have e : bitI .or .u8 (b.toNat : Int) 32 = (lowB b : Int) := ?_
  · rw [e]; exact H
  have : ∀ k : Fin 256, bitI .or .u8 (k.val : Int) 32 = ((k.val ||| 32 : Nat) : Int) := by decide +kernel
  exact this ⟨b.toNat, b.toNat_lt⟩
theorem low_lt (b : UInt8) : lowB b < 256 := by
  unfold lowB
  exact Nat.or_lt_two_pow (n := 8) b.toNat_lt (by decide)
/-- What reading digits gives. -/
def PU (l : List UInt8) (h : Heap) (u : Value) (h' : Heap) : Prop := ∃ (n : Int) (q : Value), u = .tuple ⟨[.int .u64 n, q]⟩ ∧ ((q = .nilIface ∧ l ≠ [] ∧ ∃ m : Nat, n = (m : Int) ∧ m < 4294967296 ∧ xdigs 0 l = some m) ∨ ((l = [] ∨ xdigs 0 l = none) ∧ ∃ e : Int, (e = 1 ∨ e = 2) ∧ q = .iface T_strconv_Error (.int .i64 e))) ∧ Ext h h'
theorem ParseUint16_c {s : ByteArray} (hs : s.size ≤ 1048576) : CALL prg f_internal_strconv_ParseUint #[.string s, .int .i64 16, .int .i64 32] (fun u h' => PU s.data.toList h u h') h := by
  have hl := Lib.size_eq s
  have conc : prg.concrete T_strconv_Error = true := by kernel_rfl
  refine internal_strconv_ParseUint.call ?_
  unfold internal_strconv_ParseUint.S
  rw [str_eq]
  refine brd (fun e => mkI conc ?_) fun e => br_t rfl ?_
  · exact ⟨_, _, rfl, .inr ⟨.inl (by rw [e]), 2, .inr rfl, rfl⟩, Ext.refl _⟩
  have hne : s.data.toList ≠ [] := fun k => e (by rw [← mkB_list s, k])
  unfold internal_strconv_ParseUint.J7
  refine br_t rfl ?_
  unfold internal_strconv_ParseUint.J21
  refine br_f rfl (br_f rfl (br_f rfl ?_))
  unfold internal_strconv_ParseUint.J25
  refine br_f rfl (br_t rfl ?_)
  unfold internal_strconv_ParseUint.J32
  refine nn (by decide) (str_bytes fun g c h1 x1 C => as_l ?_)
  rw [show IntKind.u64.wrap ((shlI .u64 (1 : Int) (IntKind.u64.wrap 32)) - 1) = 4294967295 by decide]
  have B0 : ((16 : Int) == 0) = false := rfl
  rw [B0]
  refine loop (fun y hh => ∃ i n : Nat, y = (16, false, s, 1152921504606846976, 4294967295, false, (n : Int), some ⟨g, 0, none⟩, s.size, c, (s.size : Int), (i : Int)) ∧ i ≤ s.size ∧ n < 4294967296 ∧ xdigs n (s.data.toList.drop i) = xdigs 0 s.data.toList ∧ hh = h1) (fun y => (s.size - y.2.2.2.2.2.2.2.2.2.2.2).toNat)
    ⟨0, 0, rfl, by omega, by omega, by simp, rfl⟩ ?_
  rintro y hh ⟨i, n, rfl, hi, hn, hd, rfl⟩
  have bad : ∀ (e : Int), (e = 1 ∨ e = 2) → ∀ n : Int, xdigs 0 s.data.toList = none → PU s.data.toList h (.tuple ⟨[.int .u64 n, .iface T_strconv_Error (.int .i64 e)]⟩) hh := fun e he n hx => ⟨_, _, rfl, .inr ⟨.inr hx, e, he, rfl⟩, x1⟩
  refine brd (fun hc => ?_) fun hc => ?_
  · have hj : i < s.data.toList.length := by omega
    have hdr : s.data.toList.drop i = s.data.toList[i] :: s.data.toList.drop (i + 1) := List.drop_eq_getElem_cons hj
    rw [hdr, xdigs] at hd
    refine idxs (by omega) (by omega) ?_
    rw [Int.toNat_natCast, Nat.mul_one]
    refine o_i (C.get (iv_get (by rw [List.length_map]; exact hj))) ?_
    rw [List.getElem_map]
    generalize s.data.toList[i] = b at hd ⊢
    have hb := b.toNat_lt
    have J46 : ∀ {hh' : Heap} {d : Nat}, hh' = hh → d < 256 → (d < 16 → xdig b = some d) → (¬ d < 16 → xdig b = none) →
        internal_strconv_ParseUint.J46 (fun x' h' => (∃ i n : Nat, x' = (16, false, s, 1152921504606846976, 4294967295, false, (n : Int), some ⟨g, 0, none⟩, s.size, c, (s.size : Int), (i : Int)) ∧ i ≤ s.size ∧ n < 4294967296 ∧ xdigs n (s.data.toList.drop i) = xdigs 0 s.data.toList ∧ h' = hh) ∧ (s.size - x'.2.2.2.2.2.2.2.2.2.2.2).toNat < (s.size - (i : Int)).toNat) (fun u h' => PU s.data.toList h u h') 16 false s 1152921504606846976 4294967295 false (n : Int) (d : Int) (some ⟨g, 0, none⟩) s.size c (s.size : Int) (i : Int) hh' := fun {hh' d} he hd2 k1 k2 => by
      subst he
      unfold internal_strconv_ParseUint.J46
      rw [show IntKind.u8.wrap (16 : Int) = 16 by decide, show IntKind.u64.wrap (16 : Int) = 16 by decide]
      have wu : ∀ z : Nat, z < 18446744073709551616 → IntKind.u64.wrap (z : Int) = (z : Int) := fun z hz => by
        unfold IntKind.wrap
        show (z : Int) % 2 ^ 64 = _
        omega
      refine brd (fun h16 => mkI conc (bad 2 (.inr rfl) _ ?_)) fun h16 => brd (fun hcut => by omega) fun hcut => ?_
      · rw [k2 (by omega)] at hd; exact hd.symm
      rw [k1 (by omega)] at hd
      rw [wu d (by omega), show (n : Int) * 16 = ((n * 16 : Nat) : Int) by omega, wu (n * 16) (by omega), show ((n * 16 : Nat) : Int) + (d : Int) = ((n * 16 + d : Nat) : Int) by omega, wu (n * 16 + d) (by omega)]
      refine brd (fun hlt => by omega) fun hlt => brd (fun hmx => mkI conc (bad 1 (.inl rfl) _ ?_)) fun hmx => ?_
      · simp only at hd
        rw [if_neg (by omega)] at hd
        exact hd.symm
      · simp only at hd
        rw [if_pos (by omega)] at hd
        rw [wrap64_succ (by omega)]
        exact ⟨⟨i + 1, n * 16 + d, rfl, by omega, by omega, hd, rfl⟩, by show _ < _; simp; omega⟩
    have J43 : ∀ t : Bool, t = decide (48 ≤ b.toNat ∧ b.toNat ≤ 57) →
        internal_strconv_ParseUint.J43 (fun x' h' => (∃ i n : Nat, x' = (16, false, s, 1152921504606846976, 4294967295, false, (n : Int), some ⟨g, 0, none⟩, s.size, c, (s.size : Int), (i : Int)) ∧ i ≤ s.size ∧ n < 4294967296 ∧ xdigs n (s.data.toList.drop i) = xdigs 0 s.data.toList ∧ h' = hh) ∧ (s.size - x'.2.2.2.2.2.2.2.2.2.2.2).toNat < (s.size - (i : Int)).toNat) (fun u h' => PU s.data.toList h u h') 16 false s 1152921504606846976 4294967295 false (n : Int) (b.toNat : Int) (some ⟨g, 0, none⟩) s.size c (s.size : Int) (i : Int) t hh := fun t ht => by
      unfold internal_strconv_ParseUint.J43
      have w8 : ∀ z : Nat, z < 256 → IntKind.u8.wrap (z : Int) = (z : Int) := fun z hz => by
        unfold IntKind.wrap
        show (z : Int) % 2 ^ 8 = _
        omega
      subst ht
      have J45 : ¬ (48 ≤ b.toNat ∧ b.toNat ≤ 57) → ∀ t : Bool, t = decide (97 ≤ lowB b ∧ lowB b ≤ 122) →
          internal_strconv_ParseUint.J45 (fun x' h' => (∃ i n : Nat, x' = (16, false, s, 1152921504606846976, 4294967295, false, (n : Int), some ⟨g, 0, none⟩, s.size, c, (s.size : Int), (i : Int)) ∧ i ≤ s.size ∧ n < 4294967296 ∧ xdigs n (s.data.toList.drop i) = xdigs 0 s.data.toList ∧ h' = hh) ∧ (s.size - x'.2.2.2.2.2.2.2.2.2.2.2).toNat < (s.size - (i : Int)).toNat) (fun u h' => PU s.data.toList h u h') 16 false s 1152921504606846976 4294967295 false (n : Int) (b.toNat : Int) (some ⟨g, 0, none⟩) s.size c (s.size : Int) (i : Int) t hh := fun hx t ht => by
        unfold internal_strconv_ParseUint.J45
        subst ht
        have hlw := low_lt b
        refine brd (fun hd1 => lower_c b (as_i ?_)) fun hd1 => mkI conc (bad 2 (.inr rfl) _ ?_)
        · rw [show (lowB b : Int) - 97 = ((lowB b - 97 : Nat) : Int) by omega, w8 _ (by omega), show ((lowB b - 97 : Nat) : Int) + 10 = ((lowB b - 87 : Nat) : Int) by omega, w8 _ (by omega)]
          refine J46 rfl (by omega) (fun h => ?_) (fun h => ?_)
          · unfold xdig; rw [if_neg hx, if_pos (by omega)]
          · unfold xdig; rw [if_neg hx, if_neg (by omega)]
        · have : xdig b = none := by unfold xdig; rw [if_neg hx, if_neg (by omega)]
          rw [this] at hd; exact hd.symm
      refine brd (fun hd1 => ?_) fun hd1 => lower_c b (as_i (brd (fun h97 => lower_c b (as_i (J45 hd1 _ ?_))) fun h97 => J45 hd1 _ ?_))
      · rw [show (b.toNat : Int) - 48 = ((b.toNat - 48 : Nat) : Int) by omega, w8 _ (by omega)]
        exact J46 rfl (by omega) (fun _ => by unfold xdig; rw [if_pos hd1]) (fun h => by omega)
      · rw [decide_eq_decide]; omega
      · symm; rw [decide_eq_false_iff_not]; omega
    have h95 : ∀ t : Bool, t = false → internal_strconv_ParseUint.J41 (fun x' h' => (∃ i n : Nat, x' = (16, false, s, 1152921504606846976, 4294967295, false, (n : Int), some ⟨g, 0, none⟩, s.size, c, (s.size : Int), (i : Int)) ∧ i ≤ s.size ∧ n < 4294967296 ∧ xdigs n (s.data.toList.drop i) = xdigs 0 s.data.toList ∧ h' = hh) ∧ (s.size - x'.2.2.2.2.2.2.2.2.2.2.2).toNat < (s.size - (i : Int)).toNat) (fun u h' => PU s.data.toList h u h') 16 false s 1152921504606846976 4294967295 false (n : Int) (b.toNat : Int) (some ⟨g, 0, none⟩) s.size c (s.size : Int) (i : Int) t hh := fun t ht => by
      subst ht
      unfold internal_strconv_ParseUint.J41
      refine br_f rfl (brd (fun h48 => J43 _ ?_) fun h48 => J43 _ ?_)
      · rw [decide_eq_decide]; omega
      · symm; rw [decide_eq_false_iff_not]; omega
    exact br (fun _ => h95 _ rfl) fun _ => h95 _ rfl
  · obtain rfl : i = s.size := by omega
    rw [hl, List.drop_length] at hd
    exact br_f rfl ⟨_, _, rfl, .inl ⟨rfl, hne, n, rfl, hn, hd.symm⟩, x1⟩
end
end Go.Sx
/- The text of a sample's bits: eight hexadecimal digits. What is read from it is what was told. -/
set_option linter.unusedVariables false
set_option linter.unusedSimpArgs false
namespace Go.Sx
open Go.Proofs Go.RowKit
set_option maxRecDepth 100000
set_option maxHeartbeats 1000000

theorem xdig_hexD {k : Nat} (h : k < 16) : xdig (hexD k) = some k := by
  have : ∀ k : Fin 16, xdig (hexD k.val) = some k.val := by decide +kernel
  exact this ⟨k, h⟩
theorem xdigs_append (a : Nat) : ∀ (l m : List UInt8) (a : Nat), xdigs a (l ++ m) = (xdigs a l).bind fun b => xdigs b m
  | [], m, a => rfl
  | b :: l, m, a => by
    simp only [List.cons_append, xdigs]
    cases xdig b with
    | none => rfl
    | some d =>
      simp only []
      by_cases h : a * 16 + d < 4294967296
      · rw [if_pos h, if_pos h]; exact xdigs_append a l m _
      · rw [if_neg h, if_neg h]; rfl
theorem xdigs_one {a d : Nat} (hd : d < 16) (h : a * 16 + d < 4294967296) : xdigs a [hexD d] = some (a * 16 + d) := by
  simp only [xdigs, xdig_hexD hd, if_pos h]
theorem xdigs_hexL : ∀ (k u : Nat), u < 16 ^ (k + 1) → u < 4294967296 → xdigs 0 (hexL u) = some u
  | 0, u, h, _ => by
    have : u < 16 := by simpa using h
    rw [hexL_small this, xdigs_one this (by omega)]
    simp
  | k + 1, u, h, hu => by
    by_cases c : u < 16
    · rw [hexL_small c, xdigs_one c (by omega)]
      simp
    · rw [hexL_step c, xdigs_append 0, xdigs_hexL k (u / 16) (by rw [Nat.pow_succ] at h; omega) (by omega)]
      show xdigs (u / 16) [hexD (u % 16)] = some u
      rw [xdigs_one (by omega) (by omega)]
      congr 1
      omega
theorem xdigs_zeros (l : List UInt8) : ∀ k : Nat, xdigs 0 (List.replicate k 48 ++ l) = xdigs 0 l
  | 0 => rfl
  | k + 1 => by
    rw [List.replicate_succ, List.cons_append]
    have e : xdig 48 = some 0 := by decide
    simp only [xdigs, e, Nat.zero_mul, Nat.add_zero]
    rw [if_pos (by decide)]
    exact xdigs_zeros l k
/-- The eight digits of a sample's bits. -/
def bitL (n : Nat) : List UInt8 := List.replicate (8 - (hexL n).length) 48 ++ hexL n
theorem bitL_len {n : Nat} (h : n < 4294967296) : (bitL n).length = 8 := by
  have := hexL_le 7 n (by simpa using h)
  unfold bitL
  rw [List.length_append, List.length_replicate]
  omega
theorem bitL_read {n : Nat} (h : n < 4294967296) : xdigs 0 (bitL n) = some n := by
  unfold bitL
  rw [xdigs_zeros, xdigs_hexL 7 n (by simpa using h) h]
/-- Every byte of it is a digit or one of the letters a to f: never a blank, a new line or a bar. -/
theorem hexD_ne {k : Nat} (h : k < 16) : 48 ≤ (hexD k).toNat ∧ (hexD k).toNat ≤ 102 ∧ ((hexD k).toNat ≤ 57 ∨ 97 ≤ (hexD k).toNat) := by
  have : ∀ k : Fin 16, 48 ≤ (hexD k.val).toNat ∧ (hexD k.val).toNat ≤ 102 ∧ ((hexD k.val).toNat ≤ 57 ∨ 97 ≤ (hexD k.val).toNat) := by decide +kernel
  exact this ⟨k, h⟩
theorem hexL_mem : ∀ (k u : Nat), u < 16 ^ (k + 1) → ∀ b ∈ hexL u, 48 ≤ b.toNat ∧ b.toNat ≤ 102 ∧ (b.toNat ≤ 57 ∨ 97 ≤ b.toNat)
  | 0, u, h, b, hb => by
    have : u < 16 := by simpa using h
    rw [hexL_small this, List.mem_singleton] at hb
    rw [hb]; exact hexD_ne this
  | k + 1, u, h, b, hb => by
    by_cases c : u < 16
    · rw [hexL_small c, List.mem_singleton] at hb
      rw [hb]; exact hexD_ne c
    · rw [hexL_step c, List.mem_append, List.mem_singleton] at hb
      rcases hb with hb | hb
      · exact hexL_mem k (u / 16) (by rw [Nat.pow_succ] at h; omega) b hb
      · rw [hb]; exact hexD_ne (by omega)
theorem bitL_mem {n : Nat} (h : n < 4294967296) : ∀ b ∈ bitL n, 48 ≤ b.toNat ∧ b.toNat ≤ 102 ∧ (b.toNat ≤ 57 ∨ 97 ≤ b.toNat) := by
  intro b hb
  unfold bitL at hb
  rw [List.mem_append] at hb
  rcases hb with hb | hb
  · rw [(List.mem_replicate.mp hb).2]; decide
  · exact hexL_mem 7 n (by simpa using h) b hb
end Go.Sx
/- Texts of samples, rings and filters as lists of bytes, and what cutting and reading them gives. -/
set_option linter.unusedVariables false
set_option linter.unusedSimpArgs false
namespace Go.Sx
open Go.Proofs Go.RowKit
set_option maxRecDepth 100000
set_option maxHeartbeats 1000000

theorem join_two (x y : List UInt8) (r : List (List UInt8)) (c : UInt8) : Lib.join (x :: y :: r) [c] = x ++ c :: Lib.join (y :: r) [c] := by
  rw [Lib.join_cons, Lib.join_cons]
  simp [Lib.joinTail]
theorem cut_join {c : UInt8} : ∀ (x : List UInt8) (r : List (List UInt8)), (∀ y ∈ x :: r, ∀ b ∈ y, b ≠ c) → cutL c (Lib.join (x :: r) [c]) = x :: r
  | x, [], h => by rw [Lib.join_one]; exact cut_none (h x (List.mem_cons_self ..))
  | x, y :: r, h => by
    rw [join_two, cut_pre (h x (List.mem_cons_self ..)), cut_join y r fun z hz => h z (List.mem_cons_of_mem _ hz)]
theorem cut_join_app {c : UInt8} (t : List UInt8) : ∀ (x : List UInt8) (r : List (List UInt8)), (∀ y ∈ x :: r, ∀ b ∈ y, b ≠ c) → cutL c (Lib.join (x :: r) [c] ++ c :: t) = (x :: r) ++ cutL c t
  | x, [], h => by rw [Lib.join_one, cut_pre (h x (List.mem_cons_self ..))]; rfl
  | x, y :: r, h => by
    rw [join_two, List.append_assoc, List.cons_append, cut_pre (h x (List.mem_cons_self ..)), cut_join_app t y r fun z hz => h z (List.mem_cons_of_mem _ hz)]
    rfl
theorem join_mem {c b : UInt8} : ∀ (xs : List (List UInt8)), b ∈ Lib.join xs [c] → b = c ∨ ∃ x ∈ xs, b ∈ x
  | [], h => by rw [Lib.join_nil] at h; simp at h
  | [x], h => by rw [Lib.join_one] at h; exact .inr ⟨x, List.mem_cons_self .., h⟩
  | x :: y :: r, h => by
    rw [join_two, List.mem_append, List.mem_cons] at h
    rcases h with h | h | h
    · exact .inr ⟨x, List.mem_cons_self .., h⟩
    · exact .inl h
    · rcases join_mem (y :: r) h with k | ⟨z, hz, k⟩
      · exact .inl k
      · exact .inr ⟨z, List.mem_cons_of_mem _ hz, k⟩
/-- Bits of single precision. -/
def B32 (ns : List Nat) : Prop := ∀ n ∈ ns, n < 4294967296
/-- Samples, told. -/
def smpL (ns : List Nat) : List UInt8 := Lib.join (ns.map bitL) [32]
theorem bitL_ne {n : Nat} (h : n < 4294967296) {c : UInt8} (hc : c.toNat < 48) : ∀ b ∈ bitL n, b ≠ c := by
  intro b hb e
  have := bitL_mem h b hb
  subst e
  omega
theorem bits_ne {ns : List Nat} (h : B32 ns) {c : UInt8} (hc : c.toNat < 48) : ∀ y ∈ ns.map bitL, ∀ b ∈ y, b ≠ c := by
  intro y hy
  obtain ⟨n, hn, rfl⟩ := List.mem_map.mp hy
  exact bitL_ne (h n hn) hc
theorem smp_cut {ns : List Nat} (h : B32 ns) (hn : ns ≠ []) : cutL 32 (smpL ns) = ns.map bitL := by
  cases ns with
  | nil => exact absurd rfl hn
  | cons n r => exact cut_join (bitL n) (r.map bitL) (bits_ne (ns := n :: r) h (by decide))
theorem smp_cut_app {ns : List Nat} (h : B32 ns) (hn : ns ≠ []) (t : List UInt8) : cutL 32 (smpL ns ++ 32 :: t) = ns.map bitL ++ cutL 32 t := by
  cases ns with
  | nil => exact absurd rfl hn
  | cons n r => exact cut_join_app t (bitL n) (r.map bitL) (bits_ne (ns := n :: r) h (by decide))
theorem smp_mem {ns : List Nat} (h : B32 ns) : ∀ b ∈ smpL ns, b ≠ 10 := by
  intro b hb e
  rcases join_mem _ hb with k | ⟨x, hx, k⟩
  · rw [e] at k; exact absurd k (by decide)
  · exact bits_ne h (c := 10) (by decide) x hx b k e
theorem smp_len : ∀ {ns : List Nat}, B32 ns → ns ≠ [] → (smpL ns).length + 1 = 9 * ns.length
  | [], h, hn => absurd rfl hn
  | [n], h, _ => by
    show (Lib.join [bitL n] [32]).length + 1 = _
    rw [Lib.join_one, bitL_len (h n (List.mem_cons_self ..))]
    rfl
  | n :: m :: r, h, _ => by
    have ih := smp_len (ns := m :: r) (fun k hk => h k (List.mem_cons_of_mem _ hk)) (by simp)
    show (Lib.join (bitL n :: bitL m :: r.map bitL) [32]).length + 1 = _
    rw [join_two, List.length_append, List.length_cons, bitL_len (h n (List.mem_cons_self ..))]
    have e : (Lib.join (bitL m :: r.map bitL) [32]).length + 1 = 9 * (m :: r).length := ih
    simp only [List.length_cons] at e ⊢
    omega
theorem smp_le {ns : List Nat} (h : B32 ns) : (smpL ns).length ≤ 9 * ns.length := by
  cases ns with
  | nil => show (Lib.join [] [32]).length ≤ _; rw [Lib.join_nil]; simp
  | cons n r => have := smp_len h (by simp); omega
/-- A ring, told in one line. -/
def ringL (at_ : Nat) (ns : List Nat) : List UInt8 := Lib.decDigits ns.length ++ 32 :: (Lib.decDigits at_ ++ 32 :: smpL ns)
theorem ring_cut {a : Nat} {ns : List Nat} (h : B32 ns) (hn : ns ≠ []) : cutL 32 (ringL a ns) = Lib.decDigits ns.length :: Lib.decDigits a :: ns.map bitL := by
  unfold ringL
  rw [cut_pre (dec_no _ (.inl (by decide))), cut_pre (dec_no _ (.inl (by decide))), smp_cut h hn]
theorem ring_mem {a : Nat} {ns : List Nat} (h : B32 ns) : ∀ b ∈ ringL a ns, b ≠ 10 := by
  intro b hb
  unfold ringL at hb
  simp only [List.mem_append, List.mem_cons] at hb
  rcases hb with hb | rfl | hb | rfl | hb
  · exact dec_no _ (c := 10) (.inl (by decide)) b hb
  · decide
  · exact dec_no _ (c := 10) (.inl (by decide)) b hb
  · decide
  · exact smp_mem h b hb
/-- A filter, told in one line. -/
def fwL : List UInt8 := [102, 105, 108, 116, 101, 114]
def filtL (k : Nat) (cs ss : List Nat) : List UInt8 := fwL ++ 32 :: (Lib.decDigits k ++ 32 :: (smpL cs ++ 32 :: smpL ss))
theorem filt_cut {k : Nat} {cs ss : List Nat} (hc : B32 cs) (hs : B32 ss) (nc : cs ≠ []) (ns : ss ≠ []) : cutL 32 (filtL k cs ss) = fwL :: Lib.decDigits k :: (cs ++ ss).map bitL := by
  unfold filtL
  rw [cut_pre (by decide), cut_pre (dec_no _ (.inl (by decide))), smp_cut_app hc nc, smp_cut hs ns, List.map_append]
theorem filt_mem {k : Nat} {cs ss : List Nat} (hc : B32 cs) (hs : B32 ss) : ∀ b ∈ filtL k cs ss, b ≠ 10 := by
  intro b hb
  unfold filtL at hb
  simp only [List.mem_append, List.mem_cons] at hb
  rcases hb with hb | rfl | hb | rfl | hb | rfl | hb
  · have : ∀ b ∈ fwL, b ≠ 10 := by decide
    exact this b hb
  · decide
  · exact dec_no _ (c := 10) (.inl (by decide)) b hb
  · decide
  · exact smp_mem hc b hb
  · decide
  · exact smp_mem hs b hb
/-- Lines, each of which ends with a new line. -/
def linL : List (List UInt8) → List UInt8
  | [] => []
  | l :: r => l ++ 10 :: linL r
theorem lin_cut : ∀ {ls : List (List UInt8)}, (∀ l ∈ ls, ∀ b ∈ l, b ≠ 10) → cutL 10 (linL ls) = ls ++ [[]]
  | [], _ => rfl
  | l :: r, h => by
    rw [linL, cut_pre (h l (List.mem_cons_self ..)), lin_cut fun k hk => h k (List.mem_cons_of_mem _ hk)]
    rfl
theorem lin_app : ∀ (a b : List (List UInt8)), linL (a ++ b) = linL a ++ linL b
  | [], b => rfl
  | l :: r, b => by rw [List.cons_append, linL, linL, lin_app r b, List.append_assoc, List.cons_append]
end Go.Sx
