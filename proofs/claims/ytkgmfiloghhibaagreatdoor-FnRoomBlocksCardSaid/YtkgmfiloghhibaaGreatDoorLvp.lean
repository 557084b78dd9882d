/- Hexadecimal digits read: the library's ParseUint at base 16 and 32 bits, walked. -/
import Derived.Test.YtkgmfiloghhibaaGreatDoorTF
import Derived.Test.YtkgmfiloghhibaaGreatDoorTP
import Derived.Lib.ConvBytes
import Derived.Laws.Build
import Derived.Lib.Join
import Derived.Test.YtkgmfiloghhibaaGreatDoorLx1
import Derived.Test.YtkgmfiloghhibaaGreatDoorK0
import Derived.Test.YtkgmfiloghhibaaGreatDoorTab
import Derived.Test.YtkgmfiloghhibaaGreatDoorLv2
import Derived.Test.YtkgmfiloghhibaaGreatDoorLp4
import Derived.Test.YtkgmfiloghhibaaGreatDoorLk4
set_option linter.unusedVariables false
set_option linter.unusedSimpArgs false
namespace Go.Sx
open Go.Proofs Go.RowKit
set_option maxRecDepth 100000
set_option maxHeartbeats 1000000

/-- A digit, as the library reads it. -/
def lowB (b : UInt8) : Nat := b.toNat ||| 32
def xdig (b : UInt8) : Option Nat :=
  if 48 ≤ b.toNat ∧ b.toNat ≤ 57 then some (b.toNat - 48)
  else if 97 ≤ lowB b ∧ lowB b ≤ 102 then some (lowB b - 87) else none
def xdigs (acc : Nat) : List UInt8 → Option Nat
  | [] => some acc
  | b :: l => match xdig b with
    | none => none
    | some d => if acc * 16 + d < 4294967296 then xdigs (acc * 16 + d) l else none
section
variable {h : Heap}
theorem mkI {t : Nat} {x : Value} {K : Value → Heap → Prop} (hc : prg.concrete t = true) (H : K (.iface t x) h) : SEMV prg (Instr.makeInterface t x) K h :=
  semv fun w hw => ⟨.iface t x, w, run_makeInterface w t x hc, Same.refl _, by rw [hw]; exact H⟩
theorem str_bytes {s : ByteArray} {K : Value → Heap → Prop} (H : ∀ g c h', Ext h h' → Cells h' (some ⟨g, 0, none⟩) (iv .u8 (s.data.toList.map fun b => (b.toNat : Int))) → K (.slice (some ⟨g, 0, none⟩) s.size c) h') : SEMV prg (convert T_string T_sl_uint8 (.string s)) K h := by
  refine semv fun w hw => ⟨_, Lib.bytesWorld w T_uint8 s, Lib.run_convert_string_bytes w _ _ _ s U_string U_sl_uint8 U_uint8, below_same (Lib.bytesWorld_below w T_uint8 s), ?_⟩
  subst hw
  refine H _ _ _ (below_ext (Lib.bytesWorld_below w T_uint8 s)) fun j hj => ⟨_, rfl, ?_⟩
  rw [iv_len, List.length_map] at hj
  have hs := Lib.size_eq s
  rw [add_none, Nat.zero_add]
  have := Lib.bytesWorld_cell w T_uint8 s j (by omega)
  rw [cell_eq] at this
  rw [this, iv_get (by rw [List.length_map]; exact hj), List.getElem_map, List.getD_eq_getElem?_getD, List.getElem?_eq_getElem hj]
  rfl
theorem lower_c (b : UInt8) {K : Value → Heap → Prop} (H : K (.int .u8 (lowB b : Int)) h) : CALL prg f_internal_strconv_lower #[.int .u8 (b.toNat : Int)] K h := by
  refine internal_strconv_lower.call ?_
  unfold internal_strconv_lower.S
  have e : bitI .or .u8 (b.toNat : Int) 32 = (lowB b : Int) := ?_
  · rw [e]; exact H
  have : ∀ k : Fin 256, bitI .or .u8 (k.val : Int) 32 = ((k.val ||| 32 : Nat) : Int) := by decide +kernel
  exact this ⟨b.toNat, b.toNat_lt⟩
theorem low_lt (b : UInt8) : lowB b < 256 := by
  unfold lowB
  exact Nat.or_lt_two_pow (n := 8) b.toNat_lt (by decide)
/-- What reading digits gives. -/
def PU (l : List UInt8) (h : Heap) (u : Value) (h' : Heap) : Prop := ∃ (n : Int) (q : Value), u = .tuple ⟨[.int .u64 n, q]⟩ ∧ ((q = .nilIface ∧ l ≠ [] ∧ ∃ m : Nat, n = (m : Int) ∧ m < 4294967296 ∧ xdigs 0 l = some m) ∨ ((l = [] ∨ xdigs 0 l = none) ∧ ∃ e : Int, (e = 1 ∨ e = 2) ∧ q = .iface T_strconv_Error (.int .i64 e))) ∧ Ext h h'
theorem ParseUint16_c {s : ByteArray} (hs : s.size ≤ 1048576) : CALL prg f_internal_strconv_ParseUint #[.string s, .int .i64 16, .int .i64 32] (fun u h' => PU s.data.toList h u h') h := by
  have hl := Lib.size_eq s
  have conc : prg.concrete T_strconv_Error = true := by kernel_rfl
  refine internal_strconv_ParseUint.call ?_
  unfold internal_strconv_ParseUint.S
  rw [str_eq]
  refine brd (fun e => mkI conc ?_) fun e => br_t rfl ?_
  · exact ⟨_, _, rfl, .inr ⟨.inl (by rw [e]), 2, .inr rfl, rfl⟩, Ext.refl _⟩
  have hne : s.data.toList ≠ [] := fun k => e (by rw [← mkB_list s, k])
  unfold internal_strconv_ParseUint.J7
  refine br_t rfl ?_
  unfold internal_strconv_ParseUint.J21
  refine br_f rfl (br_f rfl (br_f rfl ?_))
  unfold internal_strconv_ParseUint.J25
  refine br_f rfl (br_t rfl ?_)
  unfold internal_strconv_ParseUint.J32
  refine nn (by decide) (str_bytes fun g c h1 x1 C => as_l ?_)
  rw [show IntKind.u64.wrap ((shlI .u64 (1 : Int) (IntKind.u64.wrap 32)) - 1) = 4294967295 by decide]
  have B0 : ((16 : Int) == 0) = false := rfl
  rw [B0]
  refine loop (fun y hh => ∃ i n : Nat, y = (16, false, s, 1152921504606846976, 4294967295, false, (n : Int), some ⟨g, 0, none⟩, s.size, c, (s.size : Int), (i : Int)) ∧ i ≤ s.size ∧ n < 4294967296 ∧ xdigs n (s.data.toList.drop i) = xdigs 0 s.data.toList ∧ hh = h1) (fun y => (s.size - y.2.2.2.2.2.2.2.2.2.2.2).toNat)
    ⟨0, 0, rfl, by omega, by omega, by simp, rfl⟩ ?_
  rintro y hh ⟨i, n, rfl, hi, hn, hd, rfl⟩
  have bad : ∀ (e : Int), (e = 1 ∨ e = 2) → ∀ n : Int, xdigs 0 s.data.toList = none → PU s.data.toList h (.tuple ⟨[.int .u64 n, .iface T_strconv_Error (.int .i64 e)]⟩) hh := fun e he n hx => ⟨_, _, rfl, .inr ⟨.inr hx, e, he, rfl⟩, x1⟩
  refine brd (fun hc => ?_) fun hc => ?_
  · have hj : i < s.data.toList.length := by omega
    have hdr : s.data.toList.drop i = s.data.toList[i] :: s.data.toList.drop (i + 1) := List.drop_eq_getElem_cons hj
    rw [hdr, xdigs] at hd
    refine idxs (by omega) (by omega) ?_
    rw [Int.toNat_natCast, Nat.mul_one]
    refine o_i (C.get (iv_get (by rw [List.length_map]; exact hj))) ?_
    rw [List.getElem_map]
    generalize s.data.toList[i] = b at hd ⊢
    have hb := b.toNat_lt
    have J46 : ∀ {hh' : Heap} {d : Nat}, hh' = hh → d < 256 → (d < 16 → xdig b = some d) → (¬ d < 16 → xdig b = none) →
        internal_strconv_ParseUint.J46 (fun x' h' => (∃ i n : Nat, x' = (16, false, s, 1152921504606846976, 4294967295, false, (n : Int), some ⟨g, 0, none⟩, s.size, c, (s.size : Int), (i : Int)) ∧ i ≤ s.size ∧ n < 4294967296 ∧ xdigs n (s.data.toList.drop i) = xdigs 0 s.data.toList ∧ h' = hh) ∧ (s.size - x'.2.2.2.2.2.2.2.2.2.2.2).toNat < (s.size - (i : Int)).toNat) (fun u h' => PU s.data.toList h u h') 16 false s 1152921504606846976 4294967295 false (n : Int) (d : Int) (some ⟨g, 0, none⟩) s.size c (s.size : Int) (i : Int) hh' := fun {hh' d} he hd2 k1 k2 => by
      subst he
      unfold internal_strconv_ParseUint.J46
      rw [show IntKind.u8.wrap (16 : Int) = 16 by decide, show IntKind.u64.wrap (16 : Int) = 16 by decide]
      have wu : ∀ z : Nat, z < 18446744073709551616 → IntKind.u64.wrap (z : Int) = (z : Int) := fun z hz => by
        unfold IntKind.wrap
        show (z : Int) % 2 ^ 64 = _
        omega
      refine brd (fun h16 => mkI conc (bad 2 (.inr rfl) _ ?_)) fun h16 => brd (fun hcut => by omega) fun hcut => ?_
      · rw [k2 (by omega)] at hd; exact hd.symm
      rw [k1 (by omega)] at hd
      rw [wu d (by omega), show (n : Int) * 16 = ((n * 16 : Nat) : Int) by omega, wu (n * 16) (by omega), show ((n * 16 : Nat) : Int) + (d : Int) = ((n * 16 + d : Nat) : Int) by omega, wu (n * 16 + d) (by omega)]
      refine brd (fun hlt => by omega) fun hlt => brd (fun hmx => mkI conc (bad 1 (.inl rfl) _ ?_)) fun hmx => ?_
      · simp only at hd
        rw [if_neg (by omega)] at hd
        exact hd.symm
      · simp only at hd
        rw [if_pos (by omega)] at hd
        rw [wrap64_succ (by omega)]
        exact ⟨⟨i + 1, n * 16 + d, rfl, by omega, by omega, hd, rfl⟩, by show _ < _; simp; omega⟩
    have J43 : ∀ t : Bool, t = decide (48 ≤ b.toNat ∧ b.toNat ≤ 57) →
        internal_strconv_ParseUint.J43 (fun x' h' => (∃ i n : Nat, x' = (16, false, s, 1152921504606846976, 4294967295, false, (n : Int), some ⟨g, 0, none⟩, s.size, c, (s.size : Int), (i : Int)) ∧ i ≤ s.size ∧ n < 4294967296 ∧ xdigs n (s.data.toList.drop i) = xdigs 0 s.data.toList ∧ h' = hh) ∧ (s.size - x'.2.2.2.2.2.2.2.2.2.2.2).toNat < (s.size - (i : Int)).toNat) (fun u h' => PU s.data.toList h u h') 16 false s 1152921504606846976 4294967295 false (n : Int) (b.toNat : Int) (some ⟨g, 0, none⟩) s.size c (s.size : Int) (i : Int) t hh := fun t ht => by
      unfold internal_strconv_ParseUint.J43
      have w8 : ∀ z : Nat, z < 256 → IntKind.u8.wrap (z : Int) = (z : Int) := fun z hz => by
        unfold IntKind.wrap
        show (z : Int) % 2 ^ 8 = _
        omega
      subst ht
      have J45 : ¬ (48 ≤ b.toNat ∧ b.toNat ≤ 57) → ∀ t : Bool, t = decide (97 ≤ lowB b ∧ lowB b ≤ 122) →
          internal_strconv_ParseUint.J45 (fun x' h' => (∃ i n : Nat, x' = (16, false, s, 1152921504606846976, 4294967295, false, (n : Int), some ⟨g, 0, none⟩, s.size, c, (s.size : Int), (i : Int)) ∧ i ≤ s.size ∧ n < 4294967296 ∧ xdigs n (s.data.toList.drop i) = xdigs 0 s.data.toList ∧ h' = hh) ∧ (s.size - x'.2.2.2.2.2.2.2.2.2.2.2).toNat < (s.size - (i : Int)).toNat) (fun u h' => PU s.data.toList h u h') 16 false s 1152921504606846976 4294967295 false (n : Int) (b.toNat : Int) (some ⟨g, 0, none⟩) s.size c (s.size : Int) (i : Int) t hh := fun hx t ht => by
        unfold internal_strconv_ParseUint.J45
        subst ht
        have hlw := low_lt b
        refine brd (fun hd1 => lower_c b (as_i ?_)) fun hd1 => mkI conc (bad 2 (.inr rfl) _ ?_)
        · rw [show (lowB b : Int) - 97 = ((lowB b - 97 : Nat) : Int) by omega, w8 _ (by omega), show ((lowB b - 97 : Nat) : Int) + 10 = ((lowB b - 87 : Nat) : Int) by omega, w8 _ (by omega)]
          refine J46 rfl (by omega) (fun h => ?_) (fun h => ?_)
          · unfold xdig; rw [if_neg hx, if_pos (by omega)]
          · unfold xdig; rw [if_neg hx, if_neg (by omega)]
        · have : xdig b = none := by unfold xdig; rw [if_neg hx, if_neg (by omega)]
          rw [this] at hd; exact hd.symm
      refine brd (fun hd1 => ?_) fun hd1 => lower_c b (as_i (brd (fun h97 => lower_c b (as_i (J45 hd1 _ ?_))) fun h97 => J45 hd1 _ ?_))
      · rw [show (b.toNat : Int) - 48 = ((b.toNat - 48 : Nat) : Int) by omega, w8 _ (by omega)]
        exact J46 rfl (by omega) (fun _ => by unfold xdig; rw [if_pos hd1]) (fun h => by omega)
      · rw [decide_eq_decide]; omega
      · symm; rw [decide_eq_false_iff_not]; omega
    have h95 : ∀ t : Bool, t = false → internal_strconv_ParseUint.J41 (fun x' h' => (∃ i n : Nat, x' = (16, false, s, 1152921504606846976, 4294967295, false, (n : Int), some ⟨g, 0, none⟩, s.size, c, (s.size : Int), (i : Int)) ∧ i ≤ s.size ∧ n < 4294967296 ∧ xdigs n (s.data.toList.drop i) = xdigs 0 s.data.toList ∧ h' = hh) ∧ (s.size - x'.2.2.2.2.2.2.2.2.2.2.2).toNat < (s.size - (i : Int)).toNat) (fun u h' => PU s.data.toList h u h') 16 false s 1152921504606846976 4294967295 false (n : Int) (b.toNat : Int) (some ⟨g, 0, none⟩) s.size c (s.size : Int) (i : Int) t hh := fun t ht => by
      subst ht
      unfold internal_strconv_ParseUint.J41
      refine br_f rfl (brd (fun h48 => J43 _ ?_) fun h48 => J43 _ ?_)
      · rw [decide_eq_decide]; omega
      · symm; rw [decide_eq_false_iff_not]; omega
    exact br (fun _ => h95 _ rfl) fun _ => h95 _ rfl
  · obtain rfl : i = s.size := by omega
    rw [hl, List.drop_length] at hd
    exact br_f rfl ⟨_, _, rfl, .inl ⟨rfl, hne, n, rfl, hn, hd.symm⟩, x1⟩
end
end Go.Sx
/- The text of a sample's bits: eight hexadecimal digits. What is read from it is what was told. -/
set_option linter.unusedVariables false
set_option linter.unusedSimpArgs false
namespace Go.Sx
open Go.Proofs Go.RowKit
set_option maxRecDepth 100000
set_option maxHeartbeats 1000000

theorem xdig_hexD {k : Nat} (h : k < 16) : xdig (hexD k) = some k := by
  have : ∀ k : Fin 16, xdig (hexD k.val) = some k.val := by decide +kernel
  exact this ⟨k, h⟩
theorem xdigs_append (a : Nat) : ∀ (l m : List UInt8) (a : Nat), xdigs a (l ++ m) = (xdigs a l).bind fun b => xdigs b m
  | [], m, a => rfl
  | b :: l, m, a => by
    simp only [List.cons_append, xdigs]
    cases xdig b with
    | none => rfl
    | some d =>
      simp only []
      by_cases h : a * 16 + d < 4294967296
      · rw [if_pos h, if_pos h]; exact xdigs_append a l m _
      · rw [if_neg h, if_neg h]; rfl
theorem xdigs_one {a d : Nat} (hd : d < 16) (h : a * 16 + d < 4294967296) : xdigs a [hexD d] = some (a * 16 + d) := by
  simp only [xdigs, xdig_hexD hd, if_pos h]
theorem xdigs_hexL : ∀ (k u : Nat), u < 16 ^ (k + 1) → u < 4294967296 → xdigs 0 (hexL u) = some u
  | 0, u, h, _ => by
    have : u < 16 := by simpa using h
    rw [hexL_small this, xdigs_one this (by omega)]
    simp
  | k + 1, u, h, hu => by
    by_cases c : u < 16
    · rw [hexL_small c, xdigs_one c (by omega)]
      simp
    · rw [hexL_step c, xdigs_append 0, xdigs_hexL k (u / 16) (by rw [Nat.pow_succ] at h; omega) (by omega)]
      show xdigs (u / 16) [hexD (u % 16)] = some u
      rw [xdigs_one (by omega) (by omega)]
      congr 1
      omega
theorem xdigs_zeros (l : List UInt8) : ∀ k : Nat, xdigs 0 (List.replicate k 48 ++ l) = xdigs 0 l
  | 0 => rfl
  | k + 1 => by
    rw [List.replicate_succ, List.cons_append]
    have e : xdig 48 = some 0 := by decide
    simp only [xdigs, e, Nat.zero_mul, Nat.add_zero]
    rw [if_pos (by decide)]
    exact xdigs_zeros l k
/-- The eight digits of a sample's bits. -/
def bitL (n : Nat) : List UInt8 := List.replicate (8 - (hexL n).length) 48 ++ hexL n
theorem bitL_len {n : Nat} (h : n < 4294967296) : (bitL n).length = 8 := by
  have := hexL_le 7 n (by simpa using h)
  unfold bitL
  rw [List.length_append, List.length_replicate]
  omega
theorem bitL_read {n : Nat} (h : n < 4294967296) : xdigs 0 (bitL n) = some n := by
  unfold bitL
  rw [xdigs_zeros, xdigs_hexL 7 n (by simpa using h) h]
/-- Every byte of it is a digit or one of the letters a to f: never a blank, a new line or a bar. -/
theorem hexD_ne {k : Nat} (h : k < 16) : 48 ≤ (hexD k).toNat ∧ (hexD k).toNat ≤ 102 ∧ ((hexD k).toNat ≤ 57 ∨ 97 ≤ (hexD k).toNat) := by
  have : ∀ k : Fin 16, 48 ≤ (hexD k.val).toNat ∧ (hexD k.val).toNat ≤ 102 ∧ ((hexD k.val).toNat ≤ 57 ∨ 97 ≤ (hexD k.val).toNat) := by decide +kernel
  exact this ⟨k, h⟩
theorem hexL_mem : ∀ (k u : Nat), u < 16 ^ (k + 1) → ∀ b ∈ hexL u, 48 ≤ b.toNat ∧ b.toNat ≤ 102 ∧ (b.toNat ≤ 57 ∨ 97 ≤ b.toNat)
  | 0, u, h, b, hb => by
    have : u < 16 := by simpa using h
    rw [hexL_small this, List.mem_singleton] at hb
    rw [hb]; exact hexD_ne this
  | k + 1, u, h, b, hb => by
    by_cases c : u < 16
    · rw [hexL_small c, List.mem_singleton] at hb
      rw [hb]; exact hexD_ne c
    · rw [hexL_step c, List.mem_append, List.mem_singleton] at hb
      rcases hb with hb | hb
      · exact hexL_mem k (u / 16) (by rw [Nat.pow_succ] at h; omega) b hb
      · rw [hb]; exact hexD_ne (by omega)
theorem bitL_mem {n : Nat} (h : n < 4294967296) : ∀ b ∈ bitL n, 48 ≤ b.toNat ∧ b.toNat ≤ 102 ∧ (b.toNat ≤ 57 ∨ 97 ≤ b.toNat) := by
  intro b hb
  unfold bitL at hb
  rw [List.mem_append] at hb
  rcases hb with hb | hb
  · rw [(List.mem_replicate.mp hb).2]; decide
  · exact hexL_mem 7 n (by simpa using h) b hb
end Go.Sx
/- Texts of samples, rings and filters as lists of bytes, and what cutting and reading them gives. -/
set_option linter.unusedVariables false
set_option linter.unusedSimpArgs false
namespace Go.Sx
open Go.Proofs Go.RowKit
set_option maxRecDepth 100000
set_option maxHeartbeats 1000000

theorem join_two (x y : List UInt8) (r : List (List UInt8)) (c : UInt8) : Lib.join (x :: y :: r) [c] = x ++ c :: Lib.join (y :: r) [c] := by
  rw [Lib.join_cons, Lib.join_cons]
  simp [Lib.joinTail]
theorem cut_join {c : UInt8} : ∀ (x : List UInt8) (r : List (List UInt8)), (∀ y ∈ x :: r, ∀ b ∈ y, b ≠ c) → cutL c (Lib.join (x :: r) [c]) = x :: r
  | x, [], h => by rw [Lib.join_one]; exact cut_none (h x (List.mem_cons_self ..))
  | x, y :: r, h => by
    rw [join_two, cut_pre (h x (List.mem_cons_self ..)), cut_join y r fun z hz => h z (List.mem_cons_of_mem _ hz)]
theorem cut_join_app {c : UInt8} (t : List UInt8) : ∀ (x : List UInt8) (r : List (List UInt8)), (∀ y ∈ x :: r, ∀ b ∈ y, b ≠ c) → cutL c (Lib.join (x :: r) [c] ++ c :: t) = (x :: r) ++ cutL c t
  | x, [], h => by rw [Lib.join_one, cut_pre (h x (List.mem_cons_self ..))]; rfl
  | x, y :: r, h => by
    rw [join_two, List.append_assoc, List.cons_append, cut_pre (h x (List.mem_cons_self ..)), cut_join_app t y r fun z hz => h z (List.mem_cons_of_mem _ hz)]
    rfl
theorem join_mem {c b : UInt8} : ∀ (xs : List (List UInt8)), b ∈ Lib.join xs [c] → b = c ∨ ∃ x ∈ xs, b ∈ x
  | [], h => by rw [Lib.join_nil] at h; simp at h
  | [x], h => by rw [Lib.join_one] at h; exact .inr ⟨x, List.mem_cons_self .., h⟩
  | x :: y :: r, h => by
    rw [join_two, List.mem_append, List.mem_cons] at h
    rcases h with h | h | h
    · exact .inr ⟨x, List.mem_cons_self .., h⟩
    · exact .inl h
    · rcases join_mem (y :: r) h with k | ⟨z, hz, k⟩
      · exact .inl k
      · exact .inr ⟨z, List.mem_cons_of_mem _ hz, k⟩
/-- Bits of single precision. -/
def B32 (ns : List Nat) : Prop := ∀ n ∈ ns, n < 4294967296
/-- Samples, told. -/
def smpL (ns : List Nat) : List UInt8 := Lib.join (ns.map bitL) [32]
theorem bitL_ne {n : Nat} (h : n < 4294967296) {c : UInt8} (hc : c.toNat < 48) : ∀ b ∈ bitL n, b ≠ c := by
  intro b hb e
  have := bitL_mem h b hb
  subst e
  omega
theorem bits_ne {ns : List Nat} (h : B32 ns) {c : UInt8} (hc : c.toNat < 48) : ∀ y ∈ ns.map bitL, ∀ b ∈ y, b ≠ c := by
  intro y hy
  obtain ⟨n, hn, rfl⟩ := List.mem_map.mp hy
  exact bitL_ne (h n hn) hc
theorem smp_cut {ns : List Nat} (h : B32 ns) (hn : ns ≠ []) : cutL 32 (smpL ns) = ns.map bitL := by
  cases ns with
  | nil => exact absurd rfl hn
  | cons n r => exact cut_join (bitL n) (r.map bitL) (bits_ne (ns := n :: r) h (by decide))
theorem smp_cut_app {ns : List Nat} (h : B32 ns) (hn : ns ≠ []) (t : List UInt8) : cutL 32 (smpL ns ++ 32 :: t) = ns.map bitL ++ cutL 32 t := by
  cases ns with
  | nil => exact absurd rfl hn
  | cons n r => exact cut_join_app t (bitL n) (r.map bitL) (bits_ne (ns := n :: r) h (by decide))
theorem smp_mem {ns : List Nat} (h : B32 ns) : ∀ b ∈ smpL ns, b ≠ 10 := by
  intro b hb e
  rcases join_mem _ hb with k | ⟨x, hx, k⟩
  · rw [e] at k; exact absurd k (by decide)
  · exact bits_ne h (c := 10) (by decide) x hx b k e
theorem smp_len : ∀ {ns : List Nat}, B32 ns → ns ≠ [] → (smpL ns).length + 1 = 9 * ns.length
  | [], h, hn => absurd rfl hn
  | [n], h, _ => by
    show (Lib.join [bitL n] [32]).length + 1 = _
    rw [Lib.join_one, bitL_len (h n (List.mem_cons_self ..))]
    rfl
  | n :: m :: r, h, _ => by
    have ih := smp_len (ns := m :: r) (fun k hk => h k (List.mem_cons_of_mem _ hk)) (by simp)
    show (Lib.join (bitL n :: bitL m :: r.map bitL) [32]).length + 1 = _
    rw [join_two, List.length_append, List.length_cons, bitL_len (h n (List.mem_cons_self ..))]
    have e : (Lib.join (bitL m :: r.map bitL) [32]).length + 1 = 9 * (m :: r).length := ih
    simp only [List.length_cons] at e ⊢
    omega
theorem smp_le {ns : List Nat} (h : B32 ns) : (smpL ns).length ≤ 9 * ns.length := by
  cases ns with
  | nil => show (Lib.join [] [32]).length ≤ _; rw [Lib.join_nil]; simp
  | cons n r => have := smp_len h (by simp); omega
/-- A ring, told in one line. -/
def ringL (at_ : Nat) (ns : List Nat) : List UInt8 := Lib.decDigits ns.length ++ 32 :: (Lib.decDigits at_ ++ 32 :: smpL ns)
theorem ring_cut {a : Nat} {ns : List Nat} (h : B32 ns) (hn : ns ≠ []) : cutL 32 (ringL a ns) = Lib.decDigits ns.length :: Lib.decDigits a :: ns.map bitL := by
  unfold ringL
  rw [cut_pre (dec_no _ (.inl (by decide))), cut_pre (dec_no _ (.inl (by decide))), smp_cut h hn]
theorem ring_mem {a : Nat} {ns : List Nat} (h : B32 ns) : ∀ b ∈ ringL a ns, b ≠ 10 := by
  intro b hb
  unfold ringL at hb
  simp only [List.mem_append, List.mem_cons] at hb
  rcases hb with hb | rfl | hb | rfl | hb
  · exact dec_no _ (c := 10) (.inl (by decide)) b hb
  · decide
  · exact dec_no _ (c := 10) (.inl (by decide)) b hb
  · decide
  · exact smp_mem h b hb
/-- A filter, told in one line. -/
def fwL : List UInt8 := [102, 105, 108, 116, 101, 114]
def filtL (k : Nat) (cs ss : List Nat) : List UInt8 := fwL ++ 32 :: (Lib.decDigits k ++ 32 :: (smpL cs ++ 32 :: smpL ss))
theorem filt_cut {k : Nat} {cs ss : List Nat} (hc : B32 cs) (hs : B32 ss) (nc : cs ≠ []) (ns : ss ≠ []) : cutL 32 (filtL k cs ss) = fwL :: Lib.decDigits k :: (cs ++ ss).map bitL := by
  unfold filtL
  rw [cut_pre (by decide), cut_pre (dec_no _ (.inl (by decide))), smp_cut_app hc nc, smp_cut hs ns, List.map_append]
theorem filt_mem {k : Nat} {cs ss : List Nat} (hc : B32 cs) (hs : B32 ss) : ∀ b ∈ filtL k cs ss, b ≠ 10 := by
  intro b hb
  unfold filtL at hb
  simp only [List.mem_append, List.mem_cons] at hb
  rcases hb with hb | rfl | hb | rfl | hb | rfl | hb
  · have : ∀ b ∈ fwL, b ≠ 10 := by decide
    exact this b hb
  · decide
  · exact dec_no _ (c := 10) (.inl (by decide)) b hb
  · decide
  · exact smp_mem hc b hb
  · decide
  · exact smp_mem hs b hb
/-- Lines, each of which ends with a new line. -/
def linL : List (List UInt8) → List UInt8
  | [] => []
  | l :: r => l ++ 10 :: linL r
theorem lin_cut : ∀ {ls : List (List UInt8)}, (∀ l ∈ ls, ∀ b ∈ l, b ≠ 10) → cutL 10 (linL ls) = ls ++ [[]]
  | [], _ => rfl
  | l :: r, h => by
    rw [linL, cut_pre (h l (List.mem_cons_self ..)), lin_cut fun k hk => h k (List.mem_cons_of_mem _ hk)]
    rfl
theorem join_lin : ∀ (x : List UInt8) (r : List (List UInt8)), Lib.join (x :: r) [10] ++ [10] = linL (x :: r)
  | x, [] => by rw [Lib.join_one]; rfl
  | x, y :: r => by rw [join_two, List.append_assoc, List.cons_append, join_lin y r]; rfl
end Go.Sx
/- Deeds: valid ones, their words. -/
namespace Go.Sx
set_option maxRecDepth 100000
open Go.Proofs
set_option linter.unusedVariables false

def dd (k a b : Int) : Array Value := ⟨[.int .i64 k, .int .i64 a, .int .i64 b]⟩
def numbers (k : Int) : Int := if k = 7 ∨ k = 8 then 0 else if k = 6 then 2 else 1
def validDeed (k a b : Int) : Bool := inR k 1 9 && inR a 0 999 && inR b 0 999 && (decide (0 < numbers k) || a == 0) && (decide (1 < numbers k) || b == 0)
def by_ (l : List UInt8) : ByteArray := ⟨⟨l⟩⟩
def wordOf (k : Int) : ByteArray := if k = 1 then by_ [103, 105, 118, 101] else if k = 2 then by_ [119, 111, 114, 107] else if k = 3 then by_ [100, 101, 108, 105, 118, 101, 114] else if k = 4 then by_ [99, 111, 112, 121]
  else if k = 5 then by_ [100, 114, 111, 112] else if k = 6 then by_ [115, 112, 111, 105, 108] else if k = 7 then by_ [115, 121, 110, 99] else if k = 8 then by_ [99, 114, 97, 115, 104] else if k = 9 then by_ [113, 117, 105, 116] else by_ []
end Go.Sx
/- Deeds' texts: the rule's and the program's. -/
set_option linter.unusedVariables false
set_option linter.unusedSimpArgs false
namespace Go.Sx
open Go.Proofs
set_option maxRecDepth 100000
set_option maxHeartbeats 1000000

def spB (t : ByteArray) (n : Int) : ByteArray := t ++ ((⟨#[32]⟩ : ByteArray) ++ decB n.toNat)
def deedText (k a b : Int) : ByteArray :=
  if validDeed k a b then
    let t := if 0 < numbers k then spB (wordOf k) a else wordOf k
    if 1 < numbers k then spB t b else t
  else ⟨#[]⟩
theorem valid_in {k a b : Int} (h : validDeed k a b = true) : (1 ≤ k ∧ k ≤ 9) ∧ (0 ≤ a ∧ a ≤ 999) ∧ (0 ≤ b ∧ b ≤ 999) := by
  unfold validDeed inR at h
  simp only [Bool.and_eq_true, decide_eq_true_eq] at h
  exact ⟨h.1.1.1.1, h.1.1.1.2, h.1.1.2⟩
theorem ba_len (s t : ByteArray) : (s ++ t).size = s.size + t.size := by simp
end Go.Sx
/- One element appended to an own slice beside own data. -/
set_option linter.unusedVariables false
set_option linter.unusedSimpArgs false
namespace Go.Sx
open Go.Proofs
set_option maxRecDepth 100000
set_option maxHeartbeats 1000000

section
variable {α β : Type} {r : Rep α} {s : Rep β} {P : Program} {h0 h : Heap} {q : Addr} {F : Fr} {B L : List Blk} {d : α} {t e bytes ty : Nat} {b : Option Addr} {l c : Nat} {xs : List β} {K : Value → Heap → Prop}
/-- One element appended to an own slice beside own data. -/
theorem Pt.push {cs : Array Value} {x : β} (Pa : Pt r h0 h q F (B ++ L) d) (E : ElemT P t e s.sz bytes) (O : SlO e s B b l c xs) (Ox : s.ow [] cs.toList x) (hmax : l + 1 ≤ maxLen) (hbytes : (l + 1) * bytes ≤ 140737488355328)
    (H : ∀ b' c' h' B', SlO e s B' b' (l + 1) c' (xs ++ [x]) → Pt r h0 h' q F (B' ++ L) d → K (.slice b' (l + 1) c') h') :
    ALC cs e (fun g h => SEMV P (Builtin.append_ #[t, t] ty #[.slice b l c, .slice (some ⟨g, 0, none⟩) 1 1]) K h) h := by
  obtain ⟨e1, mid, BR, M, OR⟩ := Pa
  refine push_own (Bn := []) (L := (F.g, F.T, ⟨F.pre ++ (mid ++ F.post)⟩) :: (BR ++ L)) E O (M.cnt fun p => by simp only [cnt_app, cnt_cons, cnt_nil]; omega) Ox hmax hbytes fun b' c' h' B' O' M' => H b' c' h' B' O' ⟨e1, mid, BR, M'.cnt fun p => ?_, OR⟩
  simp only [cnt_app, cnt_cons, cnt_nil]; omega
end
end Go.Sx
/- Texts cut and deeds read: the rule's. -/
set_option linter.unusedVariables false
set_option linter.unusedSimpArgs false
namespace Go.Sx
open Go.Proofs
set_option maxRecDepth 100000
set_option maxHeartbeats 1000000

section
variable {h : Heap}
theorem mk_size (l : List UInt8) : (mkB l).size = l.length := by simp [ByteArray.size]
theorem str_ow {s : ByteArray} (h : s.size ≤ maxLen) : rS.ow [] [.string s] s := ⟨rfl, rfl, h⟩
end
theorem no32 (k : Int) : ∀ x ∈ (wordOf k).data.toList, x ≠ 32 := by
  unfold wordOf
  repeat' split
  all_goals decide
theorem word_inj {k j : Int} (hk : 1 ≤ k ∧ k ≤ 9) (hj : 1 ≤ j ∧ j ≤ 9) (e : wordOf k = wordOf j) : k = j := by
  rcases (show k = 1 ∨ k = 2 ∨ k = 3 ∨ k = 4 ∨ k = 5 ∨ k = 6 ∨ k = 7 ∨ k = 8 ∨ k = 9 by omega) with rfl | rfl | rfl | rfl | rfl | rfl | rfl | rfl | rfl <;>
  rcases (show j = 1 ∨ j = 2 ∨ j = 3 ∨ j = 4 ∨ j = 5 ∨ j = 6 ∨ j = 7 ∨ j = 8 ∨ j = 9 by omega) with rfl | rfl | rfl | rfl | rfl | rfl | rfl | rfl | rfl <;>
  first | rfl | exact absurd e (by decide)
theorem decB_data (m : Nat) : (decB m).data.toList = Lib.decDigits m := by unfold decB; simp
theorem spB_data (t : ByteArray) (n : Int) : (spB t n).data.toList = t.data.toList ++ 32 :: Lib.decDigits n.toNat := by
  unfold spB
  rw [ByteArray.data_append, ByteArray.data_append, Array.toList_append, Array.toList_append, decB_data]
  rfl
theorem dec32 (m : Nat) : ∀ x ∈ Lib.decDigits m, x ≠ 32 := dec_no m (.inl (by decide))
/-- The pieces of a valid deed's text. -/
def pieces (k a b : Int) : List (List UInt8) :=
  (wordOf k).data.toList :: ((if 0 < numbers k then [Lib.decDigits a.toNat] else []) ++ if 1 < numbers k then [Lib.decDigits b.toNat] else [])
theorem num_le (k : Int) : 1 < numbers k → 0 < numbers k := by omega
theorem cut_text {k a b : Int} (h : validDeed k a b = true) : cutL 32 (deedText k a b).data.toList = pieces k a b := by
  unfold deedText pieces
  rw [h, if_pos rfl]
  dsimp only
  by_cases h0 : 0 < numbers k
  · rw [if_pos h0, if_pos h0]
    by_cases h1 : 1 < numbers k
    · rw [if_pos h1, if_pos h1, spB_data, spB_data, List.append_assoc, List.cons_append, cut_pre (no32 k), cut_pre (dec32 _), cut_none (dec32 _)]; rfl
    · rw [if_neg h1, if_neg h1, spB_data, cut_pre (no32 k), cut_none (dec32 _)]; rfl
  · rw [if_neg h0, if_neg h0, if_neg (by omega), if_neg (by omega), cut_none (no32 k)]; rfl
theorem valid_zero {k a b : Int} (h : validDeed k a b = true) : (¬ 0 < numbers k → a = 0) ∧ (¬ 1 < numbers k → b = 0) := by
  unfold validDeed at h
  simp only [Bool.and_eq_true, Bool.or_eq_true, decide_eq_true_eq, beq_iff_eq] at h
  exact ⟨fun h0 => h.1.2.resolve_left h0, fun h1 => h.2.resolve_left h1⟩
theorem text_inj {k a b k' a' b' : Int} (h : validDeed k a b = true) (h' : validDeed k' a' b' = true) (e : deedText k a b = deedText k' a' b') : k = k' ∧ a = a' ∧ b = b' := by
  have c := cut_text h
  rw [e, cut_text h'] at c
  obtain ⟨hk, ha, hb⟩ := valid_in h
  obtain ⟨hk', ha', hb'⟩ := valid_in h'
  unfold pieces at c
  injection c with c1 c2
  have ek : k = k' := by
    refine word_inj hk hk' ?_
    have := congrArg mkB c1
    rw [mkB_list, mkB_list] at this
    exact this.symm
  subst ek
  obtain ⟨z1, z2⟩ := valid_zero h
  obtain ⟨z1', z2'⟩ := valid_zero h'
  refine ⟨rfl, ?_, ?_⟩
  · by_cases h0 : 0 < numbers k
    · rw [if_pos h0, if_pos h0] at c2
      injection c2 with c2 c3
      have := dec_inj c2
      omega
    · rw [z1 h0, z1' h0]
  · by_cases h1 : 1 < numbers k
    · rw [if_pos (num_le k h1), if_pos (num_le k h1), if_pos h1, if_pos h1] at c2
      injection c2 with c2 c3
      injection c3 with c3 c4
      have := dec_inj c3
      omega
    · rw [z2 h1, z2' h1]
/-- What reading a text gives. -/
def Read (text : ByteArray) (u : Value) : Prop :=
  (∃ k a b, validDeed k a b = true ∧ deedText k a b = text ∧ u = .tuple ⟨[.agg (dd k a b), .int .i64 (0 : Int)]⟩) ∨ ((∀ k a b, validDeed k a b = true → deedText k a b ≠ text) ∧ u = .tuple ⟨[.agg (dd 0 0 0), .int .i64 (5 : Int)]⟩)
theorem Read.same {text : ByteArray} {u v : Value} (h : Read text u) (h' : Read text v) : ∃ k a b c, u = .tuple ⟨[.agg (dd k a b), .int .i64 c]⟩ ∧ v = .tuple ⟨[.agg (dd k a b), .int .i64 c]⟩ := by
  rcases h with ⟨k, a, b, hv, ht, rfl⟩ | ⟨hn, rfl⟩
  · rcases h' with ⟨k', a', b', hv', ht', rfl⟩ | ⟨hn', rfl⟩
    · obtain ⟨rfl, rfl, rfl⟩ := text_inj hv hv' (ht.trans ht'.symm)
      exact ⟨_, _, _, _, rfl, rfl⟩
    · exact absurd ht (hn' _ _ _ hv)
  · rcases h' with ⟨k', a', b', hv', ht', rfl⟩ | ⟨hn', rfl⟩
    · exact absurd ht' (hn _ _ _ hv')
    · exact ⟨_, _, _, _, rfl, rfl⟩
end Go.Sx
/- Texts repeated and joined: the shelf's contracts. -/
set_option linter.unusedVariables false
set_option linter.unusedSimpArgs false
namespace Go.Sx
open Go.Proofs
set_option maxRecDepth 100000
set_option maxHeartbeats 1000000

theorem X156 : Builder.Extra prg R156 where
  sizeBuilder := by kernel_rfl
  liesBuilder := by kernel_rfl
  t5 := L105.t5
  a5 := L105.a5
  z5 := L105.z5
  v5 := L105.v5
  infoByte := by kernel_rfl
  cellsByte := by kernel_rfl
  sizeByte := by kernel_rfl
  neB5 := by decide
theorem X105 : Builder.Extra prg R105 where
  sizeBuilder := by kernel_rfl
  liesBuilder := by kernel_rfl
  t5 := L105.t5
  a5 := L105.a5
  z5 := L105.z5
  v5 := L105.v5
  infoByte := by kernel_rfl
  cellsByte := by kernel_rfl
  sizeByte := by kernel_rfl
  neB5 := by decide
theorem repeat_one (b : UInt8) : ∀ c : Nat, Lib.repeatL [b] c = List.replicate c b
  | 0 => rfl
  | c + 1 => by
    show [b] ++ Lib.repeatL [b] c = _
    rw [repeat_one b c, List.replicate_succ]; rfl
section
variable {h0 h : Heap} {L : List Blk}
theorem Repeat_c {c : Nat} (hc : c ≤ 8) : CALL prg f_strings_Repeat #[.string ⟨#[48]⟩, .int .i64 (c : Int)] (fun u h' => u = .string (mkB (List.replicate c 48)) ∧ Ext h h') h := by
  refine CALL_of_calls L105.f105 rfl rfl fun w hw => ?_
  subst hw
  refine (Any.strings_Repeat L105 X105 ⟨#[48]⟩ c w (by omega) (by show 1 * c ≤ _; omega)).mono ?_
  rintro e w' ⟨rfl, b⟩
  refine ⟨_, rfl, below_same b, ?_, below_ext b⟩
  show Value.string ⟨(Lib.repeatL [48] c).toArray⟩ = _
  rw [repeat_one]
theorem str_cell {a : Addr} {s : ByteArray} (R : RdP rS h a s) : cell h a = some (.string s) := by
  obtain ⟨vs, h1, rfl, _⟩ := R
  have := h1 0 _ rfl
  rwa [add0] at this
theorem Join_c {B : List Blk} {b : Option Addr} {l c : Nat} {xs : List ByteArray} {sep : ByteArray} (O : SlO T_string rS B b l c xs) (M : Mem h0 h L) (s : B.Sublist L) (hl : l ≤ 140737488355328) (hN : (Lib.join (xs.map (·.data.toList)) sep.data.toList).length ≤ 140737488355328) :
    CALL prg f_strings_Join #[.slice b l c, .string sep] (fun u h' => u = .string (mkB (Lib.join (xs.map (·.data.toList)) sep.data.toList)) ∧ Ext h h') h := by
  have e := O.len
  have S := O.look M s
  have hlc := S.2.1
  refine CALL_of_calls L156.f156 rfl rfl fun w hw => ?_
  subst hw
  by_cases h0 : l = 0
  · subst h0
    obtain rfl := List.eq_nil_of_length_eq_zero e
    refine (Any.strings_Join_none L156 X156 b c sep w).mono ?_
    rintro e w' ⟨rfl, rfl⟩
    exact ⟨_, rfl, Same.refl _, rfl, Ext.refl _⟩
  · obtain ⟨_, ws, B1, B2, _, O1, _⟩ := O
    obtain ⟨g, rfl⟩ := O1.base (by omega)
    have hc : ∀ (j : Nat) x, xs[j]? = some x → w.cell? ⟨g, 0 + j, none⟩ = some (.string x) := fun j x hx => by
      obtain ⟨hj, hx⟩ := List.getElem?_eq_some_iff.1 hx
      obtain ⟨a, ha, R⟩ := S.elem (i := j) (by omega) (by decide)
      cases ha
      have := str_cell R
      rw [getElem!_pos xs j hj, hx] at this
      have e2 : (⟨g, 0, none⟩ : Addr).add (j * rS.sz) = ⟨g, 0 + j, none⟩ := by rw [add_none]; show (⟨g, 0 + j * 1, none⟩ : Addr) = _; rw [Nat.mul_one]
      rw [e2] at this
      exact this
    have hb : g < w.heap.size := by
      obtain ⟨hj, hx⟩ : ∃ h : 0 < xs.length, xs[0]? = some xs[0] := ⟨by omega, List.getElem?_eq_getElem _⟩
      exact cell_lt (hc 0 _ hx)
    subst e
    refine (Any.strings_Join L156 X156 g 0 c xs sep w hc hb hl hlc hN).mono ?_
    rintro e w' ⟨rfl, b⟩
    exact ⟨_, rfl, below_same b, rfl, below_ext b⟩
end
end Go.Sx
