/- Deeds' texts: the rule's and the program's. -/
import Derived.Test.YthgnpepchedpbaaDoorLv0
import Derived.Test.YthgnpepchedpbaaDoorLv2
import Derived.Test.YthgnpepchedpbaaDoorDeedText
set_option linter.unusedVariables false
set_option linter.unusedSimpArgs false
namespace Go.Sx
open Go.Proofs
set_option maxRecDepth 100000
set_option maxHeartbeats 1000000

theorem brn {b : Bool} {p q : Prop} (ht : b = false → p) (hf : b = true → q) : BIF (!b) p q := br (fun h => ht (by simpa using h)) fun h => hf (by simpa using h)
def spB (t : ByteArray) (n : Int) : ByteArray := t ++ ((⟨#[32]⟩ : ByteArray) ++ decB n.toNat)
def deedText (k a b : Int) : ByteArray :=
  if validDeed k a b then
    let t := if 0 < numbers k then spB (wordOf k) a else wordOf k
    if 1 < numbers k then spB t b else t
  else ⟨#[]⟩
theorem valid_in {k a b : Int} (h : validDeed k a b = true) : (1 ≤ k ∧ k ≤ 9) ∧ (0 ≤ a ∧ a ≤ 999) ∧ (0 ≤ b ∧ b ≤ 999) := by
  unfold validDeed inR at h
  simp only [Bool.and_eq_true, decide_eq_true_eq] at h
  exact ⟨h.1.1.1.1, h.1.1.1.2, h.1.1.2⟩
theorem ba_len (s t : ByteArray) : (s ++ t).size = s.size + t.size := by simp
theorem word_size (k : Int) : (wordOf k).size ≤ 7 := by
  unfold wordOf
  repeat' split
  all_goals decide
theorem sp_size {t : ByteArray} {n : Int} (hn : 0 ≤ n ∧ n ≤ 999) : (spB t n).size ≤ t.size + 21 := by
  unfold spB
  have := decB_size (m := n.toNat) (by omega)
  rw [ba_len, ba_len, one_size]; omega
theorem sp_ok {t : ByteArray} {n : Int} (hn : 0 ≤ n ∧ n ≤ 999) (ht : t.size ≤ 100) {p : Prop} (H : p) : ((ByteArray.size (⟨#[32]⟩ : ByteArray) + ByteArray.size (decB n.toNat) : Nat) : Int) ≤ 9223372036854775807 ∧ (((ByteArray.size t + ByteArray.size ((⟨#[32]⟩ : ByteArray) ++ decB n.toNat) : Nat) : Int) ≤ 9223372036854775807 ∧ p) := by
  have := decB_size (m := n.toNat) (by omega)
  rw [ba_len, one_size]
  exact ⟨by omega, by omega, H⟩
def namesV : Array Value := ⟨[.string (⟨#[]⟩ : ByteArray), .string (⟨#[103, 105, 118, 101]⟩ : ByteArray), .string (⟨#[119, 111, 114, 107]⟩ : ByteArray), .string (⟨#[100, 101, 108, 105, 118, 101, 114]⟩ : ByteArray), .string (⟨#[99, 111, 112, 121]⟩ : ByteArray), .string (⟨#[100, 114, 111, 112]⟩ : ByteArray), .string (⟨#[115, 112, 111, 105, 108]⟩ : ByteArray), .string (⟨#[115, 121, 110, 99]⟩ : ByteArray), .string (⟨#[99, 114, 97, 115, 104]⟩ : ByteArray), .string (⟨#[113, 117, 105, 116]⟩ : ByteArray)]⟩
theorem names_get {k : Int} (h : 1 ≤ k ∧ k ≤ 9) : namesV[k.toNat]? = some (.string (wordOf k)) := by
  rcases (show k = 1 ∨ k = 2 ∨ k = 3 ∨ k = 4 ∨ k = 5 ∨ k = 6 ∨ k = 7 ∨ k = 8 ∨ k = 9 by omega) with rfl | rfl | rfl | rfl | rfl | rfl | rfl | rfl | rfl <;> rfl
section
variable {h : Heap} {k a b : Int}
theorem l10Names_c {h0 h : Heap} {L : List Blk} {K : Value → Heap → Prop} (M : Mem h0 h L) (H : ∀ g h', Mem h0 h' ((g, T_string, namesV) :: L) → K (.slice (some ⟨g, 0, none⟩) 10 10) h') : CALL prg f_spec_l10Names #[] K h :=
  spec_l10Names.call (M.alc fun g h' x M => H g h' M)
theorem spec_DeedText_c : CALL prg f_spec_DeedText #[.agg (dd k a b)] (fun u h' => u = .string (deedText k a b) ∧ Ext h h') h := by
  refine spec_DeedText.call ((Mem.start h).alc fun g1 h1 x1 M => M.lda0 .here rfl (goM M (spec_ValidDeed_c k a b _) fun h2 M => as_b (brn (fun hb => ⟨by unfold deedText; rw [hb]; rfl, M.ext⟩) fun hb => ?_)))
  obtain ⟨hk, ha, hb2⟩ := valid_in hb
  have ht : deedText k a b = (let t := if 0 < numbers k then spB (wordOf k) a else wordOf k; if 1 < numbers k then spB t b else t) := by unfold deedText; rw [hb]; rfl
  refine M.oI (cs := dd k a b) .here rfl (l10Names_c M fun g3 h3 M3 => as_l ?_)
  refine M.pin2 .here M3 (.there .here) (idxs (by omega) (by show k < 10; omega) ?_)
  rw [add_g, Nat.mul_one]
  have e1 : (0 : Nat) + k.toNat = k.toNat := Nat.zero_add _
  refine M3.oS (cs := namesV) .here (names_get hk) (M3.oI (cs := dd k a b) (.there .here) rfl (goM M3 (l10Numbers_c k _) fun h4 M => as_i ?_))
  have J : ∀ {t : ByteArray} {hh : Heap}, t.size ≤ 50 → (if 1 < numbers k then spB t b else t) = deedText k a b → Mem h hh [(g3, T_string, namesV), (g1, T_impl_Deed, dd k a b)] → spec_DeedText.J6 (fun u h' => u = .string (deedText k a b) ∧ Ext h h') ⟨g1, 0, none⟩ t hh := fun {t hh} hs e M => by
    unfold spec_DeedText.J6
    refine M.oI (cs := dd k a b) (j := 0) (.there .here) rfl (goM M (l10Numbers_c k _) fun h5 M => as_i (brd (fun hc => ?_) fun hc => ⟨by rw [← e, if_neg hc], M.ext⟩))
    rw [add_g]
    refine M.oI (cs := dd k a b) (j := 2) (.there .here) rfl ?_
    obtain ⟨m, rfl⟩ := Int.eq_ofNat_of_zero_le hb2.1
    refine goM M (spec_Decimal_c m (by omega) _) fun h6 M => as_s (sp_ok (n := (m : Int)) hb2 (by omega) ⟨?_, M.ext⟩)
    rw [← e, if_pos hc]; rfl
  refine brd (fun hc => ?_) fun hc => ?_
  · refine M.oI (cs := dd k a b) (j := 1) (.there .here) rfl ?_
    obtain ⟨m, rfl⟩ := Int.eq_ofNat_of_zero_le ha.1
    have ws := word_size k
    refine goM M (spec_Decimal_c m (by omega) _) fun h6 M => as_s (sp_ok (n := (m : Int)) ha (by omega) (J (t := spB (wordOf k) (m : Int)) ?_ ?_ M))
    · have := sp_size (t := wordOf k) ha; omega
    · rw [ht]; dsimp only; rw [if_pos hc]
  · have ws := word_size k
    exact J (by omega) (by rw [ht]; dsimp only; rw [if_neg hc]) M
theorem impl_DeedText_c (T : Tens h) : CALL prg f_impl_DeedText #[.agg (dd k a b)] (fun u h' => u = .string (deedText k a b) ∧ Ext h h') h := by
  refine impl_DeedText.call ((Mem.start h).alc fun g1 h1 x1 M => M.lda0 .here rfl (goM M (impl_ValidDeed_c k a b _) fun h2 M => as_b (brn (fun hb => ⟨by unfold deedText; rw [hb]; rfl, M.ext⟩) fun hb => ?_)))
  obtain ⟨hk, ha, hb2⟩ := valid_in hb
  have ht : deedText k a b = (let t := if 0 < numbers k then spB (wordOf k) a else wordOf k; if 1 < numbers k then spB t b else t) := by unfold deedText; rw [hb]; rfl
  have hn : wordN k = numbers k := by unfold wordN; rw [if_pos hk]
  have hnr : 0 ≤ numbers k ∧ numbers k ≤ 2 := by unfold numbers; split <;> first | omega | (split <;> omega)
  refine M.oI (cs := dd k a b) (j := 0) .here rfl (goM M (deedWord_c k _) fun h3 M => tup2 (as_s (as_i ?_)))
  rw [hn]
  refine M.oI (cs := dd k a b) (j := 1) .here rfl (M.oI (cs := dd k a b) (j := 2) .here rfl (M.alc fun g16 h4 x4 M => slb (by omega) (by omega) (by omega) ?_))
  obtain ⟨N, hN⟩ := Int.eq_ofNat_of_zero_le hnr.1
  rw [hN] at ht hnr ⊢
  simp only [Int.toNat_natCast, Nat.sub_zero]
  have es : slA (some ⟨g16, 0, none⟩) 2 0 1 = some ⟨g16, 0, none⟩ := rfl
  rw [es]
  have ws := word_size k
  refine loop (fun y hh => ∃ (i : Nat) (t : ByteArray), y = (t, some ⟨g16, 0, none⟩, N, 2, (N : Int), (i : Int)) ∧ i ≤ N ∧ t.size ≤ 7 + 21 * i ∧ t = (if i = 0 then wordOf k else if i = 1 then spB (wordOf k) a else spB (spB (wordOf k) a) b) ∧ Mem h hh [(g16, T_int64, ⟨[.int .i64 a, .int .i64 b]⟩), (g1, T_impl_Deed, dd k a b)]) (fun y => (N - y.2.2.2.2.2).toNat)
    ⟨0, wordOf k, by simp, by omega, by omega, rfl, M⟩ ?_
  rintro y hh ⟨i, t, rfl, hi, hs, e, M⟩
  refine brd (fun hc => ?_) fun hc => ?_
  · refine idxs (by omega) (by omega) ?_
    rw [add_g, Nat.mul_one, Int.toNat_natCast]
    rcases (show i = 0 ∨ i = 1 by omega) with rfl | rfl
    · refine M.oI (cs := ⟨[.int .i64 a, .int .i64 b]⟩) .here rfl ?_
      obtain ⟨m, rfl⟩ := Int.eq_ofNat_of_zero_le ha.1
      refine goM M (decimal_c (m := m) (by omega) (T.ext M.ext)) fun h6 M => as_s (sp_ok (n := (m : Int)) ha (by omega) ⟨⟨1, spB t (m : Int), by rw [wrap64_succ (by omega)]; rfl, by omega, ?_, ?_, M⟩, by rw [wrap64_succ (by omega)]; show _ < _; simp; omega⟩)
      · have := sp_size (t := t) ha; omega
      · rw [e]; rfl
    · refine M.oI (cs := ⟨[.int .i64 a, .int .i64 b]⟩) .here rfl ?_
      obtain ⟨m, rfl⟩ := Int.eq_ofNat_of_zero_le hb2.1
      refine goM M (decimal_c (m := m) (by omega) (T.ext M.ext)) fun h6 M => as_s (sp_ok (n := (m : Int)) hb2 (by omega) ⟨⟨2, spB t (m : Int), by rw [wrap64_succ (by omega)]; rfl, by omega, ?_, ?_, M⟩, by rw [wrap64_succ (by omega)]; show _ < _; simp; omega⟩)
      · have := sp_size (t := t) hb2; omega
      · rw [e]; rfl
  · obtain rfl : i = N := by omega
    refine ⟨?_, M.ext⟩
    rw [e, ht]
    congr 1
    rcases (show i = 0 ∨ i = 1 ∨ i = 2 by omega) with rfl | rfl | rfl <;> rfl
end
end Go.Sx
