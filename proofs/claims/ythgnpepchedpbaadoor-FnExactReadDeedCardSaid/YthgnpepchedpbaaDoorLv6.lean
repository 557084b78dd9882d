/- Texts cut and deeds read: the rule's. -/
import Derived.Test.YthgnpepchedpbaaDoorLv5
import Derived.Test.YthgnpepchedpbaaDoorLv3
import Derived.Test.YthgnpepchedpbaaDoorLps
import Derived.Test.YthgnpepchedpbaaDoorReadDeed
set_option linter.unusedVariables false
set_option linter.unusedSimpArgs false
namespace Go.Sx
open Go.Proofs
set_option maxRecDepth 100000
set_option maxHeartbeats 1000000

section
variable {h : Heap}
theorem ext_mk (s : ByteArray) (a b : Nat) : s.extract a b = mkB ((s.data.toList.drop a).take (b - a)) := by rw [← mkB_list (s.extract a b), Lib.extract_data]
theorem ext_end (s : ByteArray) (a : Nat) : s.extract a s.size = mkB (s.data.toList.drop a) := by rw [← mkB_list (s.extract a s.size), Lib.extract_to_end]
theorem mk_size (l : List UInt8) : (mkB l).size = l.length := by simp [ByteArray.size]
theorem str_ow {s : ByteArray} (h : s.size ≤ maxLen) : rS.ow [] [.string s] s := ⟨rfl, rfl, h⟩
theorem l01Split_c {s : ByteArray} {c : UInt8} (hs : s.size ≤ 1048576) : CALL prg f_spec_l01Split #[.string s, .int .u8 (c.toNat : Int)] (fun u h' => ∃ b l k B, u = .slice b l k ∧ SlO T_string rS B b l k ((cutL c s.data.toList).map mkB) ∧ Mem h h' B) h := by
  have hl := Lib.size_eq s
  have hm : (1048578 : Nat) ≤ maxLen := by decide
  refine spec_l01Split.call ((Mem.start h).alc fun g1 h1 x1 M => ?_)
  refine loop (fun y hh => ∃ (i fr : Nat) (done : List (List UInt8)) (b : Option Addr) (k : Nat) (B : List Blk), y = (s, (c.toNat : Int), b, done.length, k, (fr : Int), (i : Int)) ∧ fr ≤ i ∧ i ≤ s.size ∧ done.length ≤ fr ∧
      cutL c s.data.toList = done ++ cutL c (s.data.toList.drop fr) ∧ (∀ j, fr ≤ j → j < i → s.data.toList[j]? ≠ some c) ∧ SlO T_string rS B b done.length k (done.map mkB) ∧ Mem h hh B) (fun y => (s.size - y.2.2.2.2.2.2).toNat)
    ⟨0, 0, [], _, _, _, rfl, by omega, by omega, by simp, by simp, fun j h1 h2 => by omega, SlO.empty g1, M⟩ ?_
  rintro y hh ⟨i, fr, done, b, k, B, rfl, h1, h2, h3, hc, hn, O, M⟩
  refine brd (fun hlt => ?_) fun hlt => ?_
  · obtain ⟨hj, hb⟩ := byte_get (s := s) (i := i) (by omega)
    refine idx (by omega) (by omega) ?_
    rw [hb]
    refine br (fun e => ?_) fun e => ?_
    · have e : s.data.toList[i] = c := by
        have k : ((s.data.toList[i]).toNat : Int) = (c.toNat : Int) := by simpa using e
        exact UInt8.toNat_inj.1 (by omega)
      have hi : s.data.toList[i]? = some c := by rw [List.getElem?_eq_getElem hj, e]
      have f1 : (s.data.toList.drop fr)[i - fr]? = some c := by rw [List.getElem?_drop, show fr + (i - fr) = i by omega, hi]
      have f2 : ∀ q, q < i - fr → (s.data.toList.drop fr)[q]? ≠ some c := fun q hq => by rw [List.getElem?_drop]; exact hn _ (by omega) (by omega)
      obtain ⟨g1', g2⟩ := split_at f1 f2
      have ec : cutL c (s.data.toList.drop fr) = (s.data.toList.drop fr).take (i - fr) :: cutL c (s.data.toList.drop (i + 1)) := by
        conv => lhs; rw [g1']
        rw [cut_pre g2, List.drop_drop, show fr + (i - fr + 1) = i + 1 by omega]
      refine slb (by omega) (by omega) (by omega) ?_
      simp only [Int.toNat_natCast]
      have sz : (s.extract fr i).size ≤ maxLen := by
        rw [ext_mk, mk_size, List.length_take, List.length_drop]; omega
      refine push_own (Bn := []) (L := []) (x := s.extract fr i) E_sl_string O (M.cnt fun p => by simp only [cnt_app, cnt_nil]; omega) (str_ow sz) (by omega) (by omega) fun b' c' h' B' O' M' => as_l ?_
      refine ⟨⟨i + 1, i + 1, done ++ [(s.data.toList.drop fr).take (i - fr)], b', c', B', by rw [wrap64_succ (by omega), List.length_append]; rfl, by omega, by omega, by rw [List.length_append, List.length_singleton]; omega, by rw [hc, ec, List.append_assoc]; rfl, fun j h1 h2 => by omega, ?_, M'.cnt fun p => by simp only [cnt_app, cnt_nil]; omega⟩, by rw [wrap64_succ (by omega)]; show _ < _; simp; omega⟩
      rw [List.map_append, List.length_append, List.map_singleton, ← ext_mk]
      exact O'
    · have e : s.data.toList[i] ≠ c := fun k => by rw [k] at e; simp at e
      refine ⟨⟨i + 1, fr, done, b, k, B, by rw [wrap64_succ (by omega)], by omega, by omega, h3, hc, fun j k1 k2 => ?_, O, M⟩, by rw [wrap64_succ (by omega)]; show _ < _; simp; omega⟩
      rcases Nat.lt_or_ge j i with hji | hji
      · exact hn j k1 hji
      · obtain rfl : j = i := by omega
        rw [List.getElem?_eq_getElem hj]
        exact fun k => e (Option.some.inj k)
  · obtain rfl : i = s.size := by omega
    have ec : cutL c (s.data.toList.drop fr) = [s.data.toList.drop fr] := cut_none (no_byte fun q => by
      rw [List.getElem?_drop]
      by_cases hq : fr + q < s.size
      · exact hn _ (by omega) hq
      · rw [List.getElem?_eq_none (by omega)]; exact fun k => nomatch k)
    refine slb (by omega) (by omega) (by omega) ?_
    simp only [Int.toNat_natCast]
    have sz : (s.extract fr s.size).size ≤ maxLen := by
      rw [ext_end, mk_size, List.length_drop]; omega
    refine push_own (Bn := []) (L := []) (x := s.extract fr s.size) E_sl_string O (M.cnt fun p => by simp only [cnt_app, cnt_nil]; omega) (str_ow sz) (by omega) (by omega) fun b' c' h' B' O' M' => as_l ⟨b', _, c', B', rfl, ?_, M'.cnt fun p => by simp only [cnt_app, cnt_nil]; omega⟩
    rw [hc, ec, List.map_append, List.map_singleton, ← ext_end]
    exact O'
end
theorem no32 (k : Int) : ∀ x ∈ (wordOf k).data.toList, x ≠ 32 := by
  unfold wordOf
  repeat' split
  all_goals decide
theorem word_inj {k j : Int} (hk : 1 ≤ k ∧ k ≤ 9) (hj : 1 ≤ j ∧ j ≤ 9) (e : wordOf k = wordOf j) : k = j := by
  rcases (show k = 1 ∨ k = 2 ∨ k = 3 ∨ k = 4 ∨ k = 5 ∨ k = 6 ∨ k = 7 ∨ k = 8 ∨ k = 9 by omega) with rfl | rfl | rfl | rfl | rfl | rfl | rfl | rfl | rfl <;>
  rcases (show j = 1 ∨ j = 2 ∨ j = 3 ∨ j = 4 ∨ j = 5 ∨ j = 6 ∨ j = 7 ∨ j = 8 ∨ j = 9 by omega) with rfl | rfl | rfl | rfl | rfl | rfl | rfl | rfl | rfl <;>
  first | rfl | exact absurd e (by decide)
theorem word_ne' {k : Int} (hk : 1 ≤ k ∧ k ≤ 9) : wordOf k ≠ ⟨#[]⟩ := by
  rcases (show k = 1 ∨ k = 2 ∨ k = 3 ∨ k = 4 ∨ k = 5 ∨ k = 6 ∨ k = 7 ∨ k = 8 ∨ k = 9 by omega) with rfl | rfl | rfl | rfl | rfl | rfl | rfl | rfl | rfl <;> decide
theorem decB_data (m : Nat) : (decB m).data.toList = Lib.decDigits m := by unfold decB; simp
theorem spB_data (t : ByteArray) (n : Int) : (spB t n).data.toList = t.data.toList ++ 32 :: Lib.decDigits n.toNat := by
  unfold spB
  rw [ByteArray.data_append, ByteArray.data_append, Array.toList_append, Array.toList_append, decB_data]
  rfl
theorem dec32 (m : Nat) : ∀ x ∈ Lib.decDigits m, x ≠ 32 := dec_no m (.inl (by decide))
/-- The pieces of a valid deed's text. -/
def pieces (k a b : Int) : List (List UInt8) :=
  (wordOf k).data.toList :: ((if 0 < numbers k then [Lib.decDigits a.toNat] else []) ++ if 1 < numbers k then [Lib.decDigits b.toNat] else [])
theorem num_le (k : Int) : 1 < numbers k → 0 < numbers k := by omega
theorem cut_text {k a b : Int} (h : validDeed k a b = true) : cutL 32 (deedText k a b).data.toList = pieces k a b := by
  unfold deedText pieces
  rw [h, if_pos rfl]
  dsimp only
  by_cases h0 : 0 < numbers k
  · rw [if_pos h0, if_pos h0]
    by_cases h1 : 1 < numbers k
    · rw [if_pos h1, if_pos h1, spB_data, spB_data, List.append_assoc, List.cons_append, cut_pre (no32 k), cut_pre (dec32 _), cut_none (dec32 _)]; rfl
    · rw [if_neg h1, if_neg h1, spB_data, cut_pre (no32 k), cut_none (dec32 _)]; rfl
  · rw [if_neg h0, if_neg h0, if_neg (by omega), if_neg (by omega), cut_none (no32 k)]; rfl
theorem valid_zero {k a b : Int} (h : validDeed k a b = true) : (¬ 0 < numbers k → a = 0) ∧ (¬ 1 < numbers k → b = 0) := by
  unfold validDeed at h
  simp only [Bool.and_eq_true, Bool.or_eq_true, decide_eq_true_eq, beq_iff_eq] at h
  exact ⟨fun h0 => h.1.2.resolve_left h0, fun h1 => h.2.resolve_left h1⟩
theorem dec_small {n : Int} (h : 0 ≤ n ∧ n ≤ 999) : (decB n.toNat).size ≤ 3 := by
  show (Lib.decDigits n.toNat).toArray.size ≤ 3
  rw [List.size_toArray, Lib.decDigits_length]
  exact nDig_le 2 _ (by omega)
theorem text_small {k a b : Int} (h : validDeed k a b = true) : (deedText k a b).size ≤ 40 := by
  obtain ⟨hk, ha, hb⟩ := valid_in h
  have w := word_size k
  have d1 := dec_small ha
  have d2 := dec_small hb
  unfold deedText
  rw [h, if_pos rfl]
  dsimp only
  by_cases h0 : 0 < numbers k <;> by_cases h1 : 1 < numbers k
  · rw [if_pos h0, if_pos h1]; unfold spB; rw [ba_len, ba_len, ba_len, ba_len, one_size]; omega
  · rw [if_pos h0, if_neg h1]; unfold spB; rw [ba_len, ba_len, one_size]; omega
  · omega
  · rw [if_neg h0, if_neg h1]; omega
/-- Texts that are no valid deed's are empty. -/
theorem invalid_text {k a b : Int} (h : validDeed k a b = false) : deedText k a b = ⟨#[]⟩ := by unfold deedText; rw [h]; rfl
theorem text_inj {k a b k' a' b' : Int} (h : validDeed k a b = true) (h' : validDeed k' a' b' = true) (e : deedText k a b = deedText k' a' b') : k = k' ∧ a = a' ∧ b = b' := by
  have c := cut_text h
  rw [e, cut_text h'] at c
  obtain ⟨hk, ha, hb⟩ := valid_in h
  obtain ⟨hk', ha', hb'⟩ := valid_in h'
  unfold pieces at c
  injection c with c1 c2
  have ek : k = k' := by
    refine word_inj hk hk' ?_
    have := congrArg mkB c1
    rw [mkB_list, mkB_list] at this
    exact this.symm
  subst ek
  obtain ⟨z1, z2⟩ := valid_zero h
  obtain ⟨z1', z2'⟩ := valid_zero h'
  refine ⟨rfl, ?_, ?_⟩
  · by_cases h0 : 0 < numbers k
    · rw [if_pos h0, if_pos h0] at c2
      injection c2 with c2 c3
      have := dec_inj c2
      omega
    · rw [z1 h0, z1' h0]
  · by_cases h1 : 1 < numbers k
    · rw [if_pos (num_le k h1), if_pos (num_le k h1), if_pos h1, if_pos h1] at c2
      injection c2 with c2 c3
      injection c3 with c3 c4
      have := dec_inj c3
      omega
    · rw [z2 h1, z2' h1]
/-- What reading a text gives. -/
def Read (text : ByteArray) (u : Value) : Prop :=
  (∃ k a b, validDeed k a b = true ∧ deedText k a b = text ∧ u = .tuple ⟨[.agg (dd k a b), .int .i64 (0 : Int)]⟩) ∨ ((∀ k a b, validDeed k a b = true → deedText k a b ≠ text) ∧ u = .tuple ⟨[.agg (dd 0 0 0), .int .i64 (5 : Int)]⟩)
theorem Read.same {text : ByteArray} {u v : Value} (h : Read text u) (h' : Read text v) : ∃ k a b c, u = .tuple ⟨[.agg (dd k a b), .int .i64 c]⟩ ∧ v = .tuple ⟨[.agg (dd k a b), .int .i64 c]⟩ := by
  rcases h with ⟨k, a, b, hv, ht, rfl⟩ | ⟨hn, rfl⟩
  · rcases h' with ⟨k', a', b', hv', ht', rfl⟩ | ⟨hn', rfl⟩
    · obtain ⟨rfl, rfl, rfl⟩ := text_inj hv hv' (ht.trans ht'.symm)
      exact ⟨_, _, _, _, rfl, rfl⟩
    · exact absurd ht (hn' _ _ _ hv)
  · rcases h' with ⟨k', a', b', hv', ht', rfl⟩ | ⟨hn', rfl⟩
    · exact absurd ht' (hn _ _ _ hv')
    · exact ⟨_, _, _, _, rfl, rfl⟩
end Go.Sx
