/- Texts cut and deeds read: the rule's. -/
import Derived.Test.YtnhcoeogejgidabGreatDoorLv2
import Derived.Test.YtnhcoeogejgidabGreatDoorLk0
import Derived.Test.YtnhcoeogejgidabGreatDoorTab
set_option linter.unusedVariables false
set_option linter.unusedSimpArgs false
namespace Go.Sx
open Go.Proofs
set_option maxRecDepth 100000
set_option maxHeartbeats 1000000

section
variable {h : Heap}
theorem ext_mk (s : ByteArray) (a b : Nat) : s.extract a b = mkB ((s.data.toList.drop a).take (b - a)) := by rw [← mkB_list (s.extract a b), Lib.extract_data]
theorem ext_end (s : ByteArray) (a : Nat) : s.extract a s.size = mkB (s.data.toList.drop a) := by rw [← mkB_list (s.extract a s.size), Lib.extract_to_end]
theorem mk_size (l : List UInt8) : (mkB l).size = l.length := by simp [ByteArray.size]
theorem str_ow {s : ByteArray} (h : s.size ≤ maxLen) : rS.ow [] [.string s] s := ⟨rfl, rfl, h⟩
theorem l01Split_c {s : ByteArray} {c : UInt8} (hs : s.size ≤ 1048576) : CALL prg f_spec_l01Split #[.string s, .int .u8 (c.toNat : Int)] (fun u h' => ∃ b l k B, u = .slice b l k ∧ SlO T_string rS B b l k ((cutL c s.data.toList).map mkB) ∧ Mem h h' B) h := by
  have hl := Lib.size_eq s
  have hm : (1048578 : Nat) ≤ maxLen := by decide
  refine spec_l01Split.call ((Mem.start h).alc fun g1 h1 x1 M => ?_)
  refine loop (fun y hh => ∃ (i fr : Nat) (done : List (List UInt8)) (b : Option Addr) (k : Nat) (B : List Blk), y = (s, (c.toNat : Int), b, done.length, k, (fr : Int), (i : Int)) ∧ fr ≤ i ∧ i ≤ s.size ∧ done.length ≤ fr ∧
      cutL c s.data.toList = done ++ cutL c (s.data.toList.drop fr) ∧ (∀ j, fr ≤ j → j < i → s.data.toList[j]? ≠ some c) ∧ SlO T_string rS B b done.length k (done.map mkB) ∧ Mem h hh B) (fun y => (s.size - y.2.2.2.2.2.2).toNat)
    ⟨0, 0, [], _, _, _, rfl, by omega, by omega, by simp, by simp, fun j h1 h2 => by omega, SlO.empty g1, M⟩ ?_
  rintro y hh ⟨i, fr, done, b, k, B, rfl, h1, h2, h3, hc, hn, O, M⟩
  refine brd (fun hlt => ?_) fun hlt => ?_
  · obtain ⟨hj, hb⟩ := byte_get (s := s) (i := i) (by omega)
    refine idx (by omega) (by omega) ?_
    rw [hb]
    refine br (fun e => ?_) fun e => ?_
    · have e : s.data.toList[i] = c := by
        have k : ((s.data.toList[i]).toNat : Int) = (c.toNat : Int) := by simpa using e
        exact UInt8.toNat_inj.1 (by omega)
      have hi : s.data.toList[i]? = some c := by rw [List.getElem?_eq_getElem hj, e]
      have f1 : (s.data.toList.drop fr)[i - fr]? = some c := by rw [List.getElem?_drop, show fr + (i - fr) = i by omega, hi]
      have f2 : ∀ q, q < i - fr → (s.data.toList.drop fr)[q]? ≠ some c := fun q hq => by rw [List.getElem?_drop]; exact hn _ (by omega) (by omega)
      obtain ⟨g1', g2⟩ := split_at f1 f2
      have ec : cutL c (s.data.toList.drop fr) = (s.data.toList.drop fr).take (i - fr) :: cutL c (s.data.toList.drop (i + 1)) := by
        conv => lhs; rw [g1']
        rw [cut_pre g2, List.drop_drop, show fr + (i - fr + 1) = i + 1 by omega]
      refine slb (by omega) (by omega) (by omega) ?_
      simp only [Int.toNat_natCast]
      have sz : (s.extract fr i).size ≤ maxLen := by
        rw [ext_mk, mk_size, List.length_take, List.length_drop]; omega
      refine push_own (Bn := []) (L := []) (x := s.extract fr i) E_sl_string O (M.cnt fun p => by simp only [cnt_app, cnt_nil]; omega) (str_ow sz) (by omega) (by omega) fun b' c' h' B' O' M' => as_l ?_
      refine ⟨⟨i + 1, i + 1, done ++ [(s.data.toList.drop fr).take (i - fr)], b', c', B', by rw [wrap64_succ (by omega), List.length_append]; rfl, by omega, by omega, by rw [List.length_append, List.length_singleton]; omega, by rw [hc, ec, List.append_assoc]; rfl, fun j h1 h2 => by omega, ?_, M'.cnt fun p => by simp only [cnt_app, cnt_nil]; omega⟩, by rw [wrap64_succ (by omega)]; show _ < _; simp; omega⟩
      rw [List.map_append, List.length_append, List.map_singleton, ← ext_mk]
      exact O'
    · have e : s.data.toList[i] ≠ c := fun k => by rw [k] at e; simp at e
      refine ⟨⟨i + 1, fr, done, b, k, B, by rw [wrap64_succ (by omega)], by omega, by omega, h3, hc, fun j k1 k2 => ?_, O, M⟩, by rw [wrap64_succ (by omega)]; show _ < _; simp; omega⟩
      rcases Nat.lt_or_ge j i with hji | hji
      · exact hn j k1 hji
      · obtain rfl : j = i := by omega
        rw [List.getElem?_eq_getElem hj]
        exact fun k => e (Option.some.inj k)
  · obtain rfl : i = s.size := by omega
    have ec : cutL c (s.data.toList.drop fr) = [s.data.toList.drop fr] := cut_none (no_byte fun q => by
      rw [List.getElem?_drop]
      by_cases hq : fr + q < s.size
      · exact hn _ (by omega) hq
      · rw [List.getElem?_eq_none (by omega)]; exact fun k => nomatch k)
    refine slb (by omega) (by omega) (by omega) ?_
    simp only [Int.toNat_natCast]
    have sz : (s.extract fr s.size).size ≤ maxLen := by
      rw [ext_end, mk_size, List.length_drop]; omega
    refine push_own (Bn := []) (L := []) (x := s.extract fr s.size) E_sl_string O (M.cnt fun p => by simp only [cnt_app, cnt_nil]; omega) (str_ow sz) (by omega) (by omega) fun b' c' h' B' O' M' => as_l ⟨b', _, c', B', rfl, ?_, M'.cnt fun p => by simp only [cnt_app, cnt_nil]; omega⟩
    rw [hc, ec, List.map_append, List.map_singleton, ← ext_end]
    exact O'
end
theorem no32 (k : Int) : ∀ x ∈ (wordOf k).data.toList, x ≠ 32 := by
  unfold wordOf
  repeat' split
  all_goals decide
theorem word_inj {k j : Int} (hk : 1 ≤ k ∧ k ≤ 9) (hj : 1 ≤ j ∧ j ≤ 9) (e : wordOf k = wordOf j) : k = j := by
  rcases (show k = 1 ∨ k = 2 ∨ k = 3 ∨ k = 4 ∨ k = 5 ∨ k = 6 ∨ k = 7 ∨ k = 8 ∨ k = 9 by omega) with rfl | rfl | rfl | rfl | rfl | rfl | rfl | rfl | rfl <;>
  rcases (show j = 1 ∨ j = 2 ∨ j = 3 ∨ j = 4 ∨ j = 5 ∨ j = 6 ∨ j = 7 ∨ j = 8 ∨ j = 9 by omega) with rfl | rfl | rfl | rfl | rfl | rfl | rfl | rfl | rfl <;>
  first | rfl | exact absurd e (by decide)
theorem decB_data (m : Nat) : (decB m).data.toList = Lib.decDigits m := by unfold decB; simp
theorem spB_data (t : ByteArray) (n : Int) : (spB t n).data.toList = t.data.toList ++ 32 :: Lib.decDigits n.toNat := by
  unfold spB
  rw [ByteArray.data_append, ByteArray.data_append, Array.toList_append, Array.toList_append, decB_data]
  rfl
theorem dec32 (m : Nat) : ∀ x ∈ Lib.decDigits m, x ≠ 32 := dec_no m (.inl (by decide))
/-- The pieces of a valid deed's text. -/
def pieces (k a b : Int) : List (List UInt8) :=
  (wordOf k).data.toList :: ((if 0 < numbers k then [Lib.decDigits a.toNat] else []) ++ if 1 < numbers k then [Lib.decDigits b.toNat] else [])
theorem num_le (k : Int) : 1 < numbers k → 0 < numbers k := by omega
theorem cut_text {k a b : Int} (h : validDeed k a b = true) : cutL 32 (deedText k a b).data.toList = pieces k a b := by
  unfold deedText pieces
  rw [h, if_pos rfl]
  dsimp only
  by_cases h0 : 0 < numbers k
  · rw [if_pos h0, if_pos h0]
    by_cases h1 : 1 < numbers k
    · rw [if_pos h1, if_pos h1, spB_data, spB_data, List.append_assoc, List.cons_append, cut_pre (no32 k), cut_pre (dec32 _), cut_none (dec32 _)]; rfl
    · rw [if_neg h1, if_neg h1, spB_data, cut_pre (no32 k), cut_none (dec32 _)]; rfl
  · rw [if_neg h0, if_neg h0, if_neg (by omega), if_neg (by omega), cut_none (no32 k)]; rfl
theorem valid_zero {k a b : Int} (h : validDeed k a b = true) : (¬ 0 < numbers k → a = 0) ∧ (¬ 1 < numbers k → b = 0) := by
  unfold validDeed at h
  simp only [Bool.and_eq_true, Bool.or_eq_true, decide_eq_true_eq, beq_iff_eq] at h
  exact ⟨fun h0 => h.1.2.resolve_left h0, fun h1 => h.2.resolve_left h1⟩
theorem text_inj {k a b k' a' b' : Int} (h : validDeed k a b = true) (h' : validDeed k' a' b' = true) (e : deedText k a b = deedText k' a' b') : k = k' ∧ a = a' ∧ b = b' := by
  have c := cut_text h
  rw [e, cut_text h'] at c
  obtain ⟨hk, ha, hb⟩ := valid_in h
  obtain ⟨hk', ha', hb'⟩ := valid_in h'
  unfold pieces at c
  injection c with c1 c2
  have ek : k = k' := by
    refine word_inj hk hk' ?_
    have := congrArg mkB c1
    rw [mkB_list, mkB_list] at this
    exact this.symm
  subst ek
  obtain ⟨z1, z2⟩ := valid_zero h
  obtain ⟨z1', z2'⟩ := valid_zero h'
  refine ⟨rfl, ?_, ?_⟩
  · by_cases h0 : 0 < numbers k
    · rw [if_pos h0, if_pos h0] at c2
      injection c2 with c2 c3
      have := dec_inj c2
      omega
    · rw [z1 h0, z1' h0]
  · by_cases h1 : 1 < numbers k
    · rw [if_pos (num_le k h1), if_pos (num_le k h1), if_pos h1, if_pos h1] at c2
      injection c2 with c2 c3
      injection c3 with c3 c4
      have := dec_inj c3
      omega
    · rw [z2 h1, z2' h1]
/-- What reading a text gives. -/
def Read (text : ByteArray) (u : Value) : Prop :=
  (∃ k a b, validDeed k a b = true ∧ deedText k a b = text ∧ u = .tuple ⟨[.agg (dd k a b), .int .i64 (0 : Int)]⟩) ∨ ((∀ k a b, validDeed k a b = true → deedText k a b ≠ text) ∧ u = .tuple ⟨[.agg (dd 0 0 0), .int .i64 (5 : Int)]⟩)
theorem Read.same {text : ByteArray} {u v : Value} (h : Read text u) (h' : Read text v) : ∃ k a b c, u = .tuple ⟨[.agg (dd k a b), .int .i64 c]⟩ ∧ v = .tuple ⟨[.agg (dd k a b), .int .i64 c]⟩ := by
  rcases h with ⟨k, a, b, hv, ht, rfl⟩ | ⟨hn, rfl⟩
  · rcases h' with ⟨k', a', b', hv', ht', rfl⟩ | ⟨hn', rfl⟩
    · obtain ⟨rfl, rfl, rfl⟩ := text_inj hv hv' (ht.trans ht'.symm)
      exact ⟨_, _, _, _, rfl, rfl⟩
    · exact absurd ht (hn' _ _ _ hv)
  · rcases h' with ⟨k', a', b', hv', ht', rfl⟩ | ⟨hn', rfl⟩
    · exact absurd ht' (hn _ _ _ hv')
    · exact ⟨_, _, _, _, rfl, rfl⟩
end Go.Sx
/- What functions of this seat's program compute, told in words (a predicate over heaps for each), and the proofs that the words are no more than the code's own weakest precondition. -/
namespace Go.Sx
open Go.Proofs
set_option linter.unusedVariables false
set_option maxRecDepth 100000

def spec_l08Whole.S (text_0 : ByteArray) (Post : Value → Heap → Prop) (h : Heap) : Prop :=
    BIF ((decide ((6 : Int) < ((ByteArray.size text_0) : Int)))) (
    Post (.tuple ⟨[.int .i64 (0 : Int), .bool false]⟩) h) (
    CALL prg f_spec_l01Number #[.string text_0] (fun q3 h4 =>
    TUP2 q3 fun q5 q6 =>
    asI .i64 q5 fun n7 =>
    asB q6 fun b8 =>
    Post (.tuple ⟨[.int .i64 n7, .bool b8]⟩) h4) h)
noncomputable def spec_l08Whole.code : Code := (Tryz.f42.body).getD .skip
theorem spec_l08Whole.call {text_0 : ByteArray} {Post : Value → Heap → Prop} {h : Heap} (H : spec_l08Whole.S text_0 Post h) : CALL prg f_spec_l08Whole #[.string text_0] Post h :=
  fn_call tau_ok mixed (c := spec_l08Whole.code) (Λ := lookL []) Tryz.func42 (by kernel_rfl) (by kernel_rfl)
    (Rq.free (by kernel_rfl))
    (Eq.mp (by kernel_rfl) H)

def spec_l08Signed.J2 (Post : Value → Heap → Prop) (text_0 : ByteArray) (t13 : Bool) (h : Heap) : Prop :=
    BIF t13 (
    SLB (1 : Int) ((ByteArray.size text_0) : Int) ((ByteArray.size text_0) : Int) <|
    CALL prg f_spec_l08Whole #[.string (ByteArray.extract text_0 1 (ByteArray.size text_0))] (fun q3 h4 =>
    TUP2 q3 fun q5 q6 =>
    asI .i64 q5 fun n7 =>
    asB q6 fun b8 =>
    Post (.tuple ⟨[.int .i64 (IntKind.i64.wrap (0 - n7)), .bool b8]⟩) h4) h) (
    CALL prg f_spec_l08Whole #[.string text_0] (fun q9 h10 =>
    TUP2 q9 fun q11 q12 =>
    asI .i64 q11 fun n13 =>
    asB q12 fun b14 =>
    Post (.tuple ⟨[.int .i64 n13, .bool b14]⟩) h10) h)
def spec_l08Signed.j2 (Post : Value → Heap → Prop) : Frame → Heap → Prop := fun fr h => GRD (shape (kds 27 [(0, .s), (13, .b)]) fr) (spec_l08Signed.J2 Post (gS (lget fr 0)) (gB (lget fr 13)) h)
def spec_l08Signed.S (text_0 : ByteArray) (Post : Value → Heap → Prop) (h : Heap) : Prop :=
    BIF ((decide ((0 : Int) < ((ByteArray.size text_0) : Int)))) (
    IDX (0 : Int) (ByteArray.size text_0) <|
    spec_l08Signed.J2 Post text_0 (((byteAt text_0 (0 : Int)) == (45 : Int))) h) (
    spec_l08Signed.J2 Post text_0 false h)
noncomputable def spec_l08Signed.code : Code := (Tryz.f76.body).getD .skip
theorem spec_l08Signed.call {text_0 : ByteArray} {Post : Value → Heap → Prop} {h : Heap} (H : spec_l08Signed.S text_0 Post h) : CALL prg f_spec_l08Signed #[.string text_0] Post h :=
  fn_call tau_ok mixed (c := spec_l08Signed.code) (Λ := lookL [(2, spec_l08Signed.j2 Post)]) Tryz.func76 (by kernel_rfl) (by kernel_rfl)
    (Rq.seq (by kernel_rfl) (Rq.free (by kernel_rfl)) (Rq.seq (by kernel_rfl) (Rq.seqJ (spec_l08Signed.j2 Post) (by kernel_rfl) (seg (fun _ _ => by kernel_rfl)) (Rq.free (by kernel_rfl))
(Rq.free (by kernel_rfl))) (Rq.free (by kernel_rfl))))
    (Eq.mp (by kernel_rfl) H)

def spec_l08Fraction.J5 (Post : Value → Heap → Prop) (words_4b : Option Addr) (words_4l : Nat) (words_4c : Nat) (n_5 : Int) (h : Heap) : Prop :=
    BIF ((words_4l : Int) == (1 : Int)) (
    Post (.tuple ⟨[.float .f32 (FloatKind.f32.nearest n_5), .bool true]⟩) h) (
    IDXS words_4b (1 : Int) words_4l fun p16 =>
    oS (cell h (Addr.add p16 1)) fun s17 =>
    CALL prg f_spec_l08Whole #[.string s17] (fun q18 h19 =>
    TUP2 q18 fun q20 q21 =>
    asI .i64 q20 fun n22 =>
    asB q21 fun b23 =>
    BIF (!b23) (
    Post (.tuple ⟨[.float .f32 0, .bool false]⟩) h19) (
    BIF ((decide (n22 < (2 : Int)))) (
    Post (.tuple ⟨[.float .f32 0, .bool false]⟩) h19) (
    BIF ((decide ((1024 : Int) < n22))) (
    Post (.tuple ⟨[.float .f32 0, .bool false]⟩) h19) (
    BIF (((bitI .and .i64 n22 ((IntKind.i64.wrap (n22 - (1 : Int))))) != (0 : Int))) (
    Post (.tuple ⟨[.float .f32 0, .bool false]⟩) h19) (
    FOP .f32 (FloatKind.f32.format.div (FloatKind.f32.nearest n_5) (FloatKind.f32.nearest n22)) fun r24 =>
    Post (.tuple ⟨[.float .f32 r24, .bool true]⟩) h19))))) h)
def spec_l08Fraction.j5 (Post : Value → Heap → Prop) : Frame → Heap → Prop := fun fr h => GRD (shape (kds 59 [(4, .l), (5, .i .i64)]) fr) (spec_l08Fraction.J5 Post (gLb (lget fr 4)) (gLl (lget fr 4)) (gLc (lget fr 4)) (gI (lget fr 5)) h)
def spec_l08Fraction.S (text_0 : ByteArray) (Post : Value → Heap → Prop) (h : Heap) : Prop :=
    CALL prg f_spec_l01Split #[.string text_0, .int .u8 (47 : Int)] (fun q1 h2 =>
    asL q1 fun l3b l3l l3c =>
    IDXS l3b (0 : Int) l3l fun p4 =>
    oS (cell h2 p4) fun s5 =>
    CALL prg f_spec_l08Signed #[.string s5] (fun q6 h7 =>
    TUP2 q6 fun q8 q9 =>
    asI .i64 q8 fun n10 =>
    asB q9 fun b11 =>
    BIF (!b11) (
    Post (.tuple ⟨[.float .f32 0, .bool false]⟩) h7) (
    BIF ((decide ((2 : Int) < (l3l : Int)))) (
    Post (.tuple ⟨[.float .f32 0, .bool false]⟩) h7) (
    spec_l08Fraction.J5 Post l3b l3l l3c n10 h7))) h2) h
noncomputable def spec_l08Fraction.code : Code := (Tryz.f44.body).getD .skip
theorem spec_l08Fraction.call {text_0 : ByteArray} {Post : Value → Heap → Prop} {h : Heap} (H : spec_l08Fraction.S text_0 Post h) : CALL prg f_spec_l08Fraction #[.string text_0] Post h :=
  fn_call tau_ok mixed (c := spec_l08Fraction.code) (Λ := lookL [(5, spec_l08Fraction.j5 Post)]) Tryz.func44 (by kernel_rfl) (by kernel_rfl)
    (Rq.seq (by kernel_rfl) (Rq.free (by kernel_rfl)) (Rq.seq (by kernel_rfl) (Rq.free (by kernel_rfl)) (Rq.seq (by kernel_rfl) (Rq.free (by kernel_rfl)) (Rq.seqJ (spec_l08Fraction.j5 Post) (by kernel_rfl) (seg (fun _ _ => by kernel_rfl)) (Rq.free (by kernel_rfl))
(Rq.free (by kernel_rfl))))))
    (Eq.mp (by kernel_rfl) H)

def impl_readWhole.S (text_0 : ByteArray) (Post : Value → Heap → Prop) (h : Heap) : Prop :=
    CALL prg f_impl_readDecimal #[.string text_0] (fun q1 h2 =>
    TUP2 q1 fun q3 q4 =>
    asI .i64 q3 fun n5 =>
    asB q4 fun b6 =>
    BIF b6 (
    BIF ((decide ((0 : Int) ≤ n5))) (
    Post (.tuple ⟨[.int .i64 n5, .bool ((decide (((ByteArray.size text_0) : Int) ≤ (6 : Int))))]⟩) h2) (
    Post (.tuple ⟨[.int .i64 n5, .bool false]⟩) h2)) (
    Post (.tuple ⟨[.int .i64 n5, .bool false]⟩) h2)) h
noncomputable def impl_readWhole.code : Code := (Tryz.f74.body).getD .skip
theorem impl_readWhole.call {text_0 : ByteArray} {Post : Value → Heap → Prop} {h : Heap} (H : impl_readWhole.S text_0 Post h) : CALL prg f_impl_readWhole #[.string text_0] Post h :=
  fn_call tau_ok mixed (c := impl_readWhole.code) (Λ := lookL []) Tryz.func74 (by kernel_rfl) (by kernel_rfl)
    (Rq.free (by kernel_rfl))
    (Eq.mp (by kernel_rfl) H)

def impl_readSigned.S (text_0 : ByteArray) (Post : Value → Heap → Prop) (h : Heap) : Prop :=
    CALL prg f_strings_CutPrefix #[.string text_0, .string (⟨#[45]⟩ : ByteArray)] (fun q1 h2 =>
    TUP2 q1 fun q3 q4 =>
    asS q3 fun s5 =>
    asB q4 fun b6 =>
    CALL prg f_impl_readWhole #[.string s5] (fun q7 h8 =>
    TUP2 q7 fun q9 q10 =>
    asI .i64 q9 fun n11 =>
    asB q10 fun b12 =>
    BIF b6 (
    Post (.tuple ⟨[.int .i64 (IntKind.i64.wrap (0 - n11)), .bool b12]⟩) h8) (
    Post (.tuple ⟨[.int .i64 n11, .bool b12]⟩) h8)) h2) h
noncomputable def impl_readSigned.code : Code := (Tryz.f73.body).getD .skip
theorem impl_readSigned.call {text_0 : ByteArray} {Post : Value → Heap → Prop} {h : Heap} (H : impl_readSigned.S text_0 Post h) : CALL prg f_impl_readSigned #[.string text_0] Post h :=
  fn_call tau_ok mixed (c := impl_readSigned.code) (Λ := lookL []) Tryz.func73 (by kernel_rfl) (by kernel_rfl)
    (Rq.free (by kernel_rfl))
    (Eq.mp (by kernel_rfl) H)

def impl_readFraction.S (text_0 : ByteArray) (Post : Value → Heap → Prop) (h : Heap) : Prop :=
    CALL prg f_strings_Cut #[.string text_0, .string (⟨#[47]⟩ : ByteArray)] (fun q1 h2 =>
    TUP3 q1 fun q3 q4 q5 =>
    asS q3 fun s6 =>
    asS q4 fun s7 =>
    asB q5 fun b8 =>
    CALL prg f_impl_readSigned #[.string s6] (fun q9 h10 =>
    TUP2 q9 fun q11 q12 =>
    asI .i64 q11 fun n13 =>
    asB q12 fun b14 =>
    BIF (!b8) (
    Post (.tuple ⟨[.float .f32 (FloatKind.f32.nearest n13), .bool b14]⟩) h10) (
    CALL prg f_impl_readWhole #[.string s7] (fun q15 h16 =>
    TUP2 q15 fun q17 q18 =>
    asI .i64 q17 fun n19 =>
    asB q18 fun b20 =>
    BIF (!b14) (
    Post (.tuple ⟨[.float .f32 0, .bool false]⟩) h16) (
    BIF (!b20) (
    Post (.tuple ⟨[.float .f32 0, .bool false]⟩) h16) (
    CALL prg f_impl_within #[.int .i64 n19, .int .i64 (2 : Int), .int .i64 (1024 : Int)] (fun q21 h22 =>
    asB q21 fun b23 =>
    BIF (!b23) (
    Post (.tuple ⟨[.float .f32 0, .bool false]⟩) h22) (
    BIF (((bitI .and .i64 n19 ((IntKind.i64.wrap (n19 - (1 : Int))))) != (0 : Int))) (
    Post (.tuple ⟨[.float .f32 0, .bool false]⟩) h22) (
    FOP .f32 (FloatKind.f32.format.div (FloatKind.f32.nearest n13) (FloatKind.f32.nearest n19)) fun r24 =>
    Post (.tuple ⟨[.float .f32 r24, .bool true]⟩) h22))) h16))) h10)) h2) h
noncomputable def impl_readFraction.code : Code := (Tryz.f39.body).getD .skip
theorem impl_readFraction.call {text_0 : ByteArray} {Post : Value → Heap → Prop} {h : Heap} (H : impl_readFraction.S text_0 Post h) : CALL prg f_impl_readFraction #[.string text_0] Post h :=
  fn_call tau_ok mixed (c := impl_readFraction.code) (Λ := lookL []) Tryz.func39 (by kernel_rfl) (by kernel_rfl)
    (Rq.free (by kernel_rfl))
    (Eq.mp (by kernel_rfl) H)

def impl_length_string.S (list_0b : Option Addr) (list_0l list_0c : Nat) (Post : Value → Heap → Prop) (h : Heap) : Prop :=
    Post (.int .i64 (list_0l : Int)) h
noncomputable def impl_length_string.code : Code := (Tryz.f22.body).getD .skip
theorem impl_length_string.call {list_0b : Option Addr} {list_0l list_0c : Nat} {Post : Value → Heap → Prop} {h : Heap} (H : impl_length_string.S list_0b list_0l list_0c Post h) : CALL prg f_impl_length_string #[.slice list_0b list_0l list_0c] Post h :=
  fn_call tau_ok mixed (c := impl_length_string.code) (Λ := lookL []) Tryz.func22 (by kernel_rfl) (by kernel_rfl)
    (Rq.free (by kernel_rfl))
    (Eq.mp (by kernel_rfl) H)

end Go.Sx
