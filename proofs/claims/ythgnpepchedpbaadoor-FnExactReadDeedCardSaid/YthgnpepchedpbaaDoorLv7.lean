/- Deeds read: the rule's. -/
import Derived.Test.YthgnpepchedpbaaDoorLv6
set_option linter.unusedVariables false
set_option linter.unusedSimpArgs false
namespace Go.Sx
open Go.Proofs
set_option maxRecDepth 100000
set_option maxHeartbeats 2000000

/-- The words of a text, two empty ones behind. -/
def wordsOf (text : ByteArray) : List ByteArray := (cutL 32 text.data.toList).map mkB ++ [⟨#[]⟩, ⟨#[]⟩]
theorem words_hit {text : ByteArray} {k a b : Int} (h : validDeed k a b = true) (e : deedText k a b = text) :
    (wordsOf text)[0]! = wordOf k ∧ (0 < numbers k → (wordsOf text)[1]! = decB a.toNat) ∧ (1 < numbers k → (wordsOf text)[2]! = decB b.toNat) := by
  subst e
  unfold wordsOf
  rw [cut_text h]
  unfold pieces
  refine ⟨?_, fun h0 => ?_, fun h1 => ?_⟩
  · rw [List.map_cons, mkB_list]; rfl
  · rw [if_pos h0]; rfl
  · rw [if_pos (num_le k h1), if_pos h1]; rfl
theorem num_hit {k a b : Int} {w : ByteArray} (h : validDeed k a b = true) : (w = decB a.toNat → numL w.data.toList = some a.toNat) ∧ (w = decB b.toNat → numL w.data.toList = some b.toNat) := by
  obtain ⟨hk, ha, hb⟩ := valid_in h
  refine ⟨fun e => ?_, fun e => ?_⟩ <;> subst e <;> rw [decB_data] <;> exact numL_dec (by omega)
theorem text_ne {text : ByteArray} {k : Int} (hk : 1 ≤ k ∧ k ≤ 9) (e : (wordsOf text)[0]! = wordOf k) : text ≠ ⟨#[]⟩ := by
  rintro rfl
  exact word_ne' hk e.symm
theorem slr_idx0 {α : Type} [Inhabited α] {r : Rep α} {h : Heap} {bb : Option Addr} {l c : Nat} {xs : List α} {K : Addr → Prop} (S : SlR r h bb l c xs) (hz : 0 < r.sz) (h2 : 0 < l) (H : ∀ a, RdP r h a xs[0]! → K a) : IDXS bb 0 l K :=
  S.idx hz (by omega) (by omega) fun a Ra => H a (by
    have : RdP r h (a.add (0 * r.sz)) xs[0]! := Ra
    rwa [Nat.zero_mul, add0] at this)
section
variable {h : Heap} {text : ByteArray}
theorem spec_ReadDeed_c (ht : text.size ≤ 1048576) : CALL prg f_spec_ReadDeed #[.string text] (fun u h' => Read text u ∧ Ext h h') h := by
  have hm : (1048582 : Nat) ≤ maxLen := by decide
  refine spec_ReadDeed.call ((Mem.start h).alc fun g1 h1 x1 M => brd (fun hc => ?_) fun hc => ?_)
  · refine M.sta0 .here rfl (all_one rfl) rfl .here fun h2 M => M.lda0 .here rfl ⟨.inr ⟨fun k a b hv e => ?_, rfl⟩, M.ext⟩
    have := text_small hv
    rw [e] at this
    omega
  have hts : text.size ≤ 40 := by omega
  refine (l01Split_c (c := 32) ht).mono ?_
  rintro _ h2 ⟨b0, l0, k0, B0, rfl, O0, N0⟩
  have M := (M.join N0).cnt (W := B0 ++ [(g1, T_impl_Deed, ⟨Z_impl_Deed⟩)]) (fun p => by simp only [List.append_eq, cnt_app, cnt_cons, cnt_nil] at *; omega)
  have hl0 : l0 ≤ 41 := by
    have e1 := O0.len
    rw [List.length_map] at e1
    have : ∀ l : List UInt8, (cutL 32 l).length ≤ l.length + 1 := fun l => by
      induction l with
      | nil => simp [cutL]
      | cons c l ih =>
        unfold cutL
        split
        · simp; omega
        · have := cut_ne 32 l
          split
          · next e => exact absurd e this
          · next w r e => rw [e] at ih; simpa using Nat.le_succ_of_le ih
    have e3 := this text.data.toList
    have e4 := Lib.size_eq text
    omega
  have hl1 : 1 ≤ l0 := by
    have e1 := O0.len
    rw [List.length_map] at e1
    have := List.length_pos_iff.2 (cut_ne 32 text.data.toList)
    omega
  refine as_l (M.alc fun g3 h3 x3 M3 => ?_)
  have M3' : Mem h h3 (B0 ++ ([] ++ [(g3, T_string, ⟨[.string (⟨#[]⟩ : ByteArray), .string (⟨#[]⟩ : ByteArray)]⟩), (g1, T_impl_Deed, ⟨Z_impl_Deed⟩)])) := M3.cnt fun p => by simp only [List.append_eq, cnt_app, cnt_cons, cnt_nil] at *; omega
  refine O0.app (Bn := []) (news := [.string (⟨#[]⟩ : ByteArray), .string (⟨#[]⟩ : ByteArray)]) (ys := [⟨#[]⟩, ⟨#[]⟩]) (m := 2) E_sl_string M3' rfl ⟨[], [], [_], [_], rfl, rfl, ⟨rfl, rfl, by decide⟩, [], [], [_], [], rfl, rfl, ⟨rfl, rfl, by decide⟩, rfl, rfl⟩ (fun j v hj => ?_) (by omega) (by omega) fun b c h4 B O M => as_l ?_
  · rw [add_none, Nat.zero_add, M3.cell .here, ← hj, List.getElem?_toArray]
  have O : SlO T_string rS B b (l0 + 2) c (wordsOf text) := O
  refine l10Names_c M fun gn h5 M => as_l ?_
  have M := M.cnt (W := (g1, T_impl_Deed, ⟨Z_impl_Deed⟩) :: (B ++ [(gn, T_string, namesV)])) (fun p => by simp only [List.append_eq, cnt_app, cnt_cons, cnt_nil] at *; omega)
  have hlen := O.len
  refine loop (fun y hh => ∃ k : Int, y = (text, ⟨g1, 0, none⟩, b, l0 + 2, c, some ⟨gn, 0, none⟩, 10, 10, k) ∧ 1 ≤ k ∧ k ≤ 10 ∧ (∀ j a b, j < k → validDeed j a b = true → deedText j a b ≠ text) ∧ Mem h hh ((g1, T_impl_Deed, ⟨Z_impl_Deed⟩) :: (B ++ [(gn, T_string, namesV)]))) (fun y => (10 - y.2.2.2.2.2.2.2.2).toNat)
    ⟨1, rfl, by omega, by omega, fun j a b hj hv => by have := (valid_in hv).1; omega, M⟩ ?_
  rintro y hh ⟨k, rfl, hk1, hk2, hno, M⟩
  refine brd (fun hc => ?_) fun hc => ?_
  case _ =>
    have hk : 1 ≤ k ∧ k ≤ 9 := ⟨hk1, hc⟩
    have NEXT : ∀ {hh : Heap} {gd : Nat} {cs : Array Value}, Mem h hh ((gd, T_impl_Deed, cs) :: (g1, T_impl_Deed, ⟨Z_impl_Deed⟩) :: (B ++ [(gn, T_string, namesV)])) → (∀ a' b', validDeed k a' b' = true → deedText k a' b' ≠ text) →
        ((∃ k' : Int, (text, (⟨g1, 0, none⟩ : Addr), b, l0 + 2, c, some (⟨gn, 0, none⟩ : Addr), 10, 10, IntKind.i64.wrap (k + 1)) = (text, (⟨g1, 0, none⟩ : Addr), b, l0 + 2, c, some (⟨gn, 0, none⟩ : Addr), 10, 10, k') ∧ 1 ≤ k' ∧ k' ≤ 10 ∧ (∀ j a b, j < k' → validDeed j a b = true → deedText j a b ≠ text) ∧ Mem h hh ((g1, T_impl_Deed, ⟨Z_impl_Deed⟩) :: (B ++ [(gn, T_string, namesV)]))) ∧ (10 - IntKind.i64.wrap (k + 1)).toNat < (10 - k).toNat) := fun {hh gd cs} M hn => by
      rw [wrap64 (n := k + 1) (by omega) (by omega)]
      refine ⟨⟨k + 1, rfl, by omega, by omega, fun j a b hj hv => ?_, M.drop⟩, by omega⟩
      rcases (show j < k ∨ j = k by omega) with hj | rfl
      · exact hno j a b hj hv
      · exact hn a b hv
    have J18 : ∀ {hh : Heap} {gd : Nat} {a' b' : Int} {ok : Bool}, Mem h hh ((gd, T_impl_Deed, dd k a' b') :: (g1, T_impl_Deed, ⟨Z_impl_Deed⟩) :: (B ++ [(gn, T_string, namesV)])) → (ok = true → (wordsOf text)[0]! = wordOf k) → ((ok = true → deedText k a' b' ≠ text) → ∀ a b, validDeed k a b = true → deedText k a b ≠ text) →
        spec_ReadDeed.J18 (fun x' h' => (∃ k' : Int, x' = (text, ⟨g1, 0, none⟩, b, l0 + 2, c, some ⟨gn, 0, none⟩, 10, 10, k') ∧ 1 ≤ k' ∧ k' ≤ 10 ∧ (∀ j a b, j < k' → validDeed j a b = true → deedText j a b ≠ text) ∧ Mem h h' ((g1, T_impl_Deed, ⟨Z_impl_Deed⟩) :: (B ++ [(gn, T_string, namesV)]))) ∧ (10 - x'.2.2.2.2.2.2.2.2).toNat < (10 - k).toNat) (fun u h' => Read text u ∧ Ext h h') text ⟨g1, 0, none⟩ b (l0 + 2) c (some ⟨gn, 0, none⟩) 10 10 k ⟨gd, 0, none⟩ ok hh := fun {hh gd a' b' ok} M hw hn => by
      unfold spec_ReadDeed.J18
      cases ok with
      | false => exact br_f rfl (NEXT M (hn fun e => nomatch e))
      | true =>
        refine br_t rfl (M.lda0 .here rfl (goM M spec_DeedText_c fun h6 M => as_s ?_))
        rw [str_eq]
        refine brd (fun e => ?_) fun e => NEXT M (hn fun _ => e)
        have hv : validDeed k a' b' = true := by
          cases hvv : validDeed k a' b' with
          | true => rfl
          | false => rw [invalid_text hvv] at e; exact absurd e.symm (text_ne hk (hw rfl))
        exact M.lda0 .here rfl (M.sta0 (.there .here) rfl (all_one rfl) rfl (.there .here) fun h7 M => M.lda0 (.there .here) rfl ⟨.inl ⟨k, a', b', hv, e, rfl⟩, M.ext⟩)
    refine M.alc fun gd h6 x6 M => M.sta0 (vs := dd k 0 0) .here rfl (all_one rfl) rfl .here fun h7 M => ?_
    have SW : ∀ {hh : Heap} {cs : Array Value}, Mem h hh ((gd, T_impl_Deed, cs) :: (g1, T_impl_Deed, ⟨Z_impl_Deed⟩) :: (B ++ [(gn, T_string, namesV)])) → SlR rS hh b (l0 + 2) c (wordsOf text) := fun M => O.look M (((List.sublist_append_left _ _).trans (List.sublist_cons_self _ _)).trans (List.sublist_cons_self _ _))
    refine slr_idx0 (SW M) (by decide) (by omega) fun p0 R0 => R0.oS1 fun _ => idxs (by omega) (by show k < 10; omega) ?_
    rw [add_g, Nat.mul_one]
    refine M.oS (cs := namesV) (Look.there (Look.there (Look.skip .here))) (names_get hk) ?_
    rw [str_eq]
    refine brd (fun e0 => ?_) fun e0 => ?_
    case _ =>
      rw [decide_eq_true e0]
      refine goM M (l10Numbers_c k _) fun h8 M => as_i ?_
      have J15 : ∀ {hh : Heap} {a' : Int}, Mem h hh ((gd, T_impl_Deed, dd k a' 0) :: (g1, T_impl_Deed, ⟨Z_impl_Deed⟩) :: (B ++ [(gn, T_string, namesV)])) → (∀ a b, validDeed k a b = true → deedText k a b = text → a = a') →
          spec_ReadDeed.J14 (fun x' h' => (∃ k' : Int, x' = (text, ⟨g1, 0, none⟩, b, l0 + 2, c, some ⟨gn, 0, none⟩, 10, 10, k') ∧ 1 ≤ k' ∧ k' ≤ 10 ∧ (∀ j a b, j < k' → validDeed j a b = true → deedText j a b ≠ text) ∧ Mem h h' ((g1, T_impl_Deed, ⟨Z_impl_Deed⟩) :: (B ++ [(gn, T_string, namesV)]))) ∧ (10 - x'.2.2.2.2.2.2.2.2).toNat < (10 - k).toNat) (fun u h' => Read text u ∧ Ext h h') text ⟨g1, 0, none⟩ b (l0 + 2) c (some ⟨gn, 0, none⟩) 10 10 k ⟨gd, 0, none⟩ true hh := fun {hh a'} M ha => by
        unfold spec_ReadDeed.J14
        refine br_t rfl (goM M (l10Numbers_c k _) fun h9 M => as_i ?_)
        unfold spec_ReadDeed.J15
        refine brd (fun h1 => ?_) fun h1 => J18 M (fun _ => e0) fun hn a b hv e => ?_
        · refine (SW M).idx (by decide) (by omega) (by omega) fun p2 R2 => R2.oS1 fun _ => (l01Number_c _ _).mono ?_
          rintro _ h10 ⟨rfl, x10⟩
          have M := M.grow x10
          have e2 : rS.sz = 1 := rfl
          cases hn2 : numL ((wordsOf text)[(2 : Int).toNat]!).data.toList with
          | none =>
            refine tup2 (as_i (as_b ?_))
            rw [add_g]
            refine M.st1 .here (by show 2 < 3; decide) .here fun h11 M => J18 (ok := false) (a' := a') (b' := 0) M (fun e => nomatch e) fun _ a b hv e => ?_
            have := (num_hit hv).2 ((words_hit hv e).2.2 h1)
            rw [show (2 : Int).toNat = 2 from rfl, this] at hn2
            cases hn2
          | some m =>
            refine tup2 (as_i (as_b ?_))
            rw [add_g]
            refine M.st1 .here (by show 2 < 3; decide) .here fun h11 M => J18 (ok := true) (a' := a') (b' := (m : Int)) M (fun _ => e0) fun hn a b hv e => ?_
            have := (num_hit hv).2 ((words_hit hv e).2.2 h1)
            rw [show (2 : Int).toNat = 2 from rfl, this] at hn2
            have hb := (valid_in hv).2.2
            have : b = (m : Int) := by have := Option.some.inj hn2; omega
            rw [ha a b hv e, this] at e
            exact hn rfl e
        · have hb := (valid_zero hv).2 h1
          rw [ha a b hv e, hb] at e
          exact hn rfl e
      unfold spec_ReadDeed.J11
      refine brd (fun h0 => ?_) fun h0 => J15 M fun a b hv e => (valid_zero hv).1 h0
      refine (SW M).idx (by decide) (by omega) (by omega) fun p2 R2 => R2.oS1 fun _ => (l01Number_c _ _).mono ?_
      rintro _ h10 ⟨rfl, x10⟩
      have M := M.grow x10
      cases hn1 : numL ((wordsOf text)[(1 : Int).toNat]!).data.toList with
      | none =>
        refine tup2 (as_i (as_b ?_))
        rw [add_g]
        refine M.st1 .here (by show 1 < 3; decide) .here fun h11 M => ?_
        unfold spec_ReadDeed.J14
        refine br_f rfl ?_
        unfold spec_ReadDeed.J15
        refine br_f rfl (J18 (ok := false) (a' := 0) (b' := 0) M (fun e => nomatch e) fun _ a b hv e => ?_)
        have := (num_hit hv).1 ((words_hit hv e).2.1 h0)
        rw [show (1 : Int).toNat = 1 from rfl, this] at hn1
        cases hn1
      | some m =>
        refine tup2 (as_i (as_b ?_))
        rw [add_g]
        refine M.st1 .here (by show 1 < 3; decide) .here fun h11 M => J15 (a' := (m : Int)) M fun a b hv e => ?_
        have := (num_hit hv).1 ((words_hit hv e).2.1 h0)
        rw [show (1 : Int).toNat = 1 from rfl, this] at hn1
        have ha := (valid_in hv).2.1
        have := Option.some.inj hn1
        omega
    case _ =>
      rw [decide_eq_false e0]
      unfold spec_ReadDeed.J11
      refine br_f rfl ?_
      unfold spec_ReadDeed.J14
      refine br_f rfl ?_
      unfold spec_ReadDeed.J15
      exact br_f rfl (J18 (ok := false) (a' := 0) (b' := 0) M (fun e => nomatch e) fun _ a b hv e => e0 (words_hit hv e).1)
  case _ =>
    refine M.sta0 .here rfl (all_one rfl) rfl .here fun h2 M => M.lda0 .here rfl ⟨.inr ⟨fun j a b hv => ?_, rfl⟩, M.ext⟩
    exact hno j a b (by have := (valid_in hv).1; omega) hv
end
end Go.Sx
