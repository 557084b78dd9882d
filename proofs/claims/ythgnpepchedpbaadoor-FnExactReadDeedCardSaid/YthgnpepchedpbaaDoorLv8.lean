/- Deeds read: the program's, and the law. -/
import Derived.Test.YthgnpepchedpbaaDoorLv7
set_option linter.unusedVariables false
set_option linter.unusedSimpArgs false
namespace Go.Sx
open Go.Proofs
set_option maxRecDepth 100000
set_option maxHeartbeats 2000000

theorem cut_len {c : UInt8} : ∀ {l w : List UInt8}, w ∈ cutL c l → w.length ≤ l.length
  | [], w, h => by simp [cutL] at h; subst h; simp
  | b :: l, w, h => by
    unfold cutL at h
    split at h
    · rcases List.mem_cons.1 h with rfl | h
      · simp
      · have := cut_len h; simp; omega
    · split at h
      · simp at h; subst h; simp
      · next v r e =>
        rcases List.mem_cons.1 h with rfl | h
        · have := cut_len (l := l) (w := v) (by rw [e]; exact List.mem_cons_self ..)
          simp; omega
        · have := cut_len (l := l) (w := w) (by rw [e]; exact List.mem_cons_of_mem _ h)
          simp; omega
theorem strV_get {ls : List (List UInt8)} {j : Nat} (h : j < ls.length) : (strV ls)[j]? = some (.string (mkB ls[j]!)) := by
  unfold strV
  rw [List.getElem?_toArray, List.getElem?_map, List.getElem?_eq_getElem h, getElem!_pos ls j h]; rfl
theorem pieces_len (k a b : Int) : (pieces k a b).length = (if 0 < numbers k then 1 else 0) + (if 1 < numbers k then 1 else 0) + 1 := by
  unfold pieces
  by_cases h0 : 0 < numbers k <;> by_cases h1 : 1 < numbers k <;> simp [h0, h1]
theorem numbers_in (k : Int) : numbers k = 0 ∨ numbers k = 1 ∨ numbers k = 2 := by unfold numbers; split <;> first | omega | (split <;> omega)
theorem brn' {b : Bool} {p q : Prop} (ht : b = false → p) (hf : b = true → q) : BIF (!b) p q := brn ht hf
/-- What the program's inner reader gives. -/
def Got (text : ByteArray) (u : Value) : Prop :=
  (∃ k a b, validDeed k a b = true ∧ deedText k a b = text ∧ u = .tuple ⟨[.agg (dd k a b), .bool true]⟩) ∨ ((∀ k a b, validDeed k a b = true → deedText k a b ≠ text) ∧ ∃ k a b, u = .tuple ⟨[.agg (dd k a b), .bool false]⟩)
section
variable {h : Heap} {text : ByteArray}
theorem impl_readDeed_c (Lb : Libs h) (ht : text.size ≤ 1048576) : CALL prg f_impl_readDeed #[.string text] (fun u h' => Got text u ∧ Ext h h') h := by
  have hsz := Lib.size_eq text
  refine impl_readDeed.call ((Mem.start h).alc fun g1 h1 x1 M => Split_c (c := 32) (Lb.ext x1) ht M fun gw h2 x2 M => as_l ?_)
  have wl : ∀ j, j < (cutL 32 text.data.toList).length → (mkB (cutL 32 text.data.toList)[j]!).size ≤ 1048576 := fun j hj => by
    rw [mk_size]
    have := cut_len (mem_get hj)
    omega
  have w1 : 1 ≤ (cutL 32 text.data.toList).length := List.length_pos_iff.2 (cut_ne 32 text.data.toList)
  have hp : ∀ {k a b : Int}, validDeed k a b = true → deedText k a b = text → cutL 32 text.data.toList = pieces k a b := fun hv e => by rw [← e]; exact cut_text hv
  have hnil : text = ⟨#[]⟩ → cutL 32 text.data.toList = [[]] := fun e => by rw [e]; rfl
  generalize cutL 32 text.data.toList = ws at *
  refine loop (fun y hh => ∃ k : Int, y = (text, ⟨g1, 0, none⟩, some ⟨gw, 0, none⟩, ws.length, ws.length, k) ∧ 1 ≤ k ∧ k ≤ 10 ∧ (∀ j a b, j < k → validDeed j a b = true → deedText j a b ≠ text) ∧ Mem h hh [(gw, T_string, strV ws), (g1, T_impl_Deed, ⟨Z_impl_Deed⟩)]) (fun y => (10 - y.2.2.2.2.2).toNat)
    ⟨1, rfl, by omega, by omega, fun j a b hj hv => by have := (valid_in hv).1; omega, M⟩ ?_
  rintro y hh ⟨k, rfl, hk1, hk2, hno, M⟩
  refine brd (fun hc => ?_) fun hc => ?_
  case _ =>
    have hk : 1 ≤ k ∧ k ≤ 9 := ⟨hk1, hc⟩
    have hn : wordN k = numbers k := by unfold wordN; rw [if_pos hk]
    have NEXT : ∀ {hh : Heap}, Mem h hh [(gw, T_string, strV ws), (g1, T_impl_Deed, ⟨Z_impl_Deed⟩)] → (∀ a' b', validDeed k a' b' = true → deedText k a' b' ≠ text) →
        ((∃ k' : Int, (text, (⟨g1, 0, none⟩ : Addr), some (⟨gw, 0, none⟩ : Addr), ws.length, ws.length, IntKind.i64.wrap (k + 1)) = (text, (⟨g1, 0, none⟩ : Addr), some (⟨gw, 0, none⟩ : Addr), ws.length, ws.length, k') ∧ 1 ≤ k' ∧ k' ≤ 10 ∧ (∀ j a b, j < k' → validDeed j a b = true → deedText j a b ≠ text) ∧ Mem h hh [(gw, T_string, strV ws), (g1, T_impl_Deed, ⟨Z_impl_Deed⟩)]) ∧ (10 - IntKind.i64.wrap (k + 1)).toNat < (10 - k).toNat) := fun {hh} M hn => by
      rw [wrap64 (n := k + 1) (by omega) (by omega)]
      refine ⟨⟨k + 1, rfl, by omega, by omega, fun j a b hj hv => ?_, M⟩, by omega⟩
      rcases (show j < k ∨ j = k by omega) with hj | rfl
      · exact hno j a b hj hv
      · exact hn a b hv
    refine goM M (deedWord_c k _) fun h3 M => tup2 (as_s (as_i (idxs (by omega) (by omega) ?_)))
    rw [hn]
    refine M.oS .here (strV_get (j := 0) (by omega)) ?_
    rw [str_eq]
    refine brn' ?_ ?_
    · intro e
      have e : wordOf k ≠ mkB ws[0]! := by simpa using e
      refine NEXT M fun a' b' hv et => e ?_
      rw [hp hv et]
      show _ = mkB (wordOf k).data.toList
      rw [mkB_list]
    intro e0
    have e0 : wordOf k = mkB ws[0]! := by simpa using e0
    have hne : text ≠ ⟨#[]⟩ := fun e => by
      rw [hnil e] at e0
      exact word_ne' hk e0
    have nr := numbers_in k
    rw [wrap64 (n := numbers k + 1) (by omega) (by omega)]
    refine br (fun el => NEXT M fun a' b' hv et => ?_) fun el => ?_
    · have el : ¬ (ws.length : Int) = numbers k + 1 := by simpa using el
      rw [hp hv et, pieces_len] at el
      refine el ?_
      rcases nr with nr | nr | nr <;> rw [nr] <;> decide
    have el : (ws.length : Int) = numbers k + 1 := by simpa using el
    unfold impl_readDeed.J7
    refine M.alc fun gn h4 x4 M => slb (by omega) (by omega) (by omega) ?_
    refine loop (fun y hh => ∃ (i : Nat) (n0 n1 : Int), y = (text, ⟨g1, 0, none⟩, k, ⟨gn, 0, none⟩, slA (some ⟨gw, 0, none⟩) ws.length 1 1, ws.length - 1, ws.length - 1, ((ws.length - 1 : Nat) : Int), (i : Int)) ∧ i ≤ ws.length - 1 ∧ (0 < i → ∀ m : Nat, m < 1000 → mkB ws[1]! = decB m → n0 = (m : Int)) ∧ (i = 0 → n0 = 0) ∧ (1 < i → ∀ m : Nat, m < 1000 → mkB ws[2]! = decB m → n1 = (m : Int)) ∧ (i ≤ 1 → n1 = 0) ∧
      Mem h hh [(gn, T_2_int64, ⟨[.int .i64 n0, .int .i64 n1]⟩), (gw, T_string, strV ws), (g1, T_impl_Deed, ⟨Z_impl_Deed⟩)]) (fun y => (((ws.length - 1 : Nat) : Int) - y.2.2.2.2.2.2.2.2).toNat)
      ⟨0, 0, 0, rfl, by omega, fun h => by omega, fun _ => rfl, fun h => by omega, fun _ => rfl, M⟩ ?_
    rintro y hh ⟨i, n0, n1, rfl, hi, p0, z0, p1, z1, M⟩
    refine brd (fun hc2 => ?_) fun hc2 => ?_
    case _ =>
      have es : slA (some ⟨gw, 0, none⟩) ws.length 1 1 = some ⟨gw, 1, none⟩ := by unfold slA; rw [if_neg (by omega)]; rfl
      rw [es]
      refine idxs (by omega) (by omega) ?_
      rw [add_none, Nat.mul_one, Int.toNat_natCast]
      refine M.oS (.there .here) (strV_get (j := 1 + i) (by omega)) ((readDecimal_c (Lb.ext M.ext) (wl (1 + i) (by omega))).mono ?_)
      rintro _ h6 ⟨v, ok, rfl, hv, x6⟩
      refine tup2 (as_i (as_b (idx (by omega) (by omega) ?_)))
      rw [add_none, Nat.zero_add]
      have M := M.grow x6
      have hv2 : ∀ m : Nat, m < 1000 → mkB ws[1 + i]! = decB m → v = (m : Int) := fun m hm e => (hv m (by omega) e).1
      rw [wrap64_succ (by omega)]
      rcases (show i = 0 ∨ i = 1 by omega) with rfl | rfl
      · refine M.st1 .here (by show 0 < 2; decide) .here fun h7 M => ?_
        refine ⟨⟨1, v, n1, ?_, by omega, fun _ => hv2, fun e => by omega, fun e => by omega, fun _ => z1 (by omega), M⟩, by show _ < _; simp; omega⟩
        rfl
      · refine M.st1 .here (by show 1 < 2; decide) .here fun h7 M => ?_
        refine ⟨⟨2, n0, v, ?_, by omega, fun _ => p0 (by omega), fun e => by omega, fun _ => hv2, fun e => by omega, M⟩, by show _ < _; simp; omega⟩
        rfl
    case _ =>
      have hin : i = ws.length - 1 := by omega
      refine idx (by omega) (by omega) (M.oI (cs := ⟨[.int .i64 n0, .int .i64 n1]⟩) .here rfl (idx (by omega) (by omega) ?_))
      rw [add_g]
      refine M.oI (cs := ⟨[.int .i64 n0, .int .i64 n1]⟩) .here rfl (M.alc fun gd h5 x5 M => M.sta0 (vs := dd k n0 n1) .here rfl (all_one rfl) rfl .here fun h6 M => M.lda0 .here rfl (M.lda0 .here rfl ?_))
      have M6 := M
      refine goM M (impl_DeedText_c (Lb.tens.ext M.ext)) fun h7 M => as_s (M6.pin2 .here M .here ?_)
      refine M.sta0 (.there (.there (.there .here))) rfl (all_one rfl) rfl (.there (.there (.there .here))) fun h8 M => M.lda0 (.there (.there (.there .here))) rfl ⟨?_, M.ext⟩
      rw [str_eq]
      by_cases e : deedText k n0 n1 = text
      · rw [decide_eq_true e]
        refine .inl ⟨k, n0, n1, ?_, e, rfl⟩
        cases hvv : validDeed k n0 n1 with
        | true => rfl
        | false => rw [invalid_text hvv] at e; exact absurd e.symm hne
      · rw [decide_eq_false e]
        refine .inr ⟨fun k' a' b' hv et => e ?_, k, n0, n1, rfl⟩
        have hpp := hp hv et
        obtain ⟨hk', ha', hb'⟩ := valid_in hv
        obtain ⟨z3, z4⟩ := valid_zero hv
        have ek : k = k' := by
          refine word_inj hk hk' ?_
          rw [e0, hpp]
          show mkB (wordOf k').data.toList = _
          rw [mkB_list]
        subst ek
        have ea : n0 = a' := by
          by_cases h0 : 0 < numbers k
          · have := p0 (by omega) a'.toNat (by omega) (by
              rw [hpp]; unfold pieces; rw [if_pos h0]; rfl)
            omega
          · rw [z0 (by omega), z3 h0]
        have eb : n1 = b' := by
          by_cases h1 : 1 < numbers k
          · have := p1 (by omega) b'.toNat (by omega) (by
              rw [hpp]; unfold pieces; rw [if_pos (num_le k h1), if_pos h1]; rfl)
            omega
          · rw [z1 (by omega), z4 h1]
        rw [ea, eb]
        exact et
  case _ =>
    refine M.sta0 (.there .here) rfl (all_one rfl) rfl (.there .here) fun h2 M => M.lda0 (.there .here) rfl ⟨.inr ⟨fun j a b hv => ?_, 0, 0, 0, rfl⟩, M.ext⟩
    exact hno j a b (by have := (valid_in hv).1; omega) hv
theorem impl_ReadDeed_c (Lb : Libs h) (ht : text.size ≤ 1048576) : CALL prg f_impl_ReadDeed #[.string text] (fun u h' => Read text u ∧ Ext h h') h := by
  refine impl_ReadDeed.call ((Mem.start h).alc fun g1 h1 x1 M => (impl_readDeed_c (Lb.ext x1) ht).mono ?_)
  rintro _ h2 ⟨hg, x2⟩
  have M := M.grow x2
  rcases hg with ⟨k, a, b, hv, et, rfl⟩ | ⟨hn, k, a, b, rfl⟩
  · refine tup2 (as_a (as_b (M.alc fun g9 h3 x3 M => M.sta0 (vs := dd k a b) .here rfl (all_one rfl) rfl .here fun h4 M => br_f rfl (M.lda0 .here rfl ?_))))
    exact M.sta0 (.there .here) rfl (all_one rfl) rfl (.there .here) fun h5 M => M.lda0 (.there .here) rfl ⟨.inl ⟨k, a, b, hv, et, rfl⟩, M.ext⟩
  · refine tup2 (as_a (as_b (M.alc fun g9 h3 x3 M => M.sta0 (vs := dd k a b) .here rfl (all_one rfl) rfl .here fun h4 M => br_t rfl ?_)))
    exact M.sta0 (.there .here) rfl (all_one rfl) rfl (.there .here) fun h5 M => M.lda0 (.there .here) rfl ⟨.inr ⟨hn, rfl⟩, M.ext⟩
theorem eqDeed_c (k a b : Int) : Ret prg f_laws_eqDeed #[.agg (dd k a b), .agg (dd k a b)] (.bool true) := fun h => by
  refine laws_eqDeed.call ((Mem.start h).alc fun g1 h1 x1 M => M.alc fun g3 h2 x2 M => ?_)
  refine M.oI (cs := dd k a b) (j := 0) (.there .here) rfl (M.oI (cs := dd k a b) (j := 0) .here rfl (br_f (by simp) ?_))
  refine M.oI (cs := dd k a b) (j := 1) (.there .here) rfl (M.oI (cs := dd k a b) (j := 1) .here rfl (br_f (by simp) ?_))
  exact M.oI (cs := dd k a b) (j := 2) (.there .here) rfl (M.oI (cs := dd k a b) (j := 2) .here rfl (br_f (by simp) ⟨rfl, M.ext⟩))
theorem FnExactReadDeed_c (Lb : Libs h) : CALL prg f_laws_FnExactReadDeed #[.string text] (fun u h' => u = .bool true ∧ Ext h h') h := by
  refine laws_FnExactReadDeed.call (brd (fun hc => ⟨rfl, Ext.refl _⟩) fun hc => (spec_ReadDeed_c (by omega)).mono ?_)
  rintro u h1 ⟨r1, x1⟩
  obtain ⟨k, a, b, c, e, _⟩ := r1.same r1
  subst e
  refine tup2 (as_a (as_i (((Mem.start h).grow x1).alc fun g9 h2 x2 M => M.sta0 (vs := dd k a b) .here rfl (all_one rfl) rfl .here fun h3 M => (impl_ReadDeed_c (Lb.ext M.ext) (by omega)).mono ?_)))
  rintro v h4 ⟨r2, x4⟩
  have M := M.grow x4
  obtain ⟨k', a', b', c', e1, e2⟩ := r1.same r2
  rw [← e1] at e2
  subst e2
  exact tup2 (as_a (as_i (M.alc fun g18 h5 x5 M => M.sta0 (vs := dd k a b) .here rfl (all_one rfl) rfl .here fun h6 M => M.lda0 .here rfl (M.lda0 (.there .here) rfl (goM M (eqDeed_c k a b _) fun h7 M => as_b (br_f rfl (br_f (by simp) ⟨rfl, M.ext⟩)))))))
end
end Go.Sx
