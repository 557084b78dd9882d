/- The law FnCompileErrors, as the program tells it. -/
import Derived.Test.YtnhcoeogejgidabGreatDoorLci3
import Derived.Test.YtnhcoeogejgidabGreatDoorLm26
import Derived.Test.YtnhcoeogejgidabGreatDoorLk61
import Derived.Test.YtnhcoeogejgidabGreatDoorLm22
import Derived.Test.YtnhcoeogejgidabGreatDoorLx2
import Derived.Lib.LaidTab
set_option linter.unusedVariables false
set_option linter.unusedSimpArgs false
namespace Go.Sx
open Go.Proofs
set_option maxRecDepth 100000
set_option maxHeartbeats 1000000

def fB1 : List UInt8 := [112, 108, 97, 121, 32, 97, 32]
def fB2 : List UInt8 := [32, 49, 47, 50, 32]
def fB3 : List UInt8 := [10, 119, 97, 105, 116, 32]
theorem mkB_cat (a b : List UInt8) : mkB a ++ mkB b = mkB (a ++ b) := by
  have : (mkB a ++ mkB b).data.toList = a ++ b := by rw [ByteArray.data_append, Array.toList_append]
  rw [← mkB_list (mkB a ++ mkB b), this]
theorem cat_P {a b : ByteArray} {p : Prop} (h : a.size + b.size ≤ 1048576) (H : p) : ((ByteArray.size a + ByteArray.size b : Nat) : Int) ≤ 9223372036854775807 ∧ p := ⟨by omega, H⟩
theorem decB_mk (m : Nat) : decB m = mkB (Lib.decDigits m) := rfl
section
variable {h0 h : Heap} {L : List Blk} {cb : Option Addr} {cc : Nat} {xs : List Int}
theorem body_snoc (ps : List Step) (x : Step) : joinT (bodyL (ps ++ [x])) = joinT (bodyL ps) ++ (((((((fB1 ++ x.1) ++ fB2) ++ Lib.decDigits x.2.1) ++ fB3) ++ Lib.decDigits x.2.2)) ++ [10]) := by
  unfold bodyL
  rw [List.flatMap_append, joinT_app]
  congr 1
  simp [joinT, playLn, waitLn, playW, halfW, waitW, fB1, fB2, fB3]
theorem body_size {ps : List Step} (h : ∀ x ∈ ps, StepOk x) : (joinT (bodyL ps)).length ≤ 42 * ps.length := by
  have := joinT_len (body_lines h).1
  rw [body_len] at this
  omega
theorem A2Text_c (M : Mem h0 h L) (C : Cells h0 cb (iv .u8 xs)) (hb : Byt' xs) :
    CALL prg f_spec_A2Text #[.slice cb xs.length cc, .int .i64 (4 : Int)] (fun u h' => ∃ ps : List Step, u = .string (mkB (joinT (bodyL ps))) ∧ (∀ x ∈ ps, StepOk x) ∧ ps.length ≤ 4 ∧ Mem h0 h' L) h := by
  have hmx : (1048576 : Nat) ≤ maxLen := by decide
  refine spec_A2Text.call ((l00From_c M).mono ?_)
  rintro _ h1 ⟨g, rfl, S⟩
  rw [wrap64 (n := 4 + 1) (by decide) (by decide)]
  refine as_p ((pick_c S C hb (by omega)).mono ?_)
  rintro _ h3 ⟨i, rfl, i1, i2, i3, S⟩
  refine as_i ?_
  refine loop (fun y hh => ∃ (j : Int) (ps : List Step), y = (⟨g, 0, none⟩, mkB (joinT (bodyL ps)), j) ∧ 0 ≤ j ∧ (ps.length : Int) + j = i ∧ (∀ x ∈ ps, StepOk x) ∧ Src h0 hh L g cb xs.length cc (2 + 100 * ps.length)) (fun y => y.2.2.toNat)
    ⟨i, [], rfl, i1, by simp, (fun x hx => by cases hx), S⟩ ?_
  rintro y hh ⟨j, ps, rfl, hj, hl, hf, S⟩
  refine brd (fun hc => ?_) fun hc => ⟨ps, rfl, hf, by omega, S.mem⟩
  refine S.alc fun g7 h8 S => ?_
  have keys : ∀ v : Int, 0 ≤ v → v < 3 → ∃ K, (K = [48] ∨ K = [55] ∨ K = [45, 49, 50]) ∧ ([[48], [55], [45, 49, 50]] : List (List UInt8))[v.toNat]! = K := fun v h0 h3 => by
    have : v = 0 ∨ v = 1 ∨ v = 2 := by omega
    rcases this with rfl | rfl | rfl
    · exact ⟨[48], .inl rfl, rfl⟩
    · exact ⟨[55], .inr (.inl rfl), rfl⟩
    · exact ⟨[45, 49, 50], .inr (.inr rfl), rfl⟩
  refine p_spec_l00Src_text.call ((pick_c S C hb (by omega)).mono ?_)
  rintro _ h10 ⟨v, rfl, v1, v2, _, S⟩
  obtain ⟨K, hK, eK⟩ := keys v v1 (by omega)
  have SW : SlR rS h10 (some ⟨g7, 0, none⟩) 3 3 (([[48], [55], [45, 49, 50]] : List (List UInt8)).map mkB) := strs_slr (ls := [[48], [55], [45, 49, 50]]) S.mem .here (fun x hx => by
    simp only [List.mem_cons, List.not_mem_nil, or_false] at hx
    rcases hx with rfl | rfl | rfl <;> exact Nat.le_trans (show _ ≤ 6 by decide) (Nat.le_trans (by decide) hmx)) (Nat.le_trans (show 3 ≤ 1048576 by decide) hmx)
  refine as_i (SW.idx (by decide) v1 (by omega) fun a Ra => Ra.oS1 fun _ => ?_)
  rw [map_str (show v.toNat < 3 by omega), eK]
  have S := S.cnt (W := L) fun p => by simp only [cnt_cons]; omega
  have zK : (mkB K).size ≤ 3 := by rw [mk_size]; rcases hK with rfl | rfl | rfl <;> decide
  have z1 : (⟨#[112, 108, 97, 121, 32, 97, 32]⟩ : ByteArray).size = 7 := rfl
  have z2 : (⟨#[32, 49, 47, 50, 32]⟩ : ByteArray).size = 5 := rfl
  have z3 : (⟨#[10, 119, 97, 105, 116, 32]⟩ : ByteArray).size = 6 := rfl
  have z4 : (⟨#[10]⟩ : ByteArray).size = 1 := rfl
  have zb := body_size hf
  have zo : (mkB (joinT (bodyL ps))).size ≤ 200 := by rw [mk_size]; omega
  refine as_s (cat_P (by omega) (cat_P (by rw [ByteArray.size_append]; omega) ?_))
  refine (pick_c S C hb (by omega)).mono ?_
  rintro _ h13 ⟨d, rfl, d1, d2, _, S⟩
  obtain ⟨d, rfl⟩ := Int.eq_ofNat_of_zero_le d1
  refine as_i (goX (spec_Decimal_c d (by omega) _) fun h16 x16 => as_s ?_)
  have S := S.grow x16
  have zd : (decB d).size ≤ 2 := by rw [decB_mk, mk_size]; exact dec2 (by omega)
  refine cat_P (by simp only [ByteArray.size_append]; omega) (cat_P (by simp only [ByteArray.size_append]; omega) ?_)
  refine (pick_c S C hb (by omega)).mono ?_
  rintro _ h19 ⟨w, rfl, w1, w2, _, S⟩
  obtain ⟨w, rfl⟩ := Int.eq_ofNat_of_zero_le w1
  refine as_i (goX (spec_Decimal_c w (by omega) _) fun h22 x22 => as_s ?_)
  have S := S.grow x22
  have zw : (decB w).size ≤ 2 := by rw [decB_mk, mk_size]; exact dec2 (by omega)
  refine cat_P (by simp only [ByteArray.size_append]; omega) (cat_P (by simp only [ByteArray.size_append]; omega) (cat_P (by simp only [ByteArray.size_append]; omega) ?_))
  refine ⟨⟨j - 1, ps ++ [(K, d, w)], ?_, by omega, by rw [List.length_append, List.length_singleton]; omega, fun x hx => ?_, S.mono (by rw [List.length_append, List.length_singleton]; omega)⟩, by rw [wrap64 (n := j - 1) (by omega) (by omega)]; show (j - 1).toNat < j.toNat; omega⟩
  · rw [wrap64 (n := j - 1) (by omega) (by omega), body_snoc, decB_mk, decB_mk, show (⟨#[112, 108, 97, 121, 32, 97, 32]⟩ : ByteArray) = mkB fB1 from rfl, show (⟨#[32, 49, 47, 50, 32]⟩ : ByteArray) = mkB fB2 from rfl, show (⟨#[10, 119, 97, 105, 116, 32]⟩ : ByteArray) = mkB fB3 from rfl, show (⟨#[10]⟩ : ByteArray) = mkB [10] from rfl]
    simp only [mkB_cat]
  · rcases List.mem_append.1 hx with h | h
    · exact hf x h
    · rw [List.mem_singleton] at h
      subst h
      exact ⟨hK, by show d < 40; omega, by show w < 20; omega⟩
end
section
variable {h : Heap}
theorem ReadFraction_c {l : List UInt8} (B : Libs h) (hs : l.length ≤ 1048576) : CALL prg f_impl_ReadFraction #[.string (mkB l)] (fun u h' => (∃ x : Nat, u = .tuple ⟨[.float .f32 x, .int .i64 (if (fracL l).isSome then 0 else 5)]⟩ ∧ ∀ b, fracL l = some b → FW .f32 x b) ∧ Ext h h') h := by
  refine impl_ReadFraction.call ((readFraction_c B hs).mono ?_)
  rintro u h2 ⟨V, x2⟩
  obtain ⟨x, a, rfl, f, e⟩ := frac_open V
  refine tup2 (as_f (as_b (brN (fun hb => ⟨⟨0, by rw [hb]; rfl, fun b hb' => by rw [hb'] at hb; cases hb⟩, x2⟩) fun hb => ⟨⟨x, by rw [hb]; rfl, fun b hb' => by rw [← e b hb']; exact f⟩, x2⟩)))
/-- Lines are told by counting. -/
theorem count_10 : ∀ {ls : List (List UInt8)}, (∀ l ∈ ls, ∀ b ∈ l, b ≠ 10) → (joinT ls).count 10 = ls.length
  | [], _ => rfl
  | l :: ls, h => by
    rw [joinT_cons, List.count_append, List.count_cons_self, count_10 fun m hm => h m (.tail _ hm), List.count_eq_zero.2 fun hm => h l (.head _) 10 hm rfl, List.length_cons]
    omega
abbrev TE (h : Heap) : Value → Heap → Prop := fun u h' => u = .bool true ∧ Ext h h'
variable {hh : Heap} {mb : Option Addr} {mc : Nat} {more : List Int}
theorem ce17 (B : Libs h) (X : Ext h hh) (C : Cells hh mb (iv .u8 more)) (hb : Byt' more) : laws_FnCompileErrors.J17 (TE h) mb more.length mc hh := by
  unfold laws_FnCompileErrors.J17
  refine (A2Digit_c (Mem.start hh) C hb (by decide) (by decide)).mono ?_
  rintro _ h43 ⟨n, rfl, n1, n2, M⟩
  refine as_i ((A2Digit_c M C hb (by decide) (by decide)).mono ?_)
  rintro _ h46 ⟨d, rfl, d1, d2, M⟩
  obtain ⟨n, rfl⟩ := Int.eq_ofNat_of_zero_le n1
  obtain ⟨d, rfl⟩ := Int.eq_ofNat_of_zero_le d1
  have hn : n < 256 := by omega
  have hd : d < 10 := by omega
  obtain ⟨es, e0, p2, p3, p4, p5⟩ := shl_pow hd
  have zn : (decB n).size ≤ 20 := by rw [decB_mk, mk_size]; exact Nat.le_trans (whole_iff.1 (whole_dec6 (by omega))).2 (by decide)
  have zp : (decB (powD d)).size ≤ 20 := by rw [decB_mk, mk_size]; exact Nat.le_trans (whole_iff.1 (whole_dec6 (by omega))).2 (by decide)
  have zq : (decB (powD d + 1)).size ≤ 20 := by rw [decB_mk, mk_size]; exact Nat.le_trans (whole_iff.1 (whole_dec6 (by omega))).2 (by decide)
  have z1 : (⟨#[45]⟩ : ByteArray).size = 1 := rfl
  have z2 : (⟨#[47]⟩ : ByteArray).size = 1 := rfl
  refine as_i ⟨e0, ?_⟩
  rw [es]
  have X := X.trans M.ext
  refine goX (spec_Decimal_c n (by omega) _) fun h49 x49 => as_s (cat_P (by omega) (cat_P (by simp only [ByteArray.size_append]; omega) ?_))
  refine goX (spec_Decimal_c (powD d) (by omega) _) fun h52 x52 => as_s (cat_P (by simp only [ByteArray.size_append]; omega) ?_)
  have X := (X.trans x49).trans x52
  have es1 : (((⟨#[45]⟩ : ByteArray) ++ decB n) ++ (⟨#[47]⟩ : ByteArray)) ++ decB (powD d) = mkB (45 :: Lib.decDigits n ++ 47 :: Lib.decDigits (powD d)) := by
    rw [decB_mk, decB_mk, show (⟨#[45]⟩ : ByteArray) = mkB [45] from rfl, show (⟨#[47]⟩ : ByteArray) = mkB [47] from rfl]
    simp only [mkB_cat]
    simp
  have es2 : (decB n ++ (⟨#[47]⟩ : ByteArray)) ++ decB (powD d + 1) = mkB (Lib.decDigits n ++ 47 :: Lib.decDigits (powD d + 1)) := by
    rw [decB_mk, decB_mk, show (⟨#[47]⟩ : ByteArray) = mkB [47] from rfl]
    simp only [mkB_cat]
    simp
  have zl1 : (45 :: Lib.decDigits n ++ 47 :: Lib.decDigits (powD d)).length ≤ 1048576 := by
    rw [decB_mk, mk_size] at zn zp
    simp only [List.length_append, List.length_cons]; omega
  have zl2 : (Lib.decDigits n ++ 47 :: Lib.decDigits (powD d + 1)).length ≤ 1048576 := by
    rw [decB_mk, mk_size] at zn zq
    simp only [List.length_append, List.length_cons]; omega
  rw [es1]
  refine (ReadFraction_c (B.ext X) zl1).mono ?_
  rintro _ h55 ⟨⟨x, rfl, f⟩, x55⟩
  have f := f _ (frac_neg hn hd)
  rw [frac_neg hn hd]
  have X := X.trans x55
  refine tup2 (as_f (as_i (goX (spec_Decimal_c n (by omega) _) fun h61 x61 => as_s (cat_P (by omega) ?_))))
  rw [wrap64 (n := ((powD d : Nat) : Int) + 1) (by omega) (by omega)]
  refine goX (spec_Decimal_c (powD d + 1) (by omega) _) fun h64 x64 => as_s (cat_P (by simp only [ByteArray.size_append]; omega) ?_)
  have X := (X.trans x61).trans x64
  rw [es2]
  refine (ReadFraction_c (B.ext X) zl2).mono ?_
  rintro _ h67 ⟨⟨x', rfl, _⟩, x67⟩
  have X := X.trans x67
  rw [frac_odd hn hd]
  refine tup2 (as_f (as_i (br_t rfl (fM f (fw_nearest _ _) fun r72 h72 => ?_))))
  have ho : (FloatKind.f32.format.order r72 (Op.negFloat .f32 (FloatKind.f32.nearest (n : Int))) == some .eq) = true := by
    rw [ord_eq h72 (fw_neg (fw_nearest .f32 (n : Int)))]
    exact exact_of hn hd
  exact br_t ho ⟨rfl, X⟩
theorem ce15 {k : Nat} {e : Int} (B : Libs h) (X : Ext h hh) (C : Cells hh mb (iv .u8 more)) (hb : Byt' more) (he : e = if k = 0 then 4 else 6) : laws_FnCompileErrors.J15 (TE h) mb more.length mc ((2 * k : Nat) : Int) 0 e hh := by
  unfold laws_FnCompileErrors.J15
  have go := ce17 (mc := mc) B X C hb
  refine brd (fun hk => ?_) fun hk => ?_
  · rw [he, if_neg (by omega)]
    exact br_f rfl (br_f rfl (br (fun h0 => by have := eq_of_beq h0; omega) fun _ => go))
  · rw [he, if_pos (by omega)]
    exact br (fun _ => br_f rfl (br_f rfl go)) fun _ => go
theorem trip_at {f : FuncId} {t : List UInt8} {L : List Blk} {K : Int → Int → Heap → Prop} (B : Libs h) (M : Mem h hh L) (ht : t.length ≤ 1048576) (H : ∀ h' L', Mem h h' L' → K (compileS t).2.1 (compileS t).2.2 h') :
    CALL prg f_impl_CompileScore #[.string (mkB t)] (fun q31 h32 => TUP3 q31 fun q33 q34 q35 => asA q33 fun a36 => asI .i64 q34 fun n37 => asI .i64 q35 fun n38 => ALC ⟨Z_impl_Score⟩ T_impl_Score (fun g39 h40 => STA 6 h40 ⟨g39, 0, none⟩ a36 fun h41 => K n37 n38 h41) h32) hh := by
  refine (impl_CompileScore_c (B.ext M.ext) ht).mono ?_
  rintro _ h1 ⟨cs, Bs, rfl, O, N⟩
  have M := M.join N
  exact tup3 (as_a (as_i (as_i (M.alc fun g h2 x2 M => M.sta0 .here (osz O rfl) (rScore.oone O) rfl .here fun h3 M => H h3 _ M))))
theorem FnCompileErrors_c {cb : Option Addr} {cc : Nat} {code : List Int} (B : Libs h) (Cc : Cells h cb (iv .u8 code)) (C : Cells h mb (iv .u8 more)) (hbc : Byt' code) (hb : Byt' more) :
    CALL prg f_laws_FnCompileErrors #[.slice cb code.length cc, .slice mb more.length mc] (fun u h' => u = .bool true ∧ Ext h h') h := by
  refine laws_FnCompileErrors.call (a2Long_c.mono ?_)
  rintro _ h1 ⟨b, rfl, x1⟩
  refine as_b (br (fun _ => ⟨rfl, x1⟩) fun _ => ?_)
  refine (A2Text_c ((Mem.start h).grow x1) Cc hbc).mono ?_
  rintro _ h5 ⟨ps, rfl, hp, hl, M⟩
  have zb := body_size hp
  have hcnt : (joinT (bodyL ps)).count 10 = 2 * ps.length := by rw [count_10 (body_lines hp).2, body_len]
  have hz : (mkB (joinT (bodyL ps))).size = (joinT (bodyL ps)).length := mk_size _
  refine as_s ?_
  refine loop (fun y hh => ∃ i : Nat, y = (mb, more.length, mc, mkB (joinT (bodyL ps)), ((((joinT (bodyL ps)).take i).count 10 : Nat) : Int), (i : Int)) ∧ hh = h5 ∧ i ≤ (joinT (bodyL ps)).length) (fun y => (((joinT (bodyL ps)).length : Int) - y.2.2.2.2.2).toNat) ⟨0, rfl, rfl, by omega⟩ ?_
  rintro y hh ⟨i, rfl, rfl, hi⟩
  have ci : ((joinT (bodyL ps)).take i).count 10 ≤ 400 := Nat.le_trans List.count_le_length (by rw [List.length_take]; omega)
  refine brd (fun hc => ?_) fun hc => ?_
  · have hil : i < (joinT (bodyL ps)).length := by omega
    refine ⟨⟨by omega, by omega⟩, ?_⟩
    have et : ((joinT (bodyL ps)).take (i + 1)).count 10 = ((joinT (bodyL ps)).take i).count 10 + if (joinT (bodyL ps))[i] = 10 then 1 else 0 := by
      rw [List.take_succ_eq_append_getElem hil, List.count_append, List.count_singleton]
      simp only [beq_iff_eq]
    have eb : ((byteAt (mkB (joinT (bodyL ps))) (i : Int)) == (10 : Int)) = decide ((joinT (bodyL ps))[i] = 10) := by
      obtain ⟨h', e⟩ := byte_get (s := mkB (joinT (bodyL ps))) (i := i) (by omega)
      rw [e, Bool.eq_iff_iff, beq_iff_eq, decide_eq_true_eq]
      have e2 : (mkB (joinT (bodyL ps))).data.toList[i]'h' = (joinT (bodyL ps))[i] := by
        congr 1
      rw [e2]
      constructor
      · intro h10
        apply UInt8.toNat_inj.1
        show _ = 10
        omega
      · intro h10; rw [h10]; rfl
    rw [eb]
    refine brd (fun he => ⟨⟨i + 1, ?_, rfl, by omega⟩, ?_⟩) fun he => ⟨⟨i + 1, ?_, rfl, by omega⟩, ?_⟩
    · rw [et, if_pos he, wrap64_succ (by omega), wrap64_succ (by omega)]
    · rw [wrap64_succ (n := i) (by omega)]; show (((joinT (bodyL ps)).length : Int) - ((i + 1 : Nat) : Int)).toNat < (((joinT (bodyL ps)).length : Int) - (i : Int)).toNat; omega
    · rw [et, if_neg he, wrap64_succ (by omega)]; rfl
    · rw [wrap64_succ (n := i) (by omega)]; show (((joinT (bodyL ps)).length : Int) - ((i + 1 : Nat) : Int)).toNat < (((joinT (bodyL ps)).length : Int) - (i : Int)).toNat; omega
  · obtain rfl : i = (joinT (bodyL ps)).length := by omega
    rw [List.take_length, hcnt]
    have z1 : (⟨#[115, 116, 114, 105, 110, 103, 32, 97, 32, 48, 32, 48, 32, 48, 10]⟩ : ByteArray).size = 15 := rfl
    have z2 : (⟨#[119, 104, 97, 116, 32, 105, 115, 32, 116, 104, 105, 115, 10]⟩ : ByteArray).size = 13 := rfl
    have z3 : (⟨#[115, 116, 114, 105, 110, 103, 32, 97, 32, 48, 32, 48, 32, 48, 10, 114, 101, 112, 101, 97, 116, 32, 49, 10]⟩ : ByteArray).size = 24 := rfl
    have z4 : (⟨#[101, 110, 100, 10]⟩ : ByteArray).size = 4 := rfl
    have e1 : (((⟨#[115, 116, 114, 105, 110, 103, 32, 97, 32, 48, 32, 48, 32, 48, 10]⟩ : ByteArray) ++ mkB (joinT (bodyL ps))) ++ (⟨#[119, 104, 97, 116, 32, 105, 115, 32, 116, 104, 105, 115, 10]⟩ : ByteArray)) ++ mkB (joinT (bodyL ps)) = mkB (joinT (strLn :: (bodyL ps ++ whatLn :: bodyL ps))) := by
      rw [show (⟨#[115, 116, 114, 105, 110, 103, 32, 97, 32, 48, 32, 48, 32, 48, 10]⟩ : ByteArray) = mkB (strLn ++ [10]) from rfl, show (⟨#[119, 104, 97, 116, 32, 105, 115, 32, 116, 104, 105, 115, 10]⟩ : ByteArray) = mkB (whatLn ++ [10]) from rfl]
      simp only [mkB_cat]
      exact congrArg (fun l => mkB l) (by simp [joinT_cons, joinT_app])
    have e2 : (⟨#[115, 116, 114, 105, 110, 103, 32, 97, 32, 48, 32, 48, 32, 48, 10, 114, 101, 112, 101, 97, 116, 32, 49, 10]⟩ : ByteArray) ++ mkB (joinT (bodyL ps)) = mkB (joinT (strLn :: repLn :: bodyL ps)) := by
      rw [show (⟨#[115, 116, 114, 105, 110, 103, 32, 97, 32, 48, 32, 48, 32, 48, 10, 114, 101, 112, 101, 97, 116, 32, 49, 10]⟩ : ByteArray) = mkB (strLn ++ 10 :: (repLn ++ [10])) from rfl]
      simp only [mkB_cat]
      exact congrArg (fun l => mkB l) (by simp [joinT_cons])
    have e3 : mkB (joinT (bodyL ps)) ++ (⟨#[101, 110, 100, 10]⟩ : ByteArray) = mkB (joinT (bodyL ps ++ [endW])) := by
      rw [show (⟨#[101, 110, 100, 10]⟩ : ByteArray) = mkB (joinT [endW]) from rfl]
      simp only [mkB_cat]
      rw [joinT_app]
    have s1 : (joinT (strLn :: (bodyL ps ++ whatLn :: bodyL ps))).length ≤ 1048576 := by
      rw [← mk_size, ← e1]; simp only [ByteArray.size_append]; omega
    have s2 : (joinT (strLn :: repLn :: bodyL ps)).length ≤ 1048576 := by
      rw [← mk_size, ← e2]; simp only [ByteArray.size_append]; omega
    have s3 : (joinT (bodyL ps ++ [endW])).length ≤ 1048576 := by
      rw [← mk_size, ← e3]; simp only [ByteArray.size_append]; omega
    refine cat_P (by omega) (cat_P (by simp only [ByteArray.size_append]; omega) (cat_P (by simp only [ByteArray.size_append]; omega) ?_))
    rw [e1]
    refine trip_at (f := 0) B M s1 fun h19 L1 M => cat_P (by omega) ?_
    rw [e2]
    refine trip_at (f := 0) B M s2 fun h30 L2 M => cat_P (by omega) ?_
    rw [e3]
    refine trip_at (f := 0) B M s3 fun h41 L3 M => ?_
    rw [told_bad hp (by omega), told_open hp (by omega), told_end hp (by omega)]
    have w1 : IntKind.i64.wrap (((2 * ps.length : Nat) : Int) + 1) = ((2 * ps.length + 1 : Nat) : Int) := wrap64_succ (by omega)
    have w2 : IntKind.i64.wrap (((2 * ps.length : Nat) : Int) + 2) = ((2 * ps.length + 2 : Nat) : Int) := by rw [wrap64 (by omega) (by omega)]; rfl
    rw [w1, w2]
    refine br_f rfl (eqB (br_f rfl (eqB ?_)))
    exact ce15 (k := ps.length) B M.ext (C.ext M.ext) hb (by
      cases ps with
      | nil => rfl
      | cons x ps => rfl)
end
end Go.Sx
/- From what a law's call answers to the given row, where the row lists tables that the call reads. -/
namespace Go.Sx
open Go.ChangeShapes Go.WideShapes Go.ChangeAt Go.RowKit
set_option linter.unusedVariables false
/-- The same, where the call finds the program's variables as their types have them. -/
theorem law_returns_libs {H : Type} {enc : TypeId × Value → H} {C : Checked} {os : Os} {f : FuncId} {fn : Func} {s : ChangeSpec} {conds : List PathCond} {tb : TypeId} {laidL : List (String × DataW Unit)}
    (own : ownKnob C.prog.godebug = none) (started : os.Started) (noInit : C.prog.inits.idxOf? f = none) (hfn : C.prog.funcs[f]? = some fn) (hb : fn.body.isNone = false)
    (hn : (fn.name == "runtime.NumGoroutine") = false) (hvars : s.vars = []) (hspec : ∀ ds : List (DataW H), ds.length = fn.params.toList.length → s.fn H ds = { results := [.lit (.bool true)], args := ds })
    (hres : fn.resultTypes = #[tb]) (htb : C.prog.underlying tb = some .bool) (laid : laidOutB C.prog = true) (hread : ∀ t ∈ fn.params.toList, C.prog.readableRec t = true ∧ t < C.prog.types.size)
    (witness : ∃ (w : World) (tape : Tape) (i : Input), w.os = os ∧ (w.forCall tape i).Shaped C.prog ∧ i.vars = [] ∧ Input.okWide C.prog (w.forCall tape i) .any w.heap.size f i ∧
      ((s.pre enc C.prog fn conds false (w.forCall tape i).memory i.args ∧ laidMetH C.prog laidL (w.forCall tape i).memory) ∧ sizedMet enc C.prog fn (OpenSpec.ofChange s) false (w.forCall tape i).memory i.args) ∧ ({} : Assume).holds C.prog (lone (Frame.enter C.prog f i.args .normal) [] (w.forCall tape i)))
    (walk : ∀ (W : World) (base : Nat) (args : Array Value) (ds : List (DataW H)) (p : List MemPlace), DataW.TrodAll enc C.prog W 0 (fun _ => true) true fn.params.toList args.toList ds p →
      (∀ (j : Nat) t v, fn.params[j]? = some t → args[j]? = some v → Value.okWide C.prog W .any base t v) →
      (DataW.weightsEach C.prog (fn.params.toList ++ s.plain.varTypes C.prog) (ds ++ [])).all (· ≤ reachBytes) = true → laidMetH C.prog laidL W → W.ShapedOpen C.prog →
      CALL C.prog f args (fun u h' => u = .bool true ∧ Ext W.heap h') W.heap) :
    ReturnsInHanded {} C os f .any (fun w args => (s.pre enc C.prog fn conds false w args ∧ laidMetH C.prog laidL w) ∧ sizedMet enc C.prog fn (OpenSpec.ofChange s) false w args) (s.post enc C.prog fn false true false false) := by
  refine returnsInHanded_of_calls own started noInit witness ?_
  intro w tape i _ hS _ hok hpre hholds
  obtain ⟨_, _, _, fn', hfn', _, _, _, _, hval⟩ := hok
  have e : fn' = fn := Option.some.inj (hfn'.symm.trans hfn)
  subst e
  obtain ⟨⟨⟨ds, gs, before, hw, hc⟩, hx⟩, hz⟩ := hpre
  have hW := DataW.Whole.of_heap (w' := w.forCall tape i) (by rfl) hw
  have hL : laidMetH C.prog laidL (w.forCall tape i) := hx.of_heap (by rfl)
  have hsz := hz.weights hw
  have hW' := hW
  obtain ⟨p, q, hA, hV, rfl, hfz, hnd⟩ := hW
  rw [hvars] at hV
  obtain ⟨rfl, rfl⟩ := trodVars_none hV
  refine (calls_of_CALL hfn hb hn (walk (w.forCall tape i) w.heap.size i.args ds p hA hval hsz hL hS)).mono fun e W' ⟨v, he, hs, hv, hx⟩ => ?_
  subst he; subst hv
  refine ChangeSpec.post_blind ?_
  have bel := below_of hs hx
  have hl := trodAll_length hA
  refine ⟨ds, [], _, [], p, [], hW', ?_, ?_, ?_, bel.frame _, fun h => by cases h⟩
  · rw [List.append_nil, hspec ds hl, hres]; exact trodAll_mk1 (shut_bool htb true)
  · rw [List.append_nil, hspec ds hl]; exact trodAll_back laid bel hread hA
  · rw [List.append_nil, hspec ds hl, hvars]; rfl
/-- A table on the list is where the program has it, in every later world. -/
theorem laid_var {P : Program} {W : World} : ∀ {l : List (String × DataW Unit)} {ps : List MemPlace}, DataW.LaidVars P W l ps → ∀ n d, (n, d) ∈ l →
    ∃ g t cs fuel p, P.globalNamed n = some g ∧ (P.globals[g]?).map (·.type) = some t ∧ W.var? P n = some cs ∧ DataW.trod (fun _ => ()) P W 0 (fun _ => true) false fuel t cs.toList = some (d, p)
  | [], _, _, _, _, hm => by cases hm
  | (n', d') :: r, ps, h, n, d, hm => by
    obtain ⟨g, t, cs, fuel, p, q, h1, h2, h3, h4, h5, _⟩ := h
    rcases List.mem_cons.1 hm with e | e
    · cases e
      exact ⟨g, t, cs, fuel, p, h1, h2, h3, h4⟩
    · exact laid_var h5 n d e
theorem var_ext {P : Program} {W w : World} {n : String} {cs : Array Value} (h : W.var? P n = some cs) (X : Ext W.heap w.heap) : w.var? P n = some cs := by
  unfold World.var? at *
  cases hg : P.globalNamed n with
  | none => rw [hg] at h; cases h
  | some g =>
    rw [hg] at h
    simp only [Option.bind_some] at h ⊢
    cases ho : W.heap[g]? with
    | none => rw [ho] at h; cases h
    | some o =>
      rw [X.eq g (Array.getElem?_eq_some_iff.1 ho).1]
      exact h
theorem laid_tab {P : Program} {W : World} {l : List (String × DataW Unit)} {name : String} {k : IntKind} {zs : List Int} {g : Nat} {t e : TypeId} {n : Nat}
    (hg : P.globalNamed name = some g) (hty : (P.globals[g]?).map (·.type) = some t) (ht : P.underlying t = some (.array n e)) (he : P.underlying e = some (.int k)) (hce : P.cellsOf e = 1) (hct : P.cellsOf t = n)
    (h : laidMet P l W) (hm : (name, Lib.tabData k zs) ∈ l) : ∀ w : World, Ext W.heap w.heap → Lib.TabIs P w name k zs := by
  obtain ⟨ps, hv, _⟩ := h
  obtain ⟨g', t', cs, fuel, p, hg', ht', hvar, hd⟩ := laid_var hv _ _ hm
  obtain rfl := Option.some.inj (hg.symm.trans hg')
  obtain rfl := Option.some.inj (hty.symm.trans ht')
  intro w X
  unfold Lib.TabIs
  rw [var_ext hvar X, ← Lib.cells_of_tab ht he hce hct hd]
/-- A variable on the list that holds an interface's value. -/
theorem laid_iface {P : Program} {W : World} {l : List (String × DataW Unit)} {name nm : String} {d : DataW Unit} {g : Nat} {ti : TypeId} {ms : Array (String × TypeId)}
    (hg : P.globalNamed name = some g) (hty : (P.globals[g]?).map (·.type) = some ti) (hi : P.underlying ti = some (.interface ms)) (h : laidMet P l W) (hm : (name, .iface nm d) ∈ l) : ∃ ev, cell W.heap ⟨g, 0, none⟩ = some ev ∧ (ev = .nilIface ∨ ∃ te pe, ev = .iface te pe) := by
  obtain ⟨ps, hv, _⟩ := h
  obtain ⟨g', t', cs, fuel, p, hg', ht', hvar, hd⟩ := laid_var hv _ _ hm
  obtain rfl := Option.some.inj (hg.symm.trans hg')
  obtain rfl := Option.some.inj (hty.symm.trans ht')
  obtain ⟨f1, u, v, e, hn, h1⟩ := iface_of_trod hi hd
  have h0 := World.var?_cell hg hvar 0
  rw [← Array.getElem?_toList, e] at h0
  exact ⟨_, h0, .inr ⟨u, v, rfl⟩⟩
end Go.Sx
