/- Instruments, notes, lines compiled by the program. -/
import Derived.Test.YtnhcoeogejgidabGreatDoorSI
set_option linter.unusedVariables false
set_option linter.unusedSimpArgs false
namespace Go.Sx
open Go.Proofs
set_option maxRecDepth 100000
set_option maxHeartbeats 1000000

section
variable {h0 h : Heap} {q : Addr} {F : Fr} {L : List Blk} {s : GComp} {p : Nat}
theorem inst_15 {b : Option Addr} {k : Nat} {kind : Int} {ws : List (List UInt8)} {x1 x2 x3 a1 a2 a3 : Nat} (I : CInv s) (P0 : Pt rCompiler h0 h q F L (s.comp p)) (S : SlR rS h b 5 k (ws.map mkB)) (sz : (mkB ws[1]!).size ≤ maxLen)
    (f1 : FW .f32 x1 a1) (f2 : FW .f32 x2 a2) (f3 : FW .f32 x3 a3) :
    p_impl_compiler_instrument.J15 (fun u h' => ResC h0 h' q F L (s.add p ⟨mkB ws[1]!, kind, a1, a2, a3⟩) u) q b 5 k kind x1 x2 x3 h := by
  unfold p_impl_compiler_instrument.J15
  have k6 := I.k6
  refine S.str 1 rfl (by decide) ?_
  have O1 := inst_ow (s := mkB ws[1]!) (k := kind) sz f1 f2 f3
  refine (Mem.start h).alc fun g39 h40 x40 M => M.sta0 .here rfl (rInstrument.oone O1) rfl .here fun h41 M => M.lda0 .here rfl ?_
  have R : ∀ {hh : Heap}, rInstrument.rd hh (#[.string (mkB ws[1]!), .int .i64 kind, .float .f32 x1, .float .f32 x2, .float .f32 x3] : Array Value).toList ⟨mkB ws[1]!, kind, a1, a2, a3⟩ := ow_rd O1
  refine goM M (ValidInstrument_c R) fun h44 M => as_b (brN (fun hk => ResC.err (by unfold GComp.add; rw [hk]; rfl) (P0.grow M.ext).mem) fun hok => ?_)
  have P := P0.grow M.ext
  refine P.rd.oL (off := 4) fun b4 l4 c4 S4 => ?_
  refine M.oS .here (j := 0) (n := mkB ws[1]!) rfl (goM M (nameIn_c S4 sz) fun h49 M => as_i ?_)
  have P := P0.grow M.ext
  have ea : decide ((0 : Int) ≤ firstAt (fun x : GInstrument => decide (x.Name = mkB ws[1]!)) s.kinds) = s.kinds.any fun x => decide (x.Name = mkB ws[1]!) := firstAt_any _ _
  show BIF (decide ((0 : Int) ≤ firstAt (fun x : GInstrument => decide (x.Name = mkB ws[1]!)) s.kinds)) _ _
  rw [ea]
  refine br (fun hany => ResC.err ?_ P.mem) fun hany => ?_
  · unfold GComp.add
    rw [hok, if_pos rfl, if_pos hany]
  have ha : ¬ (s.kinds.any fun k => decide (k.Name = (⟨mkB ws[1]!, kind, a1, a2, a3⟩ : GInstrument).Name)) = true := by rw [show (s.kinds.any fun k => decide (k.Name = (⟨mkB ws[1]!, kind, a1, a2, a3⟩ : GInstrument).Name)) = false from hany]; decide
  obtain ⟨b5, l5, c5, e5, S5⟩ := P.hdr (off := 4) (e := T_impl_Instrument) (s := rInstrument)
  obtain rfl : s.kinds.length = l5 := S5.len
  refine o_l e5 (brd (fun h6 => ResC.err ?_ P.mem) fun h6 => o_l e5 (M.lda0 .here rfl (siz rfl ?_)))
  · unfold GComp.add
    rw [hok, if_pos rfl, if_neg ha, if_neg (by omega)]
  have b1 := ins_max (n := s.kinds.length) (by omega)
  rw [ins_nil rfl]
  refine Pt.appP (off := 4) (Bn := []) P e5 E_sl_impl_Instrument (ows_one O1) rfl (by show s.kinds.length + 1 ≤ _; omega) (by show (s.kinds.length + 1) * 40 ≤ _; omega) fun h61 P => ?_
  refine ResC.ok (p := p) (s' := { s with kinds := s.kinds ++ [⟨mkB ws[1]!, kind, a1, a2, a3⟩] }) ?_ P
  unfold GComp.add
  rw [hok, if_pos rfl, if_neg ha, if_pos (by omega)]
theorem inst_10 {b : Option Addr} {k : Nat} {kind : Int} {ws : List (List UInt8)} {t3 : List UInt8} (B : Libs h) (I : CInv s) (P : Pt rCompiler h0 h q F L (s.comp p)) (S : SlR rS h b 5 k (ws.map mkB)) (hl : ∀ j : Nat, (ws[j]!).length ≤ 4096)
    (ht : t3.length ≤ 4096) (e3 : fracL t3 = thirdO kind ws[4]!) :
    p_impl_compiler_instrument.J10 (fun u h' => ResC h0 h' q F L (s.sound p kind ws) u) q b 5 k kind (mkB t3) h := by
  have hmx : (1048576 : Nat) ≤ maxLen := by decide
  have sz : ∀ j : Nat, (mkB ws[j]!).size ≤ maxLen := fun j => by rw [mk_size]; have := hl j; omega
  unfold p_impl_compiler_instrument.J10
  refine S.str 2 rfl (by decide) ((readFraction_c B (by have := hl 2; omega)).mono ?_)
  rintro u1 h13 ⟨V1, x13⟩
  obtain ⟨x1, a1, rfl, f1, e1⟩ := frac_open V1
  have B := B.ext x13
  refine tup2 (as_f (as_b ((S.ext x13).str 3 rfl (by decide) ((readFraction_c B (by have := hl 3; omega)).mono ?_))))
  rintro u2 h21 ⟨V2, x21⟩
  obtain ⟨x2, a2, rfl, f2, e2⟩ := frac_open V2
  have B := B.ext x21
  refine tup2 (as_f (as_b ((readFraction_c B (by omega)).mono ?_)))
  rintro u3 h27 ⟨V3, x27⟩
  obtain ⟨x3, a3, rfl, f3, e3'⟩ := frac_open V3
  have X := (x13.trans x21).trans x27
  have S := S.ext X
  refine tup2 (as_f (as_b (S.str 1 rfl (by decide) (goX (isName_c _ (sz 1) _) fun h35 x35 => as_b ?_))))
  have P := (P.grow X).grow x35
  have S := S.ext x35
  rw [e3]
  refine brN (fun h => ResC.err (sound_bad (.inl h)) P.mem) fun hnm => brN (fun h => ResC.err (sound_bad (.inr (.inl (none_of h)))) P.mem) fun h1 => brN (fun h => ResC.err (sound_bad (.inr (.inr (.inl (none_of h))))) P.mem) fun h2 => brN (fun h => ResC.err (sound_bad (.inr (.inr (.inr (none_of h))))) P.mem) fun h3 => ?_
  obtain ⟨v1, h1⟩ := some_of h1
  obtain ⟨v2, h2⟩ := some_of h2
  obtain ⟨v3, h3⟩ := some_of h3
  obtain rfl := e1 _ h1
  obtain rfl := e2 _ h2
  obtain rfl := e3' _ (e3.trans h3)
  have es : s.sound p kind ws = s.add p ⟨mkB ws[1]!, kind, a1, a2, a3⟩ := by rw [sound_eq, h1, h2, h3]; show (if nameOk (mkB ws[1]!) = true then _ else _) = _; rw [if_pos hnm]
  rw [es]
  exact inst_15 I P S (sz 1) f1 f2 f3
theorem instrument_c {b : Option Addr} {n k : Nat} {ws : List (List UInt8)} (B : Libs h) (I : CInv s) (P : Pt rCompiler h0 h q F L (s.comp p)) (S : SlR rS h b n k (ws.map mkB)) (hn : ws.length = 5) (hl : ∀ j : Nat, (ws[j]!).length ≤ 4096) (hw : soundW ws[0]!) :
    CALL prg f_p_impl_compiler_instrument #[.pointer (some q), .slice b n k] (fun u h' => ResC h0 h' q F L (s.sound p (kindOf ws[0]!) ws) u) h := by
  obtain rfl : n = 5 := by have := S.len; rw [List.length_map] at this; omega
  refine p_impl_compiler_instrument.call ((Mem.start h).alc fun g1 h2 x2 M => (S.ext M.ext).str0 (by decide) ?_)
  have hmx : (1048576 : Nat) ≤ maxLen := by decide
  have SW : SlR rS h2 (some ⟨g1, 0, none⟩) 3 3 (([stringW, pipW, boW] : List (List UInt8)).map mkB) := strs_slr (ls := [stringW, pipW, boW]) M .here (fun x hx => by
    simp only [List.mem_cons, List.not_mem_nil, or_false] at hx
    rcases hx with rfl | rfl | rfl <;> exact Nat.le_trans (show _ ≤ 6 by decide) (Nat.le_trans (by decide) hmx)) (Nat.le_trans (show 3 ≤ 1048576 by decide) hmx)
  refine goM M (Index_string_c SW) fun h6 M => as_i ((S.ext M.ext).str 4 rfl (by decide) ?_)
  have P := P.grow M.ext
  have S := S.ext M.ext
  have B := B.ext M.ext
  have ek : IntKind.i64.wrap (firstAt (fun x => decide (ws[0]! = x)) [stringW, pipW, boW] + 1) = kindOf ws[0]! := by
    unfold kindOf
    rcases hw with h | h | h <;> rw [h] <;> decide +kernel
  rw [ek]
  refine br (fun h2 => ?_) fun h2 => ?_
  · have h2 : kindOf ws[0]! = 2 := eq_of_beq h2
    refine brw opW rfl (fun ho => ?_) fun hno => brw clW rfl (fun hc => ?_) fun hnc => ResC.err (sound_bad (.inr (.inr (.inr ?_)))) P.mem
    · exact inst_10 (t3 := [49]) B I P S hl (by decide) (by rw [h2]; unfold thirdO; rw [if_pos rfl, if_pos ho]; decide +kernel)
    · exact inst_10 (t3 := [48]) B I P S hl (by decide) (by rw [h2]; unfold thirdO; rw [if_pos rfl, if_neg hno, if_pos hc]; decide +kernel)
    · rw [h2]; unfold thirdO; rw [if_pos rfl, if_neg hno, if_neg hnc]
  · have h2 : kindOf ws[0]! ≠ 2 := ne_of_beq_false h2
    exact inst_10 B I P S hl (hl 4) (by unfold thirdO; rw [if_neg h2])
theorem playC_c {b : Option Addr} {n k : Nat} {ws : List (List UInt8)} (B : Libs h) (I : CInv s) (P : Pt rCompiler h0 h q F L (s.comp p)) (S : SlR rS h b n k (ws.map mkB)) (hn : ws.length = 5) (hl : ∀ j : Nat, (ws[j]!).length ≤ 4096) :
    CALL prg f_p_impl_compiler_play #[.pointer (some q), .slice b n k] (fun u h' => ResC h0 h' q F L (s.playL p ws) u) h := by
  obtain rfl : n = 5 := by have := S.len; rw [List.length_map] at this; omega
  have hmx : (1048576 : Nat) ≤ maxLen := by decide
  have sz : ∀ j : Nat, (mkB ws[j]!).size ≤ maxLen := fun j => by rw [mk_size]; have := hl j; omega
  have i0 := I.n0
  have i1 := I.n1
  have n64 := I.n64
  refine p_impl_compiler_play.call (S.str 2 rfl (by decide) ((readSigned_c B (by have := hl 2; omega)).mono ?_))
  rintro u1 h4 ⟨V1, x4⟩
  obtain ⟨key, rfl, e1⟩ := read_open V1
  have B := B.ext x4
  refine tup2 (as_i (as_b ((S.ext x4).str 3 rfl (by decide) ((readFraction_c B (by have := hl 3; omega)).mono ?_))))
  rintro u2 h12 ⟨V2, x12⟩
  obtain ⟨x2, a2, rfl, f2, e2⟩ := frac_open V2
  have B := B.ext x12
  refine tup2 (as_f (as_b ((S.ext (x4.trans x12)).str 4 rfl (by decide) ((read_number (i := 4) (b := b) (n := 5) (k := k) B hl).mono ?_))))
  rintro _ h20 ⟨⟨long, rfl, e3⟩, x20⟩
  have X := (x4.trans x12).trans x20
  have S := S.ext X
  refine tup2 (as_i (as_b (S.str 1 rfl (by decide) (goX (isName_c _ (sz 1) _) fun h28 x28 => as_b ?_))))
  have P := (P.grow X).grow x28
  have S := S.ext x28
  refine brN (fun h => ResC.err (playL_bad (.inl h)) P.mem) fun hnm => brN (fun h => ResC.err (playL_bad (.inr (.inl (none_of h)))) P.mem) fun h1 => brN (fun h => ResC.err (playL_bad (.inr (.inr (.inl (none_of h))))) P.mem) fun h2 => brN (fun h => ResC.err (playL_bad (.inr (.inr (.inr (none_of h))))) P.mem) fun h3 => ?_
  obtain ⟨v1, h1⟩ := some_of h1
  obtain ⟨v2, h2⟩ := some_of h2
  obtain ⟨v3, h3⟩ := some_of h3
  obtain rfl := e1 _ h1
  obtain rfl := e2 _ h2
  obtain rfl := e3 _ h3
  have hw := whole_lt h3
  have es : s.playL p ws = s.note p (mkB ws[1]!) key a2 v3 := by rw [playL_eq, h1, h2, h3]; show (if nameOk (mkB ws[1]!) = true then _ else _) = _; rw [if_pos hnm]
  rw [es]
  unfold p_impl_compiler_play.J6
  refine P.rd.oL (off := 4) fun b4 l4 c4 S4 => S.str 1 rfl (by decide) (goX (nameIn_c S4 (sz 1)) fun h34 x34 => as_i (goX (isKey_c _ _) fun h37 x37 => as_b ?_))
  have P := (P.grow x34).grow x37
  refine brN (fun hk => ResC.err (by unfold GComp.note; rw [hk]; rfl) P.mem) fun hk => P.rd.oI (off := 6) ?_
  show BIF (decide (100000 < IntKind.i64.wrap (s.now + (v3 : Int)))) _ _
  rw [wrap64 (n := s.now + (v3 : Int)) (by omega) (by omega)]
  refine brd (fun hg => ResC.err (by unfold GComp.note; rw [hk, decide_eq_true hg]; rfl) P.mem) fun hg => ?_
  have en : s.note p (mkB ws[1]!) key a2 v3 = if nameAt s.kinds (mkB ws[1]!) < 0 then .error 6 else if s.notes.length < 64 then .ok ({ s with notes := s.notes ++ [⟨s.now, s.now + v3, nameAt s.kinds (mkB ws[1]!), key, a2⟩] }, p + 1) else .error 3 := by
    unfold GComp.note
    rw [hk, decide_eq_false hg]; rfl
  rw [en]
  show BIF (decide (nameAt s.kinds (mkB ws[1]!) < 0)) _ _
  refine brd (fun h => by rw [if_pos h]; exact ResC.err rfl P.mem) fun h => ?_
  rw [if_neg h]
  refine goX (notes_c I P.rd) fun h41 x41 => as_i ?_
  have P := P.grow x41
  refine brd (fun h => by rw [if_neg (by omega)]; exact ResC.err rfl P.mem) fun h => ?_
  rw [if_pos (by omega)]
  unfold p_impl_compiler_play.J13
  refine goX (notes_c I P.rd) fun h44 x44 => as_i ?_
  have P := P.grow x44
  have el : (s.comp p).score.Events.length = 2 * s.notes.length := evsOf_len _
  obtain ⟨b5, l5, c5, e5, S5⟩ := P.hdr (off := 5) (e := T_impl_Event) (s := rEvent)
  refine o_l e5 (P.rd.oI (off := 6) (P.rd.oI (off := 6) (siz rfl (siz rfl ?_))))
  show ALC ⟨[.int .i64 s.now, .int .i64 2, .int .i64 (s.notes.length : Int), .int .i64 (nameAt s.kinds (mkB ws[1]!)), .int .i64 key, .float .f32 x2, .int .i64 (IntKind.i64.wrap (s.now + (v3 : Int))), .int .i64 1, .int .i64 (s.notes.length : Int), .int .i64 0, .int .i64 0, .float .f32 0]⟩ _ _ _
  rw [wrap64 (n := s.now + (v3 : Int)) (by omega) (by omega)]
  have b1 := ins_max (n := s.notes.length) (by omega)
  have hm2 : 256 ≤ maxLen := by decide
  refine Pt.appP (off := 5) (Bn := []) P e5 E_sl_impl_Event (ys := [startE s.notes.length ⟨s.now, s.now + v3, nameAt s.kinds (mkB ws[1]!), key, a2⟩, stopE s.notes.length ⟨s.now, s.now + v3, nameAt s.kinds (mkB ws[1]!), key, a2⟩])
    ⟨[], [], [_, _, _, _, _, _], [_, _, _, _, _, _], rfl, rfl, event_ow f2, [], [], [_, _, _, _, _, _], [], rfl, rfl, event_ow fw0', rfl, rfl⟩ rfl (by omega) (by omega) fun h54 P => ?_
  refine ResC.ok (p := p) (s' := { s with notes := s.notes ++ [⟨s.now, s.now + v3, nameAt s.kinds (mkB ws[1]!), key, a2⟩] }) rfl ?_
  have e : GComp.comp { s with notes := s.notes ++ [⟨s.now, s.now + v3, nameAt s.kinds (mkB ws[1]!), key, a2⟩] } p = { s.comp p with score := { (s.comp p).score with Events := (s.comp p).score.Events ++ [startE s.notes.length ⟨s.now, s.now + v3, nameAt s.kinds (mkB ws[1]!), key, a2⟩, stopE s.notes.length ⟨s.now, s.now + v3, nameAt s.kinds (mkB ws[1]!), key, a2⟩] } } := by
    unfold GComp.comp
    rw [evsOf_snoc]
  rw [e]
  exact P
theorem cut_size (c : UInt8) : ∀ l : List UInt8, (cutL c l).length ≤ l.length + 1
  | [] => Nat.le_refl _
  | b :: l => by
    have ih := cut_size c l
    unfold cutL
    split
    · simp only [List.length_cons]; omega
    · split
      · simp
      · rename_i w r e
        rw [e] at ih
        simp only [List.length_cons] at ih ⊢
        omega
theorem cut_end {l : List UInt8} (h : cutL 32 l = [endW]) : l = endW := (cut_sole h).1
theorem compile_c {l : List UInt8} (B : Libs h) (I : CInv s) (P : Pt rCompiler h0 h q F L (s.comp p)) (hl : l.length ≤ 4096) :
    CALL prg f_p_impl_compiler_compile #[.pointer (some q), .string (mkB l)] (fun u h' => ResC h0 h' q F L (s.line p (cutL 32 l)) u) h := by
  have wl : ∀ j : Nat, ((cutL 32 l)[j]!).length ≤ 4096 := fun j => by
    by_cases hj : j < (cutL 32 l).length
    · rw [getElem!_pos _ j hj]
      have := cut_len (List.getElem_mem hj)
      omega
    · rw [getElem!_neg _ j hj]; exact Nat.zero_le _
  have wl2 : ∀ w ∈ cutL 32 l, w.length ≤ maxLen := fun w hw => by
    have := cut_len hw
    have : 4096 ≤ maxLen := by decide
    omega
  have hc := cut_size 32 l
  have hmx : 8192 ≤ maxLen := by decide
  refine p_impl_compiler_compile.call (Split_c (c := 32) B (by rw [mk_size]; omega) (Mem.start h) fun g h2 x2 M => as_l ?_)
  rw [mkB_data] at M ⊢
  have S : SlR rS h2 (some ⟨g, 0, none⟩) (cutL 32 l).length (cutL 32 l).length ((cutL 32 l).map mkB) := strs_slr M .here wl2 (by omega)
  have P := P.grow x2
  have B := B.ext x2
  have hend : cutL 32 l = [endW] ↔ l = endW := ⟨cut_end, fun e => by rw [e]; rfl⟩
  have hn0 : 0 < (cutL 32 l).length := List.length_pos_iff.2 (cut_ne 32 l)
  generalize cutL 32 l = ws at *
  clear hc M
  refine goX (Contains_string_c (v := []) S) fun h5 x5 => as_b ?_
  have P := P.grow x5
  have S := S.ext x5
  have B := B.ext x5
  refine br (fun he => ResC.err (line_empty ?_) P.mem) fun he => ?_
  · obtain ⟨x, hx, e⟩ := List.any_eq_true.1 he
    rw [of_decide_eq_true e]; exact hx
  -- the word is none of those before, or the number of words is another one
  have Jend : ¬ oneW ws[0]! ∨ ws.length ≠ 2 → ws[0]! ≠ tuneW ∨ ws.length ≠ 3 → ¬ soundW ws[0]! ∨ ws.length ≠ 5 → ws[0]! ≠ playW ∨ ws.length ≠ 5 →
      BIF (ByteArray.toList (mkB l) == ByteArray.toList (⟨#[101, 110, 100]⟩ : ByteArray)) (CALL prg f_p_impl_compiler_end #[.pointer (some q)] (fun q61 h62 => asI .i64 q61 fun n63 => ResC h0 h62 q F L (s.line p ws) (.int .i64 n63)) h5) (ResC h0 h5 q F L (s.line p ws) (.int .i64 5)) := fun k1 k2 k3 k4 => by
    refine brw endW rfl (fun hE => ?_) fun hE => ResC.err ?_ P.mem
    · have e := hend.2 hE
      rw [line_end (by rw [e]; rfl), if_pos (by rw [e]; rfl)]
      exact (end_c I P).mono fun u h62 R => R.int
    · by_cases h1 : oneW ws[0]!
      · rw [line_one h1, if_neg (k1.resolve_left fun h => h h1)]
      by_cases h2 : ws[0]! = tuneW
      · rw [line_tune h2, if_neg (k2.resolve_left fun h => h h2)]
      by_cases h3 : soundW ws[0]!
      · rw [line_sound h3, if_neg (k3.resolve_left fun h => h h3)]
      by_cases h4 : ws[0]! = playW
      · rw [line_play h4, if_neg (k4.resolve_left fun h => h h4)]
      by_cases h5 : ws[0]! = endW
      · rw [line_end h5, if_neg]
        intro h1
        match ws, h1 with
        | [w], _ => exact hE (hend.1 (by rw [show w = endW from h5]))
      · exact line_else h1 h2 h3 h4 h5
  have J13 : ∀ {t : Bool}, (t = true ↔ ws[0]! = playW ∧ ws.length = 5) → (¬ oneW ws[0]! ∨ ws.length ≠ 2 ∨ ws[0]! = repW) → ws[0]! ≠ tuneW ∨ ws.length ≠ 3 → ¬ soundW ws[0]! ∨ ws.length ≠ 5 →
      p_impl_compiler_compile.J13 (fun u h' => ResC h0 h' q F L (s.line p ws) u) q (mkB l) (some ⟨g, 0, none⟩) ws.length ws.length t h5 := fun {t} ht k1 k2 k3 => by
    unfold p_impl_compiler_compile.J13
    refine br (fun h => ?_) fun h => ?_
    · obtain ⟨e1, e2⟩ := ht.1 h
      rw [line_play e1, if_pos e2]
      exact (playC_c B I P S e2 wl).mono fun u h52 R => R.int
    have k4 : ws[0]! ≠ playW ∨ ws.length ≠ 5 := by
      by_cases e1 : ws[0]! = playW
      · exact .inr fun e2 => by rw [ht.2 ⟨e1, e2⟩] at h; cases h
      · exact .inl e1
    refine S.str0 hn0 (brw repW rfl (fun hr => ?_) fun hr => ?_)
    · refine br (fun h2 => ?_) fun h2 => ?_
      · have h2 : (ws.length : Int) = 2 := eq_of_beq h2
        have e : ∀ m, s.one p ws[0]! m = s.open_ p m := fun m => by rw [hr]; rfl
        have es : s.line p ws = match wholeL ws[1]! with | some n => s.open_ p n | none => .error 5 := by
          rw [line_one (.inr (.inr (.inr hr))), if_pos (by omega)]
          cases wholeL ws[1]! with
          | none => rfl
          | some n => exact e n
        rw [es]
        exact (repeat_c B I P S (by omega) wl).mono fun u h59 R => R.int
      · have h2 : (ws.length : Int) ≠ 2 := ne_of_beq_false h2
        exact Jend (.inr (by omega)) k2 k3 k4
    · exact Jend (k1.elim .inl fun h => h.elim .inr fun h => absurd h hr) k2 k3 k4
  have J11 : ∀ {t : Bool}, (t = true ↔ (ws[0]! = atW ∨ ws[0]! = waitW) ∧ ws.length = 2) → ws[0]! ≠ rateW ∨ ws.length ≠ 2 → ws[0]! ≠ tuneW ∨ ws.length ≠ 3 → ¬ soundW ws[0]! ∨ ws.length ≠ 5 →
      p_impl_compiler_compile.J11 (fun u h' => ResC h0 h' q F L (s.line p ws) u) q (mkB l) (some ⟨g, 0, none⟩) ws.length ws.length t h5 := fun {t} ht k0 k2 k3 => by
    unfold p_impl_compiler_compile.J11
    refine br (fun h => ?_) fun h => ?_
    · obtain ⟨e1, e2⟩ := ht.1 h
      rw [line_one (e1.elim (fun h => .inr (.inl h)) fun h => .inr (.inr (.inl h))), if_pos e2]
      exact (move_c B I P S e2 wl e1).mono fun u h45 R => R.int
    have k1 : ¬ oneW ws[0]! ∨ ws.length ≠ 2 ∨ ws[0]! = repW := by
      by_cases e2 : ws.length = 2
      · by_cases e1 : oneW ws[0]!
        · rcases e1 with e | e | e | e
          · exact absurd e2 (k0.resolve_left fun h => h e)
          · rw [ht.2 ⟨.inl e, e2⟩] at h; cases h
          · rw [ht.2 ⟨.inr e, e2⟩] at h; cases h
          · exact .inr (.inr e)
        · exact .inl e1
      · exact .inr (.inl e2)
    refine S.str0 hn0 (brw playW rfl (fun hp => J13 ?_ k1 k2 k3) fun hp => J13 ?_ k1 k2 k3)
    · rw [beq_iff_eq]; constructor
      · intro h; exact ⟨hp, by omega⟩
      · intro h; omega
    · exact ⟨(fun h => by cases h), fun h => absurd h.1 hp⟩
  have J9 : ∀ {t : Bool}, (t = true ↔ soundW ws[0]! ∧ ws.length = 5) → ws[0]! ≠ rateW ∨ ws.length ≠ 2 → ws[0]! ≠ tuneW ∨ ws.length ≠ 3 →
      p_impl_compiler_compile.J9 (fun u h' => ResC h0 h' q F L (s.line p ws) u) q (mkB l) (some ⟨g, 0, none⟩) ws.length ws.length t h5 := fun {t} ht k0 k2 => by
    unfold p_impl_compiler_compile.J9
    refine br (fun h => ?_) fun h => ?_
    · obtain ⟨e1, e2⟩ := ht.1 h
      rw [line_sound e1, if_pos e2]
      exact (instrument_c B I P S e2 wl e1).mono fun u h34 R => R.int
    have k3 : ¬ soundW ws[0]! ∨ ws.length ≠ 5 := by
      by_cases e1 : soundW ws[0]!
      · exact .inr fun e2 => by rw [ht.2 ⟨e1, e2⟩] at h; cases h
      · exact .inl e1
    have num : ∀ {hw : ws[0]! = atW ∨ ws[0]! = waitW}, ((ws.length : Int) == (2 : Int)) = true ↔ (ws[0]! = atW ∨ ws[0]! = waitW) ∧ ws.length = 2 := fun {hw} => by
      rw [beq_iff_eq]
      constructor
      · intro h; exact ⟨hw, by omega⟩
      · intro h; omega
    refine S.str0 hn0 (brw atW rfl (fun ha => J11 (num (hw := .inl ha)) k0 k2 k3) fun ha => S.str0 hn0 (brw waitW rfl (fun hb => J11 (num (hw := .inr hb)) k0 k2 k3) fun hb => J11 ⟨(fun h => by cases h), fun h => absurd h.1 fun h => h.elim ha hb⟩ k0 k2 k3))
  have J7 : ∀ {t : Bool}, (t = true ↔ ws[0]! = tuneW ∧ ws.length = 3) → ws[0]! ≠ rateW ∨ ws.length ≠ 2 →
      p_impl_compiler_compile.J7 (fun u h' => ResC h0 h' q F L (s.line p ws) u) q (mkB l) (some ⟨g, 0, none⟩) ws.length ws.length t h5 := fun {t} ht k0 => by
    unfold p_impl_compiler_compile.J7
    refine br (fun h => ?_) fun h => ?_
    · obtain ⟨e1, e2⟩ := ht.1 h
      rw [line_tune e1, if_pos e2]
      exact (tune_c B I P S e2 wl).mono fun u h19 R => R.int
    have k2 : ws[0]! ≠ tuneW ∨ ws.length ≠ 3 := by
      by_cases e1 : ws[0]! = tuneW
      · exact .inr fun e2 => by rw [ht.2 ⟨e1, e2⟩] at h; cases h
      · exact .inl e1
    have num : ∀ {hw : soundW ws[0]!}, ((ws.length : Int) == (5 : Int)) = true ↔ soundW ws[0]! ∧ ws.length = 5 := fun {hw} => by
      rw [beq_iff_eq]
      constructor
      · intro h; exact ⟨hw, by omega⟩
      · intro h; omega
    exact S.str0 hn0 (brw stringW rfl (fun h => J9 (num (hw := .inl h)) k0 k2) fun n1 => S.str0 hn0 (brw pipW rfl (fun h => J9 (num (hw := .inr (.inl h))) k0 k2) fun n2 => S.str0 hn0 (brw boW rfl (fun h => J9 (num (hw := .inr (.inr h))) k0 k2) fun n3 => J9 ⟨(fun h => by cases h), fun h => absurd h.1 fun h => h.elim n1 fun h => h.elim n2 n3⟩ k0 k2)))
  have J5 : ∀ {t : Bool}, (t = true ↔ ws[0]! = rateW ∧ ws.length = 2) →
      p_impl_compiler_compile.J5 (fun u h' => ResC h0 h' q F L (s.line p ws) u) q (mkB l) (some ⟨g, 0, none⟩) ws.length ws.length t h5 := fun {t} ht => by
    unfold p_impl_compiler_compile.J5
    refine br (fun h => ?_) fun h => ?_
    · obtain ⟨e1, e2⟩ := ht.1 h
      have es : s.line p ws = match wholeL ws[1]! with | some n => s.setRate p n | none => .error 5 := by
        rw [line_one (.inl e1), if_pos e2]
        cases wholeL ws[1]! with
        | none => rfl
        | some n => show s.one p ws[0]! n = _; rw [e1]; rfl
      rw [es]
      exact (rate_c B I P S e2 wl).mono fun u h12 R => R.int
    have k0 : ws[0]! ≠ rateW ∨ ws.length ≠ 2 := by
      by_cases e1 : ws[0]! = rateW
      · exact .inr fun e2 => by rw [ht.2 ⟨e1, e2⟩] at h; cases h
      · exact .inl e1
    refine S.str0 hn0 (brw tuneW rfl (fun h => J7 ?_ k0) fun h => J7 ⟨(fun h => by cases h), fun h' => absurd h'.1 h⟩ k0)
    rw [beq_iff_eq]
    constructor
    · intro h'; exact ⟨h, by omega⟩
    · intro h'; omega
  refine S.str0 hn0 (brw rateW rfl (fun h => J5 ?_) fun h => J5 ⟨(fun h => by cases h), fun h' => absurd h'.1 h⟩)
  rw [beq_iff_eq]
  constructor
  · intro h'; exact ⟨h, by omega⟩
  · intro h'; omega
end
end Go.Sx
