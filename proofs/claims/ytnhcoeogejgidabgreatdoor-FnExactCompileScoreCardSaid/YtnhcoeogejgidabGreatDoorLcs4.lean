/- A score compiled by the rule. -/
import Derived.Test.YtnhcoeogejgidabGreatDoorLcs3
import Derived.Test.YtnhcoeogejgidabGreatDoorLm20
import Derived.Test.YtnhcoeogejgidabGreatDoorLcn
import Derived.Test.YtnhcoeogejgidabGreatDoorLv2
set_option linter.unusedVariables false
set_option linter.unusedSimpArgs false
namespace Go.Sx
open Go.Proofs
set_option maxRecDepth 100000
set_option maxHeartbeats 1000000

/-- A score, a line and a code. -/
def TripR (h h' : Heap) (u : Value) (x : GScore × Int × Int) : Prop := ∃ cs B, u = .tuple ⟨[.agg cs, .int .i64 x.2.1, .int .i64 x.2.2]⟩ ∧ rScore.ow B cs.toList x.1 ∧ Mem h h' B
section
variable {h h' : Heap} {g : Nat} {L : List Blk} {n e : Int} {x : GScore × Int × Int}
theorem trip_bad (M : Mem h h' ((g, T_impl_Score, ⟨Z_impl_Score⟩) :: L)) (he : x = (z_Score, n, e)) : STA 6 h' ⟨g, 0, none⟩ ⟨Z_impl_Score⟩ fun h8 => LDA 6 h8 ⟨g, 0, none⟩ fun a9 => TripR h h8 (.tuple ⟨[.agg a9, .int .i64 n, .int .i64 e]⟩) x := by
  subst he
  exact M.sta0 .here rfl (all_one rfl) rfl .here fun h3 M => M.lda0 .here rfl ⟨_, [], rfl, zow_Score, (Mem.start h).grow M.ext⟩
theorem map_str {ws : List (List UInt8)} {i : Nat} (hi : i < ws.length) : (ws.map mkB)[i]! = mkB ws[i]! := by
  rw [getElem!_pos _ i (by rw [List.length_map]; exact hi), List.getElem_map, getElem!_pos ws i hi]
end
section
variable {h : Heap} {t : List UInt8}
theorem work_ow {B : List Blk} {vs : List Value} {w : GWork} (O : rWork.ow B vs w) : ∃ (x1 x2 x3 : Nat) (db : Option Addr) (dl dc : Nat) (kb : Option Addr) (kl kc : Nat) (nb : Option Addr) (nl nc : Nat) (fb : Option Addr) (fl fc : Nat) (lb : Option Addr) (ll lc : Nat) (Bd Bk Bn R : List Blk),
    vs = [.float .f32 x1, .float .f32 x2, .float .f32 x3, .slice db dl dc, .slice kb kl kc, .slice nb nl nc, .int .i64 w.now, .slice fb fl fc, .slice lb ll lc] ∧ B = Bd ++ (Bk ++ (Bn ++ R)) ∧ FW .f32 x1 w.rate ∧ FW .f32 x2 w.tune.Base ∧ FW .f32 x3 w.tune.Octave ∧
    SlO T_float32 (rF .f32) Bd db dl dc w.tune.Degrees ∧ SlO T_impl_Instrument rInstrument Bk kb kl kc w.kinds ∧ SlO T_spec_l08Note rNote Bn nb nl nc w.notes := by
  obtain ⟨B1, C1, v1, w1, rfl, rfl, O1, B2, C2, v2, w2, rfl, rfl, O2, B3, C3, v3, w3, rfl, rfl, O3, B4, C4, v4, w4, rfl, rfl, O4, B5, C5, v5, w5, rfl, rfl, O5, B6, C6, v6, w6, rfl, rfl, O6, O7⟩ := O
  obtain ⟨rfl, x1, rfl, f1⟩ := O1
  obtain ⟨D1, E1, y1, z1, rfl, rfl, Q1, D2, E2, y2, z2, rfl, rfl, Q2, Q3⟩ := O2
  obtain ⟨rfl, x2, rfl, f2⟩ := Q1
  obtain ⟨rfl, x3, rfl, f3⟩ := Q2
  obtain ⟨db, dl, dc, rfl, Sd⟩ := Q3
  obtain ⟨kb, kl, kc, rfl, Sk⟩ := O3
  obtain ⟨nb, nl, nc, rfl, Sn⟩ := O4
  obtain ⟨rfl, rfl⟩ := O5
  obtain ⟨fb, fl, fc, rfl, Sf⟩ := O6
  obtain ⟨lb, ll, lc, rfl, Sl⟩ := O7
  exact ⟨x1, x2, x3, db, dl, dc, kb, kl, kc, nb, nl, nc, fb, fl, fc, lb, ll, lc, E2, B3, B4, _, rfl, rfl, f1, f2, f3, Sd, Sk, Sn⟩
theorem score_mk {x1 x2 x3 : Nat} {s : GScore} {db kb eb : Option Addr} {dl dc kl kc el ec : Nat} {Bd Bk Be : List Blk} (f1 : FW .f32 x1 s.Rate) (f2 : FW .f32 x2 s.Tuning.Base) (f3 : FW .f32 x3 s.Tuning.Octave)
    (Sd : SlO T_float32 (rF .f32) Bd db dl dc s.Tuning.Degrees) (Sk : SlO T_impl_Instrument rInstrument Bk kb kl kc s.Instruments) (Se : SlO T_impl_Event rEvent Be eb el ec s.Events) :
    rScore.ow (Bd ++ (Bk ++ Be)) [.float .f32 x1, .float .f32 x2, .float .f32 x3, .slice db dl dc, .slice kb kl kc, .slice eb el ec] s :=
  ⟨[], _, [_], _, rfl, rfl, ⟨rfl, x1, rfl, f1⟩, Bd, _, [_, _, _], _, rfl, rfl, ⟨[], _, [_], _, rfl, rfl, ⟨rfl, x2, rfl, f2⟩, [], _, [_], _, rfl, rfl, ⟨rfl, x3, rfl, f3⟩, _, _, _, rfl, Sd⟩, Bk, _, [_], [_], rfl, rfl, ⟨_, _, _, rfl, Sk⟩, _, _, _, rfl, Se⟩
theorem spec_B9 {g1 gw : Nat} {b : Option Addr} {k : Nat} {BL : List Blk} {hh : Heap} (hn : (scoreL t).length ≤ 200) (ht : t.length ≤ 4000) (wl : ∀ j : Nat, ((scoreL t)[j]!).length ≤ 4096)
    (P : Pt rWork h hh ⟨gw, 0, none⟩ ⟨gw, T_spec_l08Work, [], []⟩ ((g1, T_impl_Score, ⟨Z_impl_Score⟩) :: BL) start0.work) (S0 : ∀ {h'' : Heap}, Mem h h'' BL → SlR rS h'' b (scoreL t).length k ((scoreL t).map mkB)) :
    LOOP (spec_CompileScore.B9 (fun u h' => TripR h h' u (compileS t))) (⟨g1, 0, none⟩, b, (scoreL t).length, k, ⟨gw, 0, none⟩, (0 : Int)) hh := by
  have ec : compileS t = endS (scoreL t).length (runS (scoreL t)) := by unfold compileS; rw [if_neg (by omega)]
  rw [ec]
  generalize scoreL t = ls at *
  refine loopN (fun f y hh => ∃ s p, y = ((⟨g1, 0, none⟩ : Addr), b, ls.length, k, (⟨gw, 0, none⟩ : Addr), ((p : Nat) : Int)) ∧ RunAt ls f p s ∧ Pt rWork h hh ⟨gw, 0, none⟩ ⟨gw, T_spec_l08Work, [], []⟩ ((g1, T_impl_Score, ⟨Z_impl_Score⟩) :: BL) s.work)
    ⟨start0, 0, rfl, RunAt.start, P⟩ ?_
  clear P hh
  rintro f y hh ⟨s, p, rfl, R, P⟩ N next
  have hmx : 4096 ≤ maxLen := by decide
  refine brd (fun hc => ?_) fun hc => ?_
  · have hp : p < ls.length := by omega
    have S := S0 (P.mem.sub (List.sublist_cons_self _ _))
    refine S.idn (by decide) hp fun a Ra => Ra.oS1 fun _ => ?_
    rw [map_str hp]
    refine (line_c R.I P (wl p) (by omega)).mono fun u h37 Q => ?_
    unfold ResL at Q
    split at Q
    · rename_i s' p' e
      obtain ⟨rfl, P⟩ := Q
      refine tup2 (as_i (as_i (br_f rfl ?_)))
      obtain ⟨f', rfl, R'⟩ := R.next (by omega) hp e
      exact next f' _ _ (Nat.lt_succ_self _) ⟨s', p', rfl, R', P⟩
    · rename_i c e
      obtain ⟨k, rfl, he, M⟩ := Q
      refine tup2 (as_i (as_i (br_t (bne_iff_ne.2 he) ?_)))
      exact trip_bad M (by rw [R.bad hp e]; rfl)
  · rw [R.done (by omega)]
    rw [show endS ls.length (.ok s) = if s.loops = [] then (s.score, 0, 0) else (z_Score, (ls.length : Int), 4) from rfl]
    refine P.rd.oL (off := 7) fun b7 l7 c7 S7 => ?_
    obtain rfl : s.loops.length = l7 := by have := S7.len; rwa [show s.work.from_ = s.loops.map _ from rfl, List.length_map] at this
    refine brd (fun h0 => trip_bad P.mem (if_neg fun e => by rw [e] at h0; simp at h0)) fun h0 => ?_
    rw [if_pos (List.length_eq_zero_iff.1 (by omega))]
    obtain ⟨cs, B, M, O⟩ := P.out
    obtain ⟨x1, x2, x3, db, dl, dc, kb, kl, kc, nb, nl, nc, fb, fl, fc, lb, ll, lc, Bd, Bk, Bn, Rs, e1, rfl, f1, f2, f3, Sd, Sk, Sn⟩ := work_ow O
    obtain rfl : cs = ⟨[.float .f32 x1, .float .f32 x2, .float .f32 x3, .slice db dl dc, .slice kb kl kc, .slice nb nl nc, .int .i64 s.work.now, .slice fb fl fc, .slice lb ll lc]⟩ := Array.toList_inj.1 e1
    have M := M.cnt (W := (gw, T_spec_l08Work, ⟨[.float .f32 x1, .float .f32 x2, .float .f32 x3, .slice db dl dc, .slice kb kl kc, .slice nb nl nc, .int .i64 s.work.now, .slice fb fl fc, .slice lb ll lc]⟩) :: (g1, T_impl_Score, ⟨Z_impl_Score⟩) :: (Bn ++ (Bd ++ Bk))) (fun p => by simp only [cnt_app, cnt_cons, cnt_nil] at *; omega)
    have SN := Sn.look M ((List.sublist_append_left _ _).trans ((List.sublist_cons_self _ _).trans (List.sublist_cons_self _ _)))
    refine o_f (show cell hh ⟨gw, 0, none⟩ = some (.float .f32 x1) by rw [M.cell .here]; rfl) (M.ldaM (pre := [_]) (mid := [_, _, _]) rfl rfl ?_)
    refine o_l (show cell hh ⟨gw, 4, none⟩ = some (.slice kb kl kc) by rw [M.cell .here]; rfl) (o_l (show cell hh ⟨gw, 5, none⟩ = some (.slice nb nl nc) by rw [M.cell .here]; rfl) ?_)
    obtain rfl : s.notes.length = nl := SN.len
    refine (l08Compiled_c SN R.I.n64).mono ?_
    rintro _ h56 ⟨eb, ec', Be, es, rfl, Oe, So, Me⟩
    have R0 := P.rd
    have X := Me.ext
    have M := (M.join Me).cnt (W := (g1, T_impl_Score, ⟨Z_impl_Score⟩) :: (Bd ++ (Bk ++ Be))) (fun p => by simp only [cnt_app, cnt_cons, cnt_nil] at *; omega)
    refine as_l (R0.pinO (by decide) X (R0.pinO (by decide) X (R0.pin0 (by decide) X (siz rfl ?_))))
    have OS := score_mk (s := s.score) f1 f2 f3 Sd Sk (Se := by rw [show s.score.Events = es from ordE_eq So]; exact Oe)
    exact M.sta0 .here rfl (rScore.oone OS) rfl .here fun h58 M => M.lda0 .here rfl ⟨_, _, rfl, OS, M.drop⟩
end
section
variable {h : Heap} {t : List UInt8}
theorem work0_ow : rWork.ow [] [.float .f32 1194083328, .float .f32 0, .float .f32 0, .slice none 0 0, .slice none 0 0, .slice none 0 0, .int .i64 (0 : Int), .slice none 0 0, .slice none 0 0] { z_Work with rate := 1194083328 } :=
  ⟨[], [], [_], [_, _, _, _, _, _, _, _], rfl, rfl, ⟨rfl, _, rfl, fw_c32 (by decide) (by decide)⟩, [], [], [_, _, _], [_, _, _, _, _], rfl, rfl, zow_Tuning, [], [], [_], [_, _, _, _], rfl, rfl, ⟨none, 0, 0, rfl, SlO.nil⟩, [], [], [_], [_, _, _], rfl, rfl, ⟨none, 0, 0, rfl, SlO.nil⟩, [], [], [_], [_, _], rfl, rfl, ⟨rfl, rfl⟩, [], [], [_], [_], rfl, rfl, ⟨none, 0, 0, rfl, SlO.nil⟩, none, 0, 0, rfl, SlO.nil⟩
theorem tune0 : tuneT 1138491392 12 = equalT 1138491392 12 := by
  unfold tuneT
  rw [if_pos (by decide +kernel)]; rfl
theorem spec_J4 {g1 : Nat} {b : Option Addr} {k : Nat} {BL : List Blk} {hh : Heap} (ht : t.length ≤ 1048576) (M : Mem h hh ((g1, T_impl_Score, ⟨Z_impl_Score⟩) :: BL)) (S0 : ∀ {h'' : Heap}, Mem h h'' BL → SlR rS h'' b (scoreL t).length k ((scoreL t).map mkB)) :
    spec_CompileScore.J4 (fun u h' => TripR h h' u (compileS t)) (mkB t) ⟨g1, 0, none⟩ b (scoreL t).length k hh := by
  have hz := mk_size t
  unfold spec_CompileScore.J4
  refine brd (fun h1 => trip_bad M (by unfold compileS; rw [if_pos (.inl (by omega))])) fun h1 => ?_
  refine brd (fun h2 => trip_bad M (by unfold compileS; rw [if_pos (.inr (by omega))])) fun h2 => ?_
  unfold spec_CompileScore.J6
  refine (spec_EqualTuning_c (fw_c32 (by decide) (by decide))).mono ?_
  rintro _ h21 ⟨cs, Bt, rfl, Ot, Mt⟩
  have sc : cs.size = 3 := osz Ot rfl
  rw [tune0] at Ot
  have M := M.join Mt
  refine tup2 (as_a (as_i ((Mem.start h21).alc fun g26 h27 x27 Mg => Mg.sta0 .here sc (rTuning.oone Ot) rfl .here fun h28 Mg => Mg.lda0 .here sc (siz sc ?_))))
  have M := M.grow Mg.ext
  obtain ⟨C1, O1, c1⟩ := ow_splice (n := 3) work0_ow foc_Work_tune rfl Ot
  generalize splice 1 3 cs _ = vs at O1 ⊢
  refine M.alc fun g30 h31 x31 M => ?_
  have P : Pt rWork h h31 ⟨g30, 0, none⟩ ⟨g30, T_spec_l08Work, [], []⟩ ((g1, T_impl_Score, ⟨Z_impl_Score⟩) :: BL) start0.work := Pt.new O1 (M.cnt fun p => by have := c1 p; simp only [List.append_eq, cnt_app, cnt_cons, cnt_nil] at *; omega)
  refine spec_B9 (by omega) (by omega) (fun j => ?_) P S0
  have key : ∀ w ∈ cutL 10 t, w.length ≤ 4096 := fun w hw => by have := cut_len hw; omega
  by_cases hj : j < (scoreL t).length
  · rw [getElem!_pos _ j hj]
    have hm := List.getElem_mem hj
    refine key _ ?_
    unfold scoreL at hm ⊢
    split at hm
    · rename_i hc
      simp only [if_pos hc]
      exact List.mem_of_mem_take hm
    · rename_i hc
      simp only [if_neg hc]
      exact hm
  · rw [getElem!_neg _ j hj]; exact Nat.zero_le _
theorem spec_CompileScore_c (ht : t.length ≤ 1048576) : CALL prg f_spec_CompileScore #[.string (mkB t)] (fun u h' => TripR h h' u (compileS t)) h := by
  refine spec_CompileScore.call ((Mem.start h).alc fun g1 h2 x2 M => (l01Split_c (c := 10) (by rw [mk_size]; omega)).mono ?_)
  rintro _ h4 ⟨b, n, k, B, rfl, O, M2⟩
  rw [mkB_data] at O
  have M := (M.join M2).cnt (W := (g1, T_impl_Score, ⟨Z_impl_Score⟩) :: B) (fun p => by simp only [cnt_app, cnt_cons, cnt_nil]; omega)
  have S := O.look M (List.sublist_cons_self _ _)
  have hn : (cutL 10 t).length = n := by have := S.len; rwa [List.length_map] at this
  have hn0 : 0 < n := by
    have := List.length_pos_iff.2 (cut_ne 10 t)
    omega
  have hmx := maxLen_lt
  have s2 := S.2.1
  have s3 := S.2.2.1
  refine as_l ?_
  rw [wrap64 (n := (n : Int) - 1) (by omega) (by omega), show (n : Int) - 1 = ((n - 1 : Nat) : Int) by omega]
  refine S.idn (by decide) (by omega) fun a Ra => Ra.oS1 fun _ => ?_
  rw [map_str (by omega)]
  refine brw [] rfl (fun he => ?_) fun he => ?_
  · refine slb (by omega) (by omega) (by omega) ?_
    have es : scoreL t = (cutL 10 t).take (n - 1) := by unfold scoreL; rw [hn, if_pos he]
    have el : (scoreL t).length = n - 1 := by rw [es, List.length_take]; omega
    have := spec_J4 (t := t) (b := slA b k 0 1) (k := k - 0) ht M (fun {h''} M' => by
      have := (O.look M' (List.Sublist.refl _)).pre (i := n - 1) (by omega) 1
      rw [el, es, List.map_take]
      exact this)
    rw [el] at this
    exact this
  · have es : scoreL t = cutL 10 t := by unfold scoreL; rw [hn, if_neg he]
    have el : (scoreL t).length = n := by rw [es, hn]
    have := spec_J4 (t := t) (b := b) (k := k) ht M (fun {h''} M' => by
      have := O.look M' (List.Sublist.refl _)
      rw [el, es]
      exact this)
    rw [el] at this
    exact this
end
end Go.Sx
/- Whole numbers, signed ones, fractions read by the program. -/
set_option linter.unusedVariables false
set_option linter.unusedSimpArgs false
namespace Go.Sx
open Go.Proofs
set_option maxRecDepth 100000
set_option maxHeartbeats 1000000

section
variable {h : Heap}
theorem readDecimal_s {s : ByteArray} (B : Libs h) (hs : s.size ≤ 1048576) : CALL prg f_impl_readDecimal #[.string s] (fun u h' => ∃ v ok, u = .tuple ⟨[.int .i64 v, .bool ok]⟩ ∧ (ok = true → 0 ≤ v → s = decB v.toNat) ∧ (∀ m : Nat, m < 9223372036854775808 → s = decB m → v = (m : Int) ∧ ok = true) ∧ Ext h h') h := by
  have dl : ∀ m : Nat, (decB m).data.toList = Lib.decDigits m := fun m => by unfold decB; simp
  refine impl_readDecimal.call ((ParseInt_c B hs).mono ?_)
  rintro _ h1 ⟨⟨v, e, rfl⟩ | ⟨v, t, x, e, rfl⟩, x1⟩
  · have bd := Lib.parseIntB_bounds e
    refine tup2 (as_i (cmp_eq_nn (br_t rfl (goX (decimal_n (by omega) (by omega) (B.tens.ext x1)) fun h2 x2 => as_s ⟨v, _, rfl, fun hk hv => ?_, fun m hm hd => ?_, x1.trans x2⟩))))
    · obtain ⟨n, rfl⟩ := Int.eq_ofNat_of_zero_le hv
      rw [Lib.itoa_nonneg] at hk
      rw [Int.toNat_natCast]
      have hk := eq_of_beq hk
      rw [toList_data, toList_data] at hk
      rw [← mkB_list s, ← hk]
      simp [decB]
    · subst hd
      rw [dl, parse_dec hm] at e
      obtain rfl : (m : Int) = v := by injection e
      refine ⟨rfl, ?_⟩
      rw [Lib.itoa_nonneg]
      simp [decB]
  · refine tup2 (as_i (cmp_eq_hn (br_f rfl ⟨v, false, rfl, (fun hk => by cases hk), fun m hm hd => ?_, x1⟩)))
    subst hd
    exact absurd (by rw [dl]; exact parse_dec hm) (e (m : Int))
/-- A number that is told so, or none. -/
def ReadV (o : Option Int) (u : Value) : Prop := match o with | some n => u = .tuple ⟨[.int .i64 n, .bool true]⟩ | none => ∃ v, u = .tuple ⟨[.int .i64 v, .bool false]⟩
theorem readWhole_c {l : List UInt8} (B : Libs h) (hs : l.length ≤ 1048576) : CALL prg f_impl_readWhole #[.string (mkB l)] (fun u h' => ReadV ((wholeL l).map fun n => (n : Int)) u ∧ Ext h h') h := by
  have hz := mk_size l
  refine impl_readWhole.call ((readDecimal_s B (by rw [mk_size]; exact hs)).mono ?_)
  rintro _ h1 ⟨v, ok, rfl, k1, k2, x1⟩
  have no : wholeL l = none → ∀ v, ReadV ((wholeL l).map fun n => (n : Int)) (.tuple ⟨[.int .i64 v, .bool false]⟩) := fun e v => by rw [e]; exact ⟨v, rfl⟩
  have dm : ∀ m : Nat, decB m = mkB (Lib.decDigits m) := fun m => rfl
  refine tup2 (as_i (as_b (br (fun hok => brd (fun hv => ?_) fun hv => ⟨no ?_ v, x1⟩) fun hok => ⟨no ?_ v, x1⟩)))
  · have e := k1 hok hv
    rw [dm] at e
    have e := mkB_inj e
    refine ⟨?_, x1⟩
    by_cases h6 : l.length ≤ 6
    · have hw : wholeL l = some v.toNat := whole_iff.2 ⟨e, h6⟩
      rw [hw, show decide (((mkB l).size : Int) ≤ 6) = true from decide_eq_true (by omega)]
      show _ = Value.tuple ⟨[.int .i64 ((v.toNat : Nat) : Int), .bool true]⟩
      rw [Int.toNat_of_nonneg hv]
    · have hw : wholeL l = none := by unfold wholeL; rw [if_pos (by omega)]
      rw [hw, show decide (((mkB l).size : Int) ≤ 6) = false from decide_eq_false (by omega)]
      exact ⟨v, rfl⟩
  · cases hw : wholeL l with
    | none => rfl
    | some m =>
      obtain ⟨e, _⟩ := whole_iff.1 hw
      have := (k2 m (by have := whole_lt hw; omega) (by rw [dm, e])).1
      omega
  · cases hw : wholeL l with
    | none => rfl
    | some m =>
      obtain ⟨e, _⟩ := whole_iff.1 hw
      have := (k2 m (by have := whole_lt hw; omega) (by rw [dm, e])).2
      rw [hok] at this; cases this
theorem CutPrefix_c (l : List UInt8) : CALL prg f_strings_CutPrefix #[.string (mkB l), .string ⟨#[45]⟩] (fun u h' => u = .tuple ⟨[.string (mkB (if l.head? = some 45 then l.tail else l)), .bool (decide (l.head? = some 45))]⟩ ∧ Ext h h') h := by
  refine CALL_of_calls L103.f103 rfl rfl fun w hw => ?_
  subst hw
  refine (Any.strings_CutPrefix L103 (mkB l) ⟨#[45]⟩ w).mono ?_
  rintro e w' ⟨rfl, rfl⟩
  refine ⟨_, rfl, Same.refl _, ?_, Ext.refl _⟩
  rw [mkB_data]
  have hp : Lib.hasPrefix l [45] = decide (l.head? = some 45) := by
    unfold Lib.hasPrefix
    cases l with
    | nil => rfl
    | cons b l =>
      by_cases hb : b = 45
      · subst hb; rfl
      · rw [decide_eq_false (show ¬ (b :: l).head? = some 45 from fun e => hb (Option.some.inj e))]
        show ((45 : UInt8) == b && ([] : List UInt8).isPrefixOf l) = false
        rw [show ((45 : UInt8) == b) = false from beq_eq_false_iff_ne.2 (Ne.symm hb)]; rfl
  have e2 : (⟨#[45]⟩ : ByteArray).data.toList = [45] := rfl
  rw [e2, hp]
  unfold Lib.trimPrefix
  rw [hp]
  by_cases h : l.head? = some 45
  · rw [decide_eq_true h, if_pos rfl, if_pos h]
    show Value.tuple ⟨[.string ⟨(l.drop 1).toArray⟩, _]⟩ = _
    rw [List.drop_one]
  · rw [decide_eq_false h, if_neg h]
    rfl
theorem readSigned_c {l : List UInt8} (B : Libs h) (hs : l.length ≤ 1048576) : CALL prg f_impl_readSigned #[.string (mkB l)] (fun u h' => ReadV (signedL l) u ∧ Ext h h') h := by
  refine impl_readSigned.call (goX (CutPrefix_c l) fun h1 x1 => tup2 (as_s (as_b ?_)))
  by_cases h45 : l.head? = some 45
  · rw [if_pos h45]
    have e : signedL l = (wholeL l.tail).map fun n => -(n : Int) := by unfold signedL; rw [if_pos h45]
    refine (readWhole_c (B.ext x1) (by rw [List.length_tail]; omega)).mono ?_
    rintro u h2 ⟨R, x2⟩
    rw [e]
    cases hw : wholeL l.tail with
    | none =>
      rw [hw] at R
      obtain ⟨v, rfl⟩ := R
      exact tup2 (as_i (as_b (br_t (decide_eq_true h45) ⟨⟨_, rfl⟩, x1.trans x2⟩)))
    | some m =>
      rw [hw] at R
      have R : u = .tuple ⟨[.int .i64 (m : Int), .bool true]⟩ := R
      subst R
      have := whole_lt hw
      refine tup2 (as_i (as_b (br_t (decide_eq_true h45) ⟨?_, x1.trans x2⟩)))
      rw [wrap64 (by omega) (by omega), Int.zero_sub]; rfl
  · rw [if_neg h45]
    have e : signedL l = (wholeL l).map fun n => (n : Int) := by unfold signedL; rw [if_neg h45]
    refine (readWhole_c (B.ext x1) hs).mono ?_
    rintro u h2 ⟨R, x2⟩
    rw [e]
    cases hw : wholeL l with
    | none =>
      rw [hw] at R
      obtain ⟨v, rfl⟩ := R
      exact tup2 (as_i (as_b (br_f (decide_eq_false h45) ⟨⟨_, rfl⟩, x1.trans x2⟩)))
    | some m =>
      rw [hw] at R
      have R : u = .tuple ⟨[.int .i64 (m : Int), .bool true]⟩ := R
      subst R
      exact tup2 (as_i (as_b (br_f (decide_eq_false h45) ⟨rfl, x1.trans x2⟩)))
theorem Cut_c {l : List UInt8} (B : Libs h) (hs : l.length ≤ 1048576) : CALL prg f_strings_Cut #[.string (mkB l), .string ⟨#[47]⟩] (fun u h' => ((∃ a t, l = a ++ 47 :: t ∧ (∀ x ∈ a, x ≠ 47) ∧ u = .tuple ⟨[.string (mkB a), .string (mkB t), .bool true]⟩) ∨ (∀ x ∈ l, x ≠ 47) ∧ u = .tuple ⟨[.string (mkB l), .string (mkB []), .bool false]⟩) ∧ Ext h h') h := by
  refine CALL_of_calls L145.f145 rfl rfl fun w hw => ?_
  subst hw
  obtain ⟨m, hm⟩ := B.mx
  refine (Any.strings_Cut { L145 with } (mkB l) ⟨#[47]⟩ m w (by rw [mk_size]; omega) hm).mono ?_
  rintro e w' ⟨rfl, n, rfl⟩
  refine ⟨_, rfl, ⟨rfl, rfl, rfl, fun e => by cases e⟩, ?_, Ext.refl _⟩
  rw [mkB_data]
  have e2 : (⟨#[47]⟩ : ByteArray).data.toList = [47] := rfl
  rw [e2]
  unfold Lib.cut
  rw [Lib.index_one]
  by_cases hi : 0 ≤ Lib.indexByte l 47
  · rw [if_pos hi]
    obtain ⟨i, hi⟩ := Int.eq_ofNat_of_zero_le hi
    obtain ⟨f1, f2⟩ := Lib.indexByte_some hi
    obtain ⟨g1, g2⟩ := split_at f1 f2
    refine .inl ⟨l.take i, l.drop (i + 1), g1, g2, ?_⟩
    rw [hi]; rfl
  · rw [if_neg hi]
    have := Lib.indexByte_ge l 47
    exact .inr ⟨no_byte (Lib.indexByte_none (by omega)), rfl⟩
theorem readFraction_c {l : List UInt8} (B : Libs h) (hs : l.length ≤ 1048576) : CALL prg f_impl_readFraction #[.string (mkB l)] (fun u h' => FracV (fracL l) u ∧ Ext h h') h := by
  refine impl_readFraction.call ((Cut_c B hs).mono ?_)
  rintro _ h1 ⟨⟨a, t, rfl, ha, rfl⟩ | ⟨ha, rfl⟩, x1⟩
  · have el : fracL (a ++ 47 :: t) = fracW (a :: cutL 47 t) := by rw [fracL_eq, cut_pre ha]
    have hla : a.length ≤ 1048576 := by rw [List.length_append, List.length_cons] at hs; omega
    have hlt : t.length ≤ 1048576 := by rw [List.length_append, List.length_cons] at hs; omega
    rw [el]
    have bad : ∀ {h' : Heap}, fracW (a :: cutL 47 t) = none → Ext h h' → (FracV (fracW (a :: cutL 47 t)) (.tuple ⟨[.float .f32 0, .bool false]⟩) ∧ Ext h h') := fun e X => by
      rw [e]; exact ⟨fracV_none rfl fw0', X⟩
    refine tup3 (as_s (as_s (as_b ((readSigned_c (B.ext x1) hla).mono ?_))))
    rintro u h2 ⟨R, x2⟩
    have X2 := x1.trans x2
    -- what the second word must be
    have w2 : cutL 47 t = [t] ∨ (wholeL t = none ∧ ∀ m, signedL a = some m → fracW (a :: cutL 47 t) = none) := by
      cases hc : cutL 47 t with
      | nil => exact absurd hc (cut_ne 47 t)
      | cons b r =>
        cases r with
        | nil => rw [(cut_sole hc).1]; exact .inl rfl
        | cons c r =>
          right
          refine ⟨?_, fun m hm => rfl⟩
          obtain ⟨t', e, _, _⟩ := cut_head hc (by simp)
          cases hw : wholeL t with
          | none => rfl
          | some m =>
            obtain ⟨e2, _⟩ := whole_iff.1 hw
            have := dec_no m (c := 47) (.inl (by decide)) 47 (by rw [← e2, e]; simp)
            exact absurd rfl this
    have ns : signedL a = none → fracW (a :: cutL 47 t) = none := fun e => by
      cases hc : cutL 47 t with
      | nil => exact absurd hc (cut_ne 47 t)
      | cons b r =>
        cases r with
        | nil => show (signedL a).bind _ = none; rw [e]; rfl
        | cons c r => rfl
    have nw : wholeL t = none → fracW (a :: cutL 47 t) = none := fun e => by
      rcases w2 with h | h
      · rw [h]
        show (signedL a).bind _ = none
        cases signedL a with
        | none => rfl
        | some m => show (wholeL t).bind _ = none; rw [e]; rfl
      · cases hsg : signedL a with
        | none => exact ns hsg
        | some m => exact h.2 m hsg
    have wh : ∀ {v1 : Int} {b1 : Bool}, CALL prg f_impl_readWhole #[.string (mkB t)] (fun u h' => ReadV ((wholeL t).map fun n => (n : Int)) u ∧ Ext h2 h') h2 := fun {v1 b1} => readWhole_c (B.ext X2) hlt
    cases hsg : signedL a with
    | none =>
      rw [hsg] at R
      obtain ⟨v, rfl⟩ := R
      refine tup2 (as_i (as_b (br_f rfl ((readWhole_c (B.ext X2) hlt).mono ?_))))
      rintro u h3 ⟨R3, x3⟩
      have X3 := X2.trans x3
      cases hw : wholeL t with
      | none =>
        rw [hw] at R3
        obtain ⟨v3, rfl⟩ := R3
        exact tup2 (as_i (as_b (br_t rfl (bad (ns hsg) X3))))
      | some d =>
        rw [hw] at R3
        have R3 : u = .tuple ⟨[.int .i64 (d : Int), .bool true]⟩ := R3
        subst R3
        exact tup2 (as_i (as_b (br_t rfl (bad (ns hsg) X3))))
    | some m =>
      rw [hsg] at R
      have R : u = .tuple ⟨[.int .i64 m, .bool true]⟩ := R
      subst R
      refine tup2 (as_i (as_b (br_f rfl ((readWhole_c (B.ext X2) hlt).mono ?_))))
      rintro u h3 ⟨R3, x3⟩
      have X3 := X2.trans x3
      cases hw : wholeL t with
      | none =>
        rw [hw] at R3
        obtain ⟨v3, rfl⟩ := R3
        exact tup2 (as_i (as_b (br_f rfl (br_t rfl (bad (nw hw) X3)))))
      | some e =>
        rw [hw] at R3
        have R3 : u = .tuple ⟨[.int .i64 (e : Int), .bool true]⟩ := R3
        subst R3
        have h1t : cutL 47 t = [t] := by
          rcases w2 with h | h
          · exact h
          · rw [h.1] at hw; cases hw
        have ef : fracW (a :: cutL 47 t) = if byOk e then some (fdiv .f32 (FloatKind.f32.nearest m) (FloatKind.f32.nearest e)) else none := by
          rw [h1t]
          show (signedL a).bind _ = _
          rw [hsg]
          show (wholeL t).bind _ = _
          rw [hw]; rfl
        have nb : byOk e = false → fracW (a :: cutL 47 t) = none := fun h => by rw [ef, h]; rfl
        refine tup2 (as_i (as_b (br_f rfl (br_f rfl (goX (within_c _ _ _ _) fun h4 x4 => as_b ?_)))))
        have X4 := X3.trans x4
        refine brN (fun hb => bad (nb ?_) X4) fun hb => ?_
        · unfold byOk
          unfold inR at hb
          have : (decide (2 ≤ e) && decide (e ≤ 1024)) = false := by
            rw [Bool.eq_false_iff] at hb ⊢
            intro h; apply hb
            simp only [Bool.and_eq_true, decide_eq_true_eq] at h ⊢
            omega
          rw [this]; rfl
        · simp only [inR, Bool.and_eq_true, decide_eq_true_eq] at hb
          rw [and_nat (by omega) (by omega)]
          refine br (fun h4 => bad (nb ?_) X4) fun h4 => ?_
          · unfold byOk
            have : (e &&& (e - 1) == 0) = false := by rw [beq_eq_false_iff_ne]; intro hz; rw [hz] at h4; simp at h4
            rw [this, Bool.and_false]
          · have hz : e &&& (e - 1) = 0 := by simpa using h4
            have hk : byOk e = true := by unfold byOk; rw [decide_eq_true (by omega), decide_eq_true (by omega), hz]; rfl
            refine fD (fw_nearest _ _) (fw_nearest _ _) fun r hr => ⟨?_, X4⟩
            rw [ef, hk]
            exact ⟨r, rfl, hr⟩
  · have el : fracL l = (signedL l).map FloatKind.f32.nearest := by rw [fracL_eq, cut_none ha]; rfl
    rw [el]
    refine tup3 (as_s (as_s (as_b ((readSigned_c (B.ext x1) hs).mono ?_))))
    rintro u h2 ⟨R, x2⟩
    cases hsg : signedL l with
    | none =>
      rw [hsg] at R
      obtain ⟨v, rfl⟩ := R
      exact tup2 (as_i (as_b (br_t rfl ⟨⟨_, rfl, fw_nearest _ _⟩, x1.trans x2⟩)))
    | some m =>
      rw [hsg] at R
      have R : u = .tuple ⟨[.int .i64 m, .bool true]⟩ := R
      subst R
      exact tup2 (as_i (as_b (br_t rfl ⟨⟨_, rfl, fw_nearest _ _⟩, x1.trans x2⟩)))
end
end Go.Sx
