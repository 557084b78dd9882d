/- Pipes read. -/
import Derived.Test.YtkgmfiloghhibaaGreatDoorLvg
import Derived.Test.YtkgmfiloghhibaaGreatDoorTL
import Derived.Test.YtkgmfiloghhibaaGreatDoorLvl
import Derived.Test.YtkgmfiloghhibaaGreatDoorLk14
import Derived.Test.YtkgmfiloghhibaaGreatDoorLk94
import Derived.Test.YtkgmfiloghhibaaGreatDoorLk59
import Derived.Test.YtkgmfiloghhibaaGreatDoorLp5
import Derived.Test.YtkgmfiloghhibaaGreatDoorLgn
import Derived.Test.YtkgmfiloghhibaaGreatDoorLk56
import Derived.Test.YtkgmfiloghhibaaGreatDoorLk21
import Derived.Test.YtkgmfiloghhibaaGreatDoorTab
import Derived.Test.YtkgmfiloghhibaaGreatDoorLk76
import Derived.Test.YtkgmfiloghhibaaGreatDoorLv0
import Derived.Test.YtkgmfiloghhibaaGreatDoorLk93
import Derived.Test.YtkgmfiloghhibaaGreatDoorK2
import Derived.Test.YtkgmfiloghhibaaGreatDoorLk10
set_option linter.unusedVariables false
set_option linter.unusedSimpArgs false
namespace Go.Sx
open Go.Proofs
set_option maxRecDepth 100000
set_option maxHeartbeats 2000000

theorem three_cells {h : Heap} {b : Option Addr} {c a1 a2 a3 : Nat} (S : SlR (rF .f32) h b 3 c [a1, a2, a3]) : ∃ p y1 y2 y3, b = some p ∧ cell h p = some (.float .f32 y1) ∧ cell h (p.add 1) = some (.float .f32 y2) ∧ cell h (p.add 2) = some (.float .f32 y3) ∧ FW .f32 y1 a1 ∧ FW .f32 y2 a2 ∧ FW .f32 y3 a3 := by
  obtain ⟨p, rfl, v1, c1, y1, rfl, f1⟩ := S.elem (i := 0) (by decide) (by decide)
  obtain ⟨p2, e2, v2, c2, y2, rfl, f2⟩ := S.elem (i := 1) (by decide) (by decide)
  cases e2
  obtain ⟨p3, e3, v3, c3, y3, rfl, f3⟩ := S.elem (i := 2) (by decide) (by decide)
  cases e3
  have k1 := c1 0 _ rfl
  have k2 := c2 0 _ rfl
  have k3 := c3 0 _ rfl
  rw [add0] at k1 k2 k3
  have k1 : cell h (p.add 0) = _ := k1
  rw [add0] at k1
  exact ⟨p, y1, y2, y3, rfl, k1, k2, k3, f1, f2, f3⟩
theorem pkind_open (x : GPipe) : (ByteArray.toList (mkB (pkind x)) == ByteArray.toList (⟨#[111, 112, 101, 110]⟩ : ByteArray)) = x.Open := by
  unfold pkind
  cases x.Open
  · decide +kernel
  · decide +kernel
/-- A pipe read so far. -/
def pipeRd (x : GPipe) (i : Nat) : GPipe := { x with Right := x.Right.take ((i + 1) / 2), Left := x.Left.take (i / 2) }
theorem tmod_two (i : Nat) : (Int.tmod (i : Int) 2 == 0) = (i % 2 == 0) := by
  show (Int.tmod (i : Int) ((2 : Nat) : Int) == 0) = _
  rw [← Int.ofNat_tmod]
  rcases Nat.mod_two_eq_zero_or_one i with e | e <;> rw [e] <;> rfl
theorem twoR_even (a b : List GRing) {m : Nat} : ∀ n, m < n → (twoR a b n)[2 * m]! = a[m]!
  | 0, h => by omega
  | n + 1, h => by
    rw [twoR, get_app, twoR_len]
    by_cases e : m = n
    · subst e; rw [if_neg (by omega), Nat.sub_self]; rfl
    · rw [if_pos (by omega)]; exact twoR_even a b n (by omega)
theorem twoR_odd (a b : List GRing) {m : Nat} : ∀ n, m < n → (twoR a b n)[2 * m + 1]! = b[m]!
  | 0, h => by omega
  | n + 1, h => by
    rw [twoR, get_app, twoR_len]
    by_cases e : m = n
    · subst e; rw [if_neg (by omega), show 2 * m + 1 - 2 * m = 1 from by omega]; rfl
    · rw [if_pos (by omega)]; exact twoR_odd a b n (by omega)
section
variable {h : Heap} {x : GPipe}
theorem ReadPipe_ok (hok : x.ok = true) (A : PipeA x) (T : Txt h) : CALL prg f_impl_ReadPipe #[.string (mkB (linL x.lines))] (fun u h' => PairR rPipe h h' u x 0) h := by
  have B := A.b'
  have sz := B.size
  have ln := B.len
  have n1 := A.n1
  have n3 := A.n3
  have nl := A.nl
  have ns := A.ns
  have hmx : (1048576 : Nat) ≤ maxLen := by decide
  have n123 : x.Right.length = 1 ∨ x.Right.length = 2 ∨ x.Right.length = 3 := by omega
  have e2 : IntKind.i64.wrap (Int.tdiv (IntKind.i64.wrap (((2 * x.Right.length + 3 : Nat) : Int) - 3)) 2) = (x.Right.length : Int) := by
    rcases n123 with e | e | e <;> rw [e] <;> decide
  have e3 : IntKind.i64.wrap (IntKind.i64.wrap (2 * (x.Right.length : Int)) + 3) = ((2 * x.Right.length + 3 : Nat) : Int) := by
    rcases n123 with e | e | e <;> rw [e] <;> decide
  refine impl_ReadPipe.call ((Mem.start h).alc fun g1 h1 x1 M => goM M Count_c fun h2 M => as_i ?_)
  rw [mkB_data, count_lin B.mem, ln, e2, e3]
  refine ⟨by decide, ?_⟩
  refine linesOf_ok (T.ext M.ext) (ls := x.lines) (m := 2 * x.Right.length + 3) ln (by omega) B.mem (by omega) M fun g h3 x3 M => tup2 (as_l (as_b (br_f rfl ?_)))
  refine goM M (within_c _ _ _ _) fun h4 M => as_b ?_
  rw [show inR (x.Right.length : Int) 1 3 = true by simp only [inR, Bool.and_eq_true, decide_eq_true_eq]; omega]
  refine br_f rfl ?_
  unfold impl_ReadPipe.J5
  have lne : ∀ {hh : Heap} (j : Nat) {s : List UInt8} {K : ByteArray → Prop} {W : List Blk}, Mem h hh W → Look W g (strV (x.lines ++ [[]])) → (x.lines ++ [[]])[j]? = some s → K (mkB s) → oS (cell hh ⟨g, j, none⟩) K := fun {hh} j {s K W} M l e H => by
    refine M.oS l (j := j) (n := mkB s) ?_ H
    unfold strV
    rw [List.getElem?_toArray, List.getElem?_map, e]; rfl
  have ec0 : cutL 32 (pline0 x) = pipeW :: pkind x :: [x.Loss, x.Rest, x.Slope].map bitL := words_cut B.words0
  have ec1 : cutL 32 (wordsL (scatW :: x.Scatter.map bitL)) = scatW :: x.Scatter.map bitL := words_cut B.words1
  have hk6 : (pkind x).length ≤ 6 := by unfold pkind; split <;> decide
  have s0 := smp_le A.b.b
  have l0 : (pline0 x).length ≤ 50 := by
    rw [pline0_eq x]
    simp only [List.length_append, List.length_cons, List.length_nil] at s0 ⊢
    have : pipeW.length = 4 := rfl
    omega
  have l1 : (wordsL (scatW :: x.Scatter.map bitL)).length ≤ 1048576 := by
    refine Nat.le_trans (words_size (k := 10) fun w hw => ?_) (show (10 + 1) * (x.Scatter.map bitL).length.succ ≤ 1048576 by rw [List.length_map]; omega)
    rcases List.mem_cons.1 hw with rfl | hw
    · decide
    · have := bits_len B.s w hw; omega
  refine idxs (by omega) (by omega) (lne 0 M .here rfl (Split_c (c := 32) (T.ext M.ext).lb (by rw [mk_size]; show (pline0 x).length ≤ _; omega) M fun gw h5 x5 M => as_l ?_))
  rw [mkB_data, show cutL 32 (wordsL (pipeW :: (if x.Open then openW else closW) :: [x.Loss, x.Rest, x.Slope].map bitL)) = _ from ec0] at M ⊢
  have el : (pipeW :: pkind x :: [x.Loss, x.Rest, x.Slope].map bitL).length = 5 := rfl
  rw [el]
  refine br_f (by simp) (slb (by omega) (by omega) (by omega) ?_)
  have S1 := slr_drop (n := 2) (strV_slr M .here (fun y hy => by
    simp only [List.mem_cons, List.mem_map] at hy
    rcases hy with rfl | rfl | ⟨n, hn, rfl⟩
    · exact Nat.le_trans (show pipeW.length ≤ 1048576 by decide) hmx
    · omega
    · have := bitL_len (A.b n (by simpa using hn)).lt; omega) (by rw [el]; decide)) (by rw [el]; omega)
  rw [el] at S1
  have eb : ((pipeW :: pkind x :: [x.Loss, x.Rest, x.Slope].map bitL).map mkB).drop 2 = bitsS [x.Loss, x.Rest, x.Slope] := map_bits _
  rw [eb] at S1
  refine (readSamples_ok S1 A.b (by omega) (T.ext M.ext).br).mono ?_
  rintro _ h6 ⟨bn, cn, Bn, rfl, On, N⟩
  have M := (M.join N).cnt (W := (gw, T_string, strV (pipeW :: pkind x :: [x.Loss, x.Rest, x.Slope].map bitL)) :: (g, T_string, strV (x.lines ++ [[]])) :: (Bn ++ [(g1, T_impl_Pipe, ⟨Z_impl_Pipe⟩)])) (fun p => by simp only [List.append_eq, cnt_app, cnt_cons, cnt_nil]; omega)
  refine tup2 (as_l (as_b (idxs (by omega) (by omega) ?_)))
  rw [add_none]
  refine lne 1 M (.there .here) rfl (Split_c (c := 32) (T.ext M.ext).lb (by rw [mk_size]; exact l1) M fun gs h7 x7 M => as_l ?_)
  rw [mkB_data, ec1] at M ⊢
  have el2 : (scatW :: x.Scatter.map bitL).length = x.Right.length := by rw [List.length_cons, List.length_map, ns]
  rw [el2]
  refine slb (by omega) (by omega) (by omega) ?_
  have S2 := slr_drop (n := 1) (strV_slr M .here (fun y hy => by
    rcases List.mem_cons.1 hy with rfl | hy
    · exact Nat.le_trans (show scatW.length ≤ 1048576 by decide) hmx
    · have := bits_len B.s y hy; omega) (by rw [el2]; omega)) (by rw [el2]; omega)
  rw [el2] at S2
  have eb2 : ((scatW :: x.Scatter.map bitL).map mkB).drop 1 = bitsS x.Scatter := map_bits _
  rw [eb2] at S2
  refine (readSamples_ok S2 A.s (by omega) (T.ext M.ext).br).mono ?_
  rintro _ h8 ⟨bs, cs2, Bs, rfl, Os, N⟩
  have M := (M.join N).cnt (W := (gw, T_string, strV (pipeW :: pkind x :: [x.Loss, x.Rest, x.Slope].map bitL)) :: (g, T_string, strV (x.lines ++ [[]])) :: (Bn ++ (Bs ++ [(g1, T_impl_Pipe, ⟨Z_impl_Pipe⟩)]))) (fun p => by simp only [List.append_eq, cnt_app, cnt_cons, cnt_nil]; omega)
  refine tup2 (as_l (as_b (idxs (by omega) (by omega) ?_)))
  rw [add_none]
  refine lne 2 M (.there .here) rfl ((ReadFilter_ok A.eo A.e (T.ext M.ext)).mono ?_)
  rintro _ h9 ⟨ct, rfl, Ot, x9⟩
  have M := M.grow x9
  have sct : ct.size = 6 := osz Ot rfl
  refine tup2 (as_a (as_i (M.alc fun g53 h10 x10 M => M.sta0 .here sct (rFilter.oone Ot) rfl .here fun h11 M => br_f rfl (br_f rfl (br_f rfl ?_)))))
  unfold impl_ReadPipe.J13
  obtain ⟨p1, y1, y2, y3, rfl, k1, k2, k3, f1, f2, f3⟩ := three_cells (On.look M ((List.sublist_append_left _ _).trans ((List.sublist_cons_self _ _).trans ((List.sublist_cons_self _ _).trans (List.sublist_cons_self _ _)))))
  refine M.lda0 .here sct (idxs (by omega) (by omega) ?_)
  rw [add_none]
  refine M.oS (.there .here) (j := 1) (n := mkB (pkind x)) rfl (idxs (by omega) (by omega) (o_f k1 (idxs (by omega) (by omega) (o_f k2 (idxs (by omega) (by omega) (o_f k3 (siz sct ?_)))))))
  rw [pkind_open]
  refine M.alc fun gx h12 x12 M2 => pin1 x12 k3 (pin1 x12 k2 (pin1 x12 k1 (M.pin1 (.there .here) (by show 0 + 1 < 5; decide) x12 (M.pin2 .here M2 (.there .here) ?_))))
  have O0 : rPipe.ow (Bs ++ []) [.slice none 0 0, .slice none 0 0, .slice bs (x.Right.length - 1) cs2, .int .i64 (0 : Int), .float .f32 0, .float .f32 0, .float .f32 0, .float .f32 0, .float .f32 0, .bool false, .float .f32 0, .float .f32 0, .float .f32 0] { z_Pipe with Scatter := x.Scatter } :=
    ⟨[], _, [_], _, rfl, rfl, ⟨_, _, _, rfl, SlO.nil⟩, [], _, [_], _, rfl, rfl, ⟨_, _, _, rfl, SlO.nil⟩, _, [], [_], _, rfl, rfl, ⟨_, _, _, rfl, Os⟩, [], [], [_, _, _, _, _, _], [_, _, _, _], rfl, rfl, zow_Filter, [], [], [_], [_, _, _], rfl, rfl, ⟨rfl, rfl⟩, [], [], [_], [_, _], rfl, rfl, ⟨rfl, 0, rfl, fw0⟩, [], [], [_], [_], rfl, rfl, ⟨rfl, 0, rfl, fw0⟩, ⟨rfl, 0, rfl, fw0⟩⟩
  obtain ⟨C1, P1, c1⟩ := ow_splice O0 foc_Pipe_End rfl Ot
  obtain ⟨C2, P2, c2⟩ := ow_set P1 foc_Pipe_Open rfl (b := x.Open) (v := .bool x.Open) ⟨rfl, rfl⟩
  obtain ⟨C3, P3, c3⟩ := ow_set P2 foc_Pipe_Loss rfl ⟨rfl, y1, rfl, f1⟩
  obtain ⟨C4, P4, c4⟩ := ow_set P3 foc_Pipe_Rest rfl ⟨rfl, y2, rfl, f2⟩
  obtain ⟨C5, P5, c5⟩ := ow_set P4 foc_Pipe_Slope rfl ⟨rfl, y3, rfl, f3⟩
  have M := M2.cnt (W := (gx, T_impl_Pipe, ⟨Z_impl_Pipe⟩) :: (C5 ++ [(g, T_string, strV (x.lines ++ [[]])), (g1, T_impl_Pipe, ⟨Z_impl_Pipe⟩)])) (fun p => by have := c1 p; have := c2 p; have := c3 p; have := c4 p; have := c5 p; simp only [List.append_eq, cnt_app, cnt_cons, cnt_nil] at *; omega)
  refine M.sta0 .here (osz (cs := ⟨_⟩) P5 rfl) (rPipe.oone P5) rfl .here fun h13 M => slb (by omega) (by omega) (by omega) ?_
  have P : Pt rPipe h h13 ⟨gx, 0, none⟩ ⟨gx, T_impl_Pipe, [], []⟩ [(g, T_string, strV (x.lines ++ [[]])), (g1, T_impl_Pipe, ⟨Z_impl_Pipe⟩)] (pipeRd x 0) := by
    have := Pt.new P5 M
    exact this
  have eN : 2 * x.Right.length + 3 - 3 = 2 * x.Right.length := by omega
  rw [eN]
  have eLn : (x.lines ++ [[]]).drop 3 = (twoR x.Right x.Left x.Right.length).map GRing.line ++ [[]] := by
    rw [← duo_two A.nl _ (Nat.le_refl _), List.take_length, ← A.nl, List.take_length]
    rfl
  have tl := twoR_len x.Right x.Left x.Right.length
  refine loop (fun y hh => ∃ i : Nat, y = (mkB (linL x.lines), ⟨g1, 0, none⟩, ⟨gx, 0, none⟩, some ((⟨g, 0, none⟩ : Addr).add (3 * 1)), 2 * x.Right.length, 2 * x.Right.length + 3 + 1 - 3, ((2 * x.Right.length : Nat) : Int), (i : Int)) ∧ i ≤ 2 * x.Right.length ∧ Pt rPipe h hh ⟨gx, 0, none⟩ ⟨gx, T_impl_Pipe, [], []⟩ [(g, T_string, strV (x.lines ++ [[]])), (g1, T_impl_Pipe, ⟨Z_impl_Pipe⟩)] (pipeRd x i)) (fun y => (((2 * x.Right.length : Nat) : Int) - y.2.2.2.2.2.2.2).toNat)
    ⟨0, by
      have e : slA (some (⟨g, 0, none⟩ : Addr)) (2 * x.Right.length + 3 + 1) 3 1 = some ((⟨g, 0, none⟩ : Addr).add (3 * 1)) := by
        unfold slA
        simp
        try omega
      rw [e]; rfl, by omega, P⟩ ?_
  clear P M
  rintro y hh ⟨i, rfl, hi, P⟩
  refine brd (fun hc => ?_) fun hc => ?_
  · have ra : RingA (twoR x.Right x.Left x.Right.length)[i]! := by
      have hm := mem_get (l := twoR x.Right x.Left x.Right.length) (i := i) (by omega)
      exact (twoR_mem _ (Nat.le_refl _) (by omega) _ hm).elim (A.r _) (A.l _)
    have eli : (x.lines ++ [[]])[3 + i]? = some (twoR x.Right x.Left x.Right.length)[i]!.line := by
      have : (x.lines ++ [[]])[3 + i]? = ((x.lines ++ [[]]).drop 3)[i]? := by rw [List.getElem?_drop]
      rw [this, eLn, List.getElem?_append_left (by rw [List.length_map]; omega), List.getElem?_map, getElem!_pos _ i (by omega), List.getElem?_eq_getElem (by omega)]
      rfl
    refine idxs (by omega) (by omega) ?_
    rw [Int.toNat_natCast, add_none, add_none, Nat.zero_add, Nat.mul_one, Nat.mul_one]
    refine lne (3 + i) P.mem .here eli ((readRing_ok ra (T.ext P.ext)).mono ?_)
    rintro _ h14 ⟨b, l, c, Br, rfl, Or, N⟩
    refine tup2 (as_a (as_b (N.alc fun g84 h15 x15 N => N.sta0 .here rfl (rRing.oone (ow_ring Or)) rfl .here fun h16 N => br_f rfl ⟨by decide, ?_⟩)))
    have OR := ow_ring Or
    have P := (P.join N).cnt (W := Br ++ [(g84, T_impl_Ring, ⟨[.slice b l c, .int .i64 (twoR x.Right x.Left x.Right.length)[i]!.At]⟩), (g, T_string, strV (x.lines ++ [[]])), (g1, T_impl_Pipe, ⟨Z_impl_Pipe⟩)]) (fun p => by simp only [List.append_eq, cnt_app, cnt_cons, cnt_nil]; omega)
    rw [tmod_two]
    obtain ⟨m, rfl | rfl⟩ : ∃ m, i = 2 * m ∨ i = 2 * m + 1 := ⟨i / 2, by omega⟩
    · refine br_t (by simp) ?_
      have e1 : pipeRd x (2 * m + 1) = { pipeRd x (2 * m) with Right := (pipeRd x (2 * m)).Right ++ [(twoR x.Right x.Left x.Right.length)[2 * m]!] } := by
        rw [twoR_even _ _ _ (by omega)]
        unfold pipeRd
        dsimp only
        rw [show (2 * m + 1) / 2 = m from by omega, show 2 * m / 2 = m from by omega, show (2 * m + 1 + 1) / 2 = m + 1 from by omega, take_snoc (by omega)]
      have hlen : (pipeRd x (2 * m)).Right.length ≤ 3 := by unfold pipeRd; rw [List.length_take]; omega
      obtain ⟨b2, l2, c2, ec, push⟩ := P.pushX (off := 0) (P := prg) (ty := T_sl_impl_Ring) E_sl_impl_Ring (cs := ⟨[.slice b l c, .int .i64 (twoR x.Right x.Left x.Right.length)[2 * m]!.At]⟩) OR (by omega) (by omega)
      rw [add0] at ec push
      refine o_l ec (P.mem.lda0 (Look.skip .here) rfl (siz rfl ?_))
      refine push _ fun h17 P => ⟨⟨2 * m + 1, by rw [wrap64_succ (by omega)], by omega, ?_⟩, by rw [wrap64_succ (by omega)]; show _ < _; simp; omega⟩
      rw [e1]
      exact P.cnt fun p => by simp only [cnt_cons, cnt_nil]; omega
    · refine br_f (by simp) ?_
      have e1 : pipeRd x (2 * m + 1 + 1) = { pipeRd x (2 * m + 1) with Left := (pipeRd x (2 * m + 1)).Left ++ [(twoR x.Right x.Left x.Right.length)[2 * m + 1]!] } := by
        rw [twoR_odd _ _ _ (by omega)]
        unfold pipeRd
        dsimp only
        rw [show (2 * m + 1) / 2 = m from by omega, show (2 * m + 1 + 1) / 2 = m + 1 from by omega, show (2 * m + 1 + 1 + 1) / 2 = m + 1 from by omega, take_snoc (l := x.Left) (by omega)]
      have hlen : (pipeRd x (2 * m + 1)).Left.length ≤ 3 := by unfold pipeRd; rw [List.length_take]; omega
      obtain ⟨b2, l2, c2, ec, push⟩ := P.pushX (off := 1) (P := prg) (ty := T_sl_impl_Ring) E_sl_impl_Ring (cs := ⟨[.slice b l c, .int .i64 (twoR x.Right x.Left x.Right.length)[2 * m + 1]!.At]⟩) OR (by omega) (by omega)
      refine o_l ec (P.mem.lda0 (Look.skip .here) rfl (siz rfl ?_))
      refine push _ fun h17 P => ⟨⟨2 * m + 1 + 1, by rw [wrap64_succ (by omega)], by omega, ?_⟩, by rw [wrap64_succ (by omega)]; show _ < _; simp; omega⟩
      rw [e1]
      exact P.cnt fun p => by simp only [cnt_cons, cnt_nil]; omega
  obtain rfl : i = 2 * x.Right.length := by omega
  have ex : pipeRd x (2 * x.Right.length) = x := by
    unfold pipeRd
    rw [List.take_of_length_le (by omega), List.take_of_length_le (by omega)]
  rw [ex] at P
  obtain ⟨cx, Bx, M, Ox⟩ := P.out
  refine M.lda0 .here (osz Ox rfl) ?_
  have RX : rPipe.rd hh cx.toList x := rPipe.look Ox M ((List.sublist_append_left _ _).trans (List.sublist_cons_self _ _))
  refine goM M (PipeText_c RX hok (T.ext M.ext)) fun h18 M => as_s (br_f (by simp) (M.lda0 .here (osz Ox rfl) ?_))
  have M := M.cnt (W := (g1, T_impl_Pipe, ⟨Z_impl_Pipe⟩) :: Bx) (fun p => by simp only [cnt_app, cnt_cons, cnt_nil] at *; omega)
  exact M.sta0 .here (osz Ox rfl) (rPipe.oone Ox) rfl .here fun h19 M => M.lda0 .here (osz Ox rfl) ⟨_, _, rfl, Ox, M.drop⟩
end
end Go.Sx
/- Pipes muted by the rule; a muted pipe is sound and silent. -/
set_option linter.unusedVariables false
set_option linter.unusedSimpArgs false
namespace Go.Sx
open Go.Proofs
set_option maxRecDepth 100000
set_option maxHeartbeats 2000000

section
variable {h : Heap} {b : Option Addr} {l c : Nat} {rs : List GRing}
theorem l04Mute_c (S : SlR rRing h b l c rs) (hr : ∀ r ∈ rs, r.Samples.length ≤ 1048576) (hl : l ≤ 1048576) :
    CALL prg f_spec_l04Mute #[.slice b l c] (fun u h' => ∃ b' c' B, u = .slice b' l c' ∧ SlO T_impl_Ring rRing B b' l c' (rs.map GRing.mute) ∧ Mem h h' B) h := by
  have hls := S.len
  have hm : (1048577 : Nat) ≤ maxLen := by decide
  refine spec_l04Mute.call ((Mem.start h).alc fun g h1 x1 M => ?_)
  refine loop (fun y hh => ∃ (n : Nat) (b' : Option Addr) (c' : Nat) (B : List Blk), y = (b, l, c, b', n, c', (n : Int)) ∧ n ≤ l ∧ SlO T_impl_Ring rRing B b' n c' ((rs.take n).map GRing.mute) ∧ Mem h hh B) (fun y => (l - y.2.2.2.2.2.2).toNat)
    ⟨0, _, _, _, rfl, by omega, SlO.empty g, M⟩ ?_
  rintro y hh ⟨n, b', c', B, rfl, hn, O, M⟩
  refine brd (fun hc => ?_) fun hc => ?_
  · have hi : n < rs.length := by omega
    refine (S.ext M.ext).idx ring_sz (by omega) (by omega) fun p Rp => Rp.oL1 fun b6 l6 c6 S6 => (S.ext M.ext).idx ring_sz (by omega) (by omega) fun p2 Rq => Rq.oI ?_
    rw [Int.toNat_natCast] at Rp Rq S6
    have hl6 := S6.len
    have := hr _ (mem_get (l := rs) hi)
    refine make_floats M (by omega) fun g2 h2 x2 M O2 => Rq.pinO (by decide) x2 (siz rfl ?_)
    have Or : rRing.ow [(g2, T_float32, ⟨List.replicate l6 (.float .f32 0)⟩)] [.slice (some ⟨g2, 0, none⟩) l6 l6, .int .i64 rs[n]!.At] rs[n]!.mute := ow_ring (r := rs[n]!.mute) (by
      unfold GRing.mute
      rw [hl6]
      exact O2)
    have M := M.cnt (W := B ++ ([(g2, T_float32, ⟨List.replicate l6 (.float .f32 0)⟩)] ++ [])) (fun p => by simp only [cnt_app, cnt_cons, cnt_nil] at *; omega)
    refine push_own E_sl_impl_Ring O M (cs := ⟨[.slice (some ⟨g2, 0, none⟩) l6 l6, .int .i64 rs[n]!.At]⟩) Or (by omega) (by omega) fun b2 c2 h3 B2 O3 M3 => as_l ⟨⟨n + 1, b2, c2, B2, by rw [wrap64_succ (by omega)], by omega, ?_, by simpa using M3⟩, by rw [wrap64_succ (by omega)]; show _ < _; simp; omega⟩
    rw [take_snoc hi, List.map_append]; exact O3
  · obtain rfl : n = l := by omega
    rw [← hls, List.take_length] at O
    rw [← hls]
    exact ⟨b', c', B, rfl, O, M⟩
end
section
variable {h : Heap} {x : GPipe} {cs : Array Value}
theorem spec_MutePipe_c (R0 : rPipe.rd h cs.toList x) (hok : x.ok = true) : CALL prg f_spec_MutePipe #[.agg cs] (fun u h' => PairR rPipe h h' u x.mute 0) h := by
  have Ru := pipe_runs hok
  have sm := pipe_small hok
  refine spec_MutePipe.call ((Mem.start h).alc fun g1 h1 x1 M => M.alc fun g3 h2 x2 M => ?_)
  have R : RdP rPipe h2 ⟨g1, 0, none⟩ x := M.rdp (.there .here) (rPipe.ext M.ext R0)
  refine goM M (l04Ok_c R) fun h3 M => as_b ?_
  rw [hok]
  refine br_f rfl ?_
  have R : RdP rPipe h3 ⟨g1, 0, none⟩ x := M.rdp (.there .here) (rPipe.ext M.ext R0)
  refine NewR.go M (l04Copy_c R sm) fun h4 c4 B4 M O4 s4 => as_a (M.alc fun g13 h5 x5 M => ?_)
  refine M.sta0 .here s4 (rPipe.oone O4) rfl .here fun h6 M => ?_
  have P : Pt rPipe h h6 ⟨g13, 0, none⟩ ⟨g13, T_impl_Pipe, [], []⟩ [(g3, T_impl_Pipe, ⟨Z_impl_Pipe⟩), (g1, T_impl_Pipe, cs)] x := Pt.new O4 M
  obtain ⟨b, l, c, e, S⟩ := P.hdr1 (e := T_impl_Ring) (s := rRing)
  have m1 := sm.nr
  have m2 := sm.nl
  have hl1 : x.Right.length = l := S.len
  refine o_l e ((l04Mute_c S sm.r (by omega)).mono ?_)
  rintro _ h7 ⟨b', c', B, rfl, O, N⟩
  refine as_l (Pt.stL (P.join N) O fun h8 P => ?_)
  obtain ⟨b2, l2, c2, e2, S2⟩ := P.hdr (off := 1) (e := T_impl_Ring) (s := rRing)
  have hl2 : x.Left.length = l2 := S2.len
  have e2 : cell h8 ⟨g13, 1, none⟩ = some (.slice b2 l2 c2) := e2
  refine o_l e2 ((l04Mute_c S2 sm.l (by omega)).mono ?_)
  rintro _ h9 ⟨b3, c3, B3, rfl, O3, N⟩
  refine as_l (Pt.stLg (off := 1) (P.join N) O3 fun h10 P => ?_)
  show STA 2 h10 ((⟨g13, 0, none⟩ : Addr).add 7) _ _
  refine P.stF2 foc_PipeS fw0 fw0 fun h11 P => ?_
  have P : Pt rPipe h h11 ⟨g13, 0, none⟩ ⟨g13, T_impl_Pipe, [], []⟩ [(g3, T_impl_Pipe, ⟨Z_impl_Pipe⟩), (g1, T_impl_Pipe, cs)] x.mute := P
  obtain ⟨cs', B, M, O⟩ := P.out
  refine M.lda0 .here (osz O rfl) ?_
  have M := M.cnt (W := (g3, T_impl_Pipe, ⟨Z_impl_Pipe⟩) :: B) (fun p => by simp only [cnt_app, cnt_cons, cnt_nil] at *; omega)
  exact M.sta0 .here (osz O rfl) (rPipe.oone O) rfl .here fun h10 M => M.lda0 .here (osz O rfl) ⟨_, B, rfl, O, M.drop⟩
end
end Go.Sx
/- New values kept in blocks, and what is read of them. -/
set_option linter.unusedVariables false
set_option linter.unusedSimpArgs false
namespace Go.Sx
open Go.Proofs
set_option maxRecDepth 100000
set_option maxHeartbeats 2000000

/-- Bytes that are read. -/
structure Reads (h : Heap) (cb mb : Option Addr) (code more : List Int) : Prop where
  c : Cells h cb (iv .u8 code)
  m : Cells h mb (iv .u8 more)
  bc : Byt' code
  bm : Byt' more
theorem Reads.ext {h h' : Heap} {cb mb : Option Addr} {code more : List Int} (G : Reads h cb mb code more) (X : Ext h h') : Reads h' cb mb code more := ⟨G.c.ext X, G.m.ext X, G.bc, G.bm⟩
theorem keepIn {α : Type} {r : Rep α} {h hh : Heap} {B W : List Blk} {cs Z : Array Value} {x : α} {T n : Nat} {F : Nat → Heap → Prop} (O : r.ow B cs.toList x) (hn : r.sz = n) (hz : Z.size = n) (M : Mem h hh W) (H : ∀ g h2, Mem h h2 ((g, T, cs) :: W) → F g h2) : ALC Z T (fun g h1 => STA n h1 ⟨g, 0, none⟩ cs fun h2 => F g h2) hh :=
  M.alc fun g h1 _ M => M.sta0 .here (by rw [← hn]; simpa using r.olen O) (r.oone O) hz .here fun h2 M => H g h2 M
theorem keepR {α : Type} {r : Rep α} {h hh : Heap} {B : List Blk} {cs Z : Array Value} {x : α} {T n : Nat} {F : Nat → Heap → Prop} (O : r.ow B cs.toList x) (hn : r.sz = n) (hz : Z.size = n) (M : Mem h hh B) (H : ∀ g h2, Ext h h2 → RdP r h2 ⟨g, 0, none⟩ x → F g h2) : ALC Z T (fun g h1 => STA n h1 ⟨g, 0, none⟩ cs fun h2 => F g h2) hh :=
  keepIn O hn hz M fun g h2 M => H g h2 M.ext (M.rdp .here (r.look O M (List.sublist_cons_self _ _)))
abbrev TB2 (h : Heap) : Value → Heap → Prop := fun u h' => u = .bool true ∧ Ext h h'
end Go.Sx
/- Two things that are the same, looked at by a call. -/
set_option linter.unusedVariables false
namespace Go.Sx
open Go.Proofs
theorem same_t {α : Type} {a : α} {P : Program} {f : FuncId} {args : Array Value} {hh : Heap} {K : Value → Heap → Prop} (c : CALL P f args (fun u h' => u = .bool (same a a) ∧ Ext hh h') hh) (H : ∀ h', Ext hh h' → K (.bool true) h') : CALL P f args K hh :=
  goX c fun h' x => by rw [same_refl]; exact H h' x
end Go.Sx
/- The law FnRoomBlocks, as the program tells it. -/
set_option linter.unusedVariables false
set_option linter.unusedSimpArgs false
namespace Go.Sx
open Go.Proofs
set_option maxRecDepth 100000
set_option maxHeartbeats 2000000

section
variable {h hh : Heap} {x due : GRoom} {ys zs : List Nat} {k : Nat} {px pa pd pk : Addr} {bb ob mb ab lb : Option Addr} {bc oc mc ac lc : Nat}
/-- What is there behind the plays. -/
structure RBs (hh : Heap) (x due : GRoom) (ys zs : List Nat) (k : Nat) (px pa pd pk : Addr) (bb ob mb ab lb : Option Addr) (bc oc mc ac lc : Nat) : Prop where
  X : RdP rRoom hh px x
  A : RdP rRoom hh pa due
  D : RdP rRoom hh pd due
  K : RdP rRoom hh pk due
  S : SlR (rF .f32) hh bb 16 bc ys
  O : SlR (rF .f32) hh ob 16 oc zs
  M : SlR (rF .f32) hh mb 16 mc zs
  F : SlR (rF .f32) hh ab k ac (zs.take k)
  L : SlR (rF .f32) hh lb (16 - k) lc (zs.drop k)
theorem RBs.ext {h' : Heap} (G : RBs hh x due ys zs k px pa pd pk bb ob mb ab lb bc oc mc ac lc) (X : Ext hh h') : RBs h' x due ys zs k px pa pd pk bb ob mb ab lb bc oc mc ac lc :=
  ⟨G.X.ext X, G.A.ext X, G.D.ext X, G.K.ext X, G.S.ext X, G.O.ext X, G.M.ext X, G.F.ext X, G.L.ext X⟩
end
end Go.Sx
