/- The law FnExactJoinScores, as the program tells it. -/
import Derived.Test.YtnhcoeogejgidacGreatDoorLm7
import Derived.Test.YtnhcoeogejgidacGreatDoorLh5
import Derived.Test.YtnhcoeogejgidacGreatDoorLh0
import Derived.Test.YtnhcoeogejgidacGreatDoorLr6
set_option linter.unusedVariables false
set_option linter.unusedSimpArgs false
namespace Go.Sx
open Go.Proofs
set_option maxRecDepth 100000
set_option maxHeartbeats 1000000

theorem w_names {xs : List GInstrument} (h : ∀ x ∈ xs, x.ok = true) : nL w_Instrument xs ≤ 12 * xs.length := by
  induction xs with
  | nil => exact Nat.le_refl _
  | cons x xs ih =>
    have h1 := ih fun y hy => h y (.tail _ hy)
    have h2 : w_Instrument x ≤ 12 := by
      have := h x (.head _)
      unfold GInstrument.ok nameOk inR at this
      simp only [Bool.and_eq_true, decide_eq_true_eq] at this
      have := this.1.1.1.2
      unfold w_Instrument
      omega
    show w_Instrument x + nL w_Instrument xs ≤ 12 * (xs.length + 1)
    omega
theorem w_ok {s : GScore} (h : s.ok = true) : w_Score s ≤ 300 := by
  obtain ⟨h1, h2, h3⟩ := score_small h
  unfold w_Score w_Tuning w_InstrumentS w_EventS w_Float32S
  have : nL w_Instrument s.Instruments ≤ 12 * s.Instruments.length := w_names fun x hx => by
    unfold GScore.ok at h
    simp only [Bool.and_eq_true, decide_eq_true_eq] at h
    have := h.1.2.2
    unfold instOk at this
    obtain ⟨i, hi, e⟩ := List.mem_iff_getElem.1 hx
    have := List.all_eq_true.1 this i (List.mem_range.2 hi)
    unfold instAt at this
    simp only [Bool.and_eq_true] at this
    rw [getElem!_pos _ i hi, e] at this
    exact this.1
  omega
theorem w_join (s t : GScore) (n : Int) : w_Score (s.join t n).1 ≤ 1048576 := by
  have z : w_Score z_Score ≤ 1048576 := by decide
  unfold GScore.join
  split
  · rename_i hst
    simp only [Bool.and_eq_true] at hst
    split
    · split
      · split
        · rename_i h1 h2 h3
          have := w_ok hst.1
          have G := score_ev hst.1
          have G' := score_ev hst.2
          obtain ⟨ns, I⟩ := NInv.exist G
          obtain ⟨ms, J⟩ := NInv.exist G'
          rw [notesE_eq G I, notesE_eq G' J]
          have hl := (ordE_sorted (ns ++ ms.map (shN n))).len
          have e1 := I.len
          have e2 := J.len
          rw [List.length_append, List.length_map] at hl
          show w_Score _ ≤ _
          unfold w_Score w_EventS at *
          show _ + _ + (ordE (ns ++ ms.map (shN n))).length ≤ _
          rw [hl]
          simp only at this ⊢
          omega
        · exact z
      · exact z
    · exact z
  · exact z
abbrev TJ (h : Heap) : Value → Heap → Prop := fun u h' => u = .bool true ∧ Ext h h'
section
variable {h : Heap} {x y : GScore} {n : Int}
theorem jn4 {f : Nat} {g1 g3 : Nat} {ca cb : Array Value} {W : List Blk} {hh : Heap} {K : Nat → Int → Heap → Prop} {z : GScore × Int} (M0 : Mem h hh W) (l1 : Look W g1 ca) (l3 : Look W g3 cb) (R0 : rScore.rd h ca.toList x) (T0 : rScore.rd h cb.toList y)
    (hx : w_Score x ≤ 1048576) (hy : w_Score y ≤ 1048576) (C : ∀ {h' : Heap} {c c' : Array Value}, rScore.rd h' c.toList x → rScore.rd h' c'.toList y → CALL prg f #[.agg c, .agg c', .int .i64 n] (fun u h'' => PairR rScore h' h'' u z.1 z.2) h')
    (H : ∀ gq h' cq Bq, cq.size = 6 → Mem h h' ((gq, T_impl_Score, cq) :: (Bq ++ W)) → rScore.ow Bq cq.toList z.1 → K gq z.2 h') :
    (CALL prg f_laws_toScore #[.agg ca] (fun q15 h16 => asA q15 fun a17 => PIN hh ⟨g3, 0, none⟩ 6 h16 <|
      (CALL prg f_laws_toScore #[.agg cb] (fun q18 h19 => asA q18 fun a20 =>
        (CALL prg f #[.agg a17, .agg a20, .int .i64 n] (fun q21 h22 => TUP2 q21 fun q23 q24 => asA q23 fun a25 => asI .i64 q24 fun n26 => ALC ⟨Z_impl_Score⟩ T_impl_Score (fun g27 h28 => PIN hh ⟨g3, 0, none⟩ 6 h28 <| PIN hh ⟨g1, 0, none⟩ 6 h28 <| STA 6 h28 ⟨g27, 0, none⟩ a25 fun h29 => K g27 n26 h29) h22) h19) ∧
        (ALC ⟨Z_impl_Score⟩ T_impl_Score (fun g30 h31 => PIN hh ⟨g3, 0, none⟩ 6 h31 <| PIN hh ⟨g1, 0, none⟩ 6 h31 <| CALL prg f #[.agg a17, .agg a20, .int .i64 n] (fun q32 h33 => TUP2 q32 fun q34 q35 => asA q34 fun a36 => asI .i64 q35 fun n37 => STA 6 h33 ⟨g30, 0, none⟩ a36 fun h38 => K g30 n37 h38) h31) h19)) h16) ∧
      (ALC ⟨Z_impl_Score⟩ T_impl_Score (fun g39 h40 => PIN hh ⟨g3, 0, none⟩ 6 h40 <| PIN hh ⟨g1, 0, none⟩ 6 h40 <| CALL prg f_laws_toScore #[.agg cb] (fun q41 h42 => asA q41 fun a43 => CALL prg f #[.agg a17, .agg a43, .int .i64 n] (fun q44 h45 => TUP2 q44 fun q46 q47 => asA q46 fun a48 => asI .i64 q47 fun n49 => STA 6 h45 ⟨g39, 0, none⟩ a48 fun h50 => K g39 n49 h50) h42) h40) h16)) hh) ∧
    (ALC ⟨Z_impl_Score⟩ T_impl_Score (fun g51 h52 => PIN hh ⟨g3, 0, none⟩ 6 h52 <| PIN hh ⟨g1, 0, none⟩ 6 h52 <| CALL prg f_laws_toScore #[.agg ca] (fun q53 h54 => asA q53 fun a55 => PIN hh ⟨g3, 0, none⟩ 6 h54 <| CALL prg f_laws_toScore #[.agg cb] (fun q56 h57 => asA q56 fun a58 => CALL prg f #[.agg a55, .agg a58, .int .i64 n] (fun q59 h60 => TUP2 q59 fun q61 q62 => asA q61 fun a63 => asI .i64 q62 fun n64 => STA 6 h60 ⟨g51, 0, none⟩ a63 fun h65 => K g51 n64 h65) h57) h54) h52) hh) := by
  have s1 : ∀ {B1 B2 : List Blk}, B1.Sublist (B2 ++ (B1 ++ W)) := (List.sublist_append_left _ _).trans (List.sublist_append_right _ _)
  refine ⟨NewR.go M0 (to_Score_c (rScore.ext M0.ext R0) hx) fun h3 c3 B3 M O3 s3 => as_a (pinM M0 l3 M (Look.skip l3) ⟨?_, ?_⟩), ?_⟩
  · refine NewR.go M (to_Score_c (rScore.ext M.ext T0) hy) fun h5 c5 B5 M O5 s5 => as_a ⟨?_, ?_⟩
    · refine PairR.go M (C (rScore.look O3 M s1) (rScore.look O5 M (List.sublist_append_left _ _))) fun h6 c6 B6 M O6 s6 => tup2 (as_a (as_i (M.alc fun g h7 x7 M => pinM M0 l3 M (.there (Look.skip (Look.skip (Look.skip l3)))) (pinM M0 l1 M (.there (Look.skip (Look.skip (Look.skip l1)))) (M.sta0 .here s6 (rScore.oone O6) rfl .here fun h8 M => H g h8 c6 B6 s6 (M.cnt fun p => by simp only [cnt_app, cnt_cons, cnt_nil]; omega) O6)))))
    · refine M.alc fun g h6 x6 M => pinM M0 l3 M (.there (Look.skip (Look.skip l3))) (pinM M0 l1 M (.there (Look.skip (Look.skip l1))) (PairR.go M (C (rScore.look O3 M (s1.trans (List.sublist_cons_self _ _))) (rScore.look O5 M ((List.sublist_append_left _ _).trans (List.sublist_cons_self _ _)))) fun h7 c6 B6 M O6 s6 => tup2 (as_a (as_i ?_))))
      have M := M.cnt (W := (g, T_impl_Score, ⟨Z_impl_Score⟩) :: (B6 ++ W)) fun p => by simp only [cnt_app, cnt_cons, cnt_nil]; omega
      exact M.sta0 .here s6 (rScore.oone O6) rfl .here fun h8 M => H g h8 c6 B6 s6 M O6
  · refine M.alc fun g h4 x4 M => pinM M0 l3 M (.there (Look.skip l3)) (pinM M0 l1 M (.there (Look.skip l1)) (NewR.go M (to_Score_c (rScore.ext M.ext T0) hy) fun h5 c5 B5 M O5 s5 => as_a ?_))
    refine PairR.go M (C (rScore.look O3 M ((List.sublist_append_left _ _).trans ((List.sublist_cons_self _ _).trans (List.sublist_append_right _ _)))) (rScore.look O5 M (List.sublist_append_left _ _))) fun h7 c6 B6 M O6 s6 => tup2 (as_a (as_i ?_))
    have M := M.cnt (W := (g, T_impl_Score, ⟨Z_impl_Score⟩) :: (B6 ++ W)) fun p => by simp only [cnt_app, cnt_cons, cnt_nil]; omega
    exact M.sta0 .here s6 (rScore.oone O6) rfl .here fun h8 M => H g h8 c6 B6 s6 M O6
  · refine M0.alc fun g h2 x2 M => pinM M0 l3 M (.there l3) (pinM M0 l1 M (.there l1) (NewR.go M (to_Score_c (rScore.ext M.ext R0) hx) fun h3 c3 B3 M O3 s3 => as_a (pinM M0 l3 M (Look.skip (.there l3)) (NewR.go M (to_Score_c (rScore.ext M.ext T0) hy) fun h5 c5 B5 M O5 s5 => as_a ?_))))
    refine PairR.go M (C (rScore.look O3 M ((List.sublist_append_left _ _).trans (List.sublist_append_right _ _))) (rScore.look O5 M (List.sublist_append_left _ _))) fun h7 c6 B6 M O6 s6 => tup2 (as_a (as_i ?_))
    have M := M.cnt (W := (g, T_impl_Score, ⟨Z_impl_Score⟩) :: (B6 ++ W)) fun p => by simp only [cnt_app, cnt_cons, cnt_nil]; omega
    exact M.sta0 .here s6 (rScore.oone O6) rfl .here fun h8 M => H g h8 c6 B6 s6 M O6
theorem jn34 {hh : Heap} {z : GScore} {g0 : Nat} {cg : Array Value} {Bg L : List Blk} (hw : w_Score z ≤ 1048576) (Og : rScore.ow Bg cg.toList (mk_Score z 1)) (M : Mem h hh ((g0, T_impl_Score, cg) :: (Bg ++ L))) :
    laws_FnExactJoinScores.J34 (TJ h) ⟨g0, 0, none⟩ ((1 + n_Score z : Nat) : Int) hh := by
  have hn := nw_Score z
  exact M.lda0 .here (osz Og rfl) (goM M (held_Score_c 1 (rScore.look Og M ((List.sublist_append_left _ _).trans (List.sublist_cons_self _ _))) hw (by omega) : CALL prg f_laws_heldScore #[.agg cg, .int .i64 (1 : Int)] _ _) fun h25 M => as_i (ge_br (by omega) (eqB ⟨rfl, M.ext⟩)))
theorem jn32 {hh : Heap} {z : GScore} {k : Int} {gw g0 gh : Nat} {cw cg ch : Array Value} {Bw Bg Bh L : List Blk} (hw : w_Score z ≤ 1048576) (Ow : rScore.ow Bw cw.toList z) (Og : rScore.ow Bg cg.toList (mk_Score z 1)) (Oh : rScore.ow Bh ch.toList z)
    (M : Mem h hh ((gh, T_impl_Score, ch) :: (gw, T_impl_Score, cw) :: (g0, T_impl_Score, cg) :: (Bw ++ (Bg ++ (Bh ++ L))))) :
    laws_FnExactJoinScores.J32 (TJ h) ⟨gw, 0, none⟩ k ⟨g0, 0, none⟩ ((1 + n_Score z : Nat) : Int) ⟨gh, 0, none⟩ k hh := by
  have rd : ∀ {hh : Heap} {W B : List Blk} {c : Array Value} {y : GScore}, Mem h hh W → rScore.ow B c.toList y → (∀ p, Sx.cnt p B ≤ Sx.cnt p W) → rScore.rd hh c.toList y := fun M O hc => rScore.look O (M.cnt hc) (List.Sublist.refl _)
  unfold laws_FnExactJoinScores.J32
  refine M.lda0 .here (osz Oh rfl) (M.lda0 (.there .here) (osz Ow rfl) (goM M (eq_Score_c (rd M Oh (fun p => by simp only [cnt_app, cnt_cons, cnt_nil]; omega)) (rd M Ow (fun p => by simp only [cnt_app, cnt_cons, cnt_nil]; omega))) fun h24 M => as_b (bne_br rfl (eqB ?_))))
  exact jn34 (L := []) hw Og (M.cnt fun p => by simp only [cnt_app, cnt_cons, cnt_nil]; omega)
theorem jn23 {hh : Heap} {gx gy gw g0 : Nat} {ca cb cw cg : Array Value} {Bw Bg L : List Blk} (hn : -9223372036854775808 ≤ n ∧ n < 9223372036854775808) (R0 : rScore.rd h ca.toList x) (T0 : rScore.rd h cb.toList y) (hx : w_Score x ≤ 1048576) (hy : w_Score y ≤ 1048576)
    (Ow : rScore.ow Bw cw.toList (x.join y n).1) (Og : rScore.ow Bg cg.toList (x.join y n).1)
    (M : Mem h hh ((gx, T_laws_Score, ca) :: (gy, T_laws_Score, cb) :: (gw, T_impl_Score, cw) :: (g0, T_impl_Score, cg) :: (Bw ++ (Bg ++ L)))) :
    laws_FnExactJoinScores.J23 (TJ h) n ⟨gx, 0, none⟩ ⟨gy, 0, none⟩ ⟨gw, 0, none⟩ (x.join y n).2 ⟨g0, 0, none⟩ hh := by
  have hw := w_join x y n
  have hnz := nw_Score (x.join y n).1
  unfold laws_FnExactJoinScores.J23
  have M := M.cnt (W := Bg ++ ((gx, T_laws_Score, ca) :: (gy, T_laws_Score, cb) :: (gw, T_impl_Score, cw) :: (g0, T_impl_Score, cg) :: (Bw ++ L))) fun p => by simp only [cnt_app, cnt_cons, cnt_nil]; omega
  refine M.lda0 (Look.skip (.there (.there (.there .here)))) (osz Og rfl) (markM (mark_Score_c Og M 1 hw (by omega) : CALL prg f_laws_markScore #[.agg cg, .int .i64 (1 : Int)] _ _) fun h18 B18 M O18 => as_i ?_)
  refine M.lda0 (Look.skip (.there (.there (.there .here)))) (osz O18 rfl) (goM M (held_Score_c 1 (rScore.look O18 M (List.sublist_append_left _ _)) hw (by omega) : CALL prg f_laws_heldScore #[.agg cg, .int .i64 (1 : Int)] _ _) fun h19 M => as_i (ge_br (by omega) (eqB ?_)))
  refine M.lda0 (Look.skip .here) (rsz R0 rfl) (M.lda0 (Look.skip (.there .here)) (rsz T0 rfl) ?_)
  exact jn4 (f := f_impl_JoinScores) M (Look.skip .here) (Look.skip (.there .here)) R0 T0 hx hy (fun R T => JoinScores_c hn R T) fun gq h' cq Bq sq M O => jn32 (L := []) hw Ow O18 O (M.cnt fun p => by simp only [cnt_app, cnt_cons, cnt_nil]; omega)
theorem jn14 {hh : Heap} {gx gy gw g0 hx0 hx1 : Nat} {ca cb cw cg c0 c1 : Array Value} {Bw Bg B0 B1 L : List Blk} (hn : -9223372036854775808 ≤ n ∧ n < 9223372036854775808) (R0 : rScore.rd h ca.toList x) (T0 : rScore.rd h cb.toList y) (hx : w_Score x ≤ 1048576) (hy : w_Score y ≤ 1048576)
    (Ow : rScore.ow Bw cw.toList (x.join y n).1) (Og : rScore.ow Bg cg.toList (x.join y n).1) (O0 : rScore.ow B0 c0.toList x) (O1 : rScore.ow B1 c1.toList y)
    (M : Mem h hh ((gx, T_laws_Score, ca) :: (gy, T_laws_Score, cb) :: (gw, T_impl_Score, cw) :: (g0, T_impl_Score, cg) :: (hx0, T_impl_Score, c0) :: (hx1, T_impl_Score, c1) :: (Bw ++ (Bg ++ (B0 ++ (B1 ++ L)))))) :
    laws_FnExactJoinScores.J14 (TJ h) n ⟨gx, 0, none⟩ ⟨gy, 0, none⟩ ⟨gw, 0, none⟩ (x.join y n).2 ⟨hx0, 0, none⟩ ⟨hx1, 0, none⟩ ⟨g0, 0, none⟩ (x.join y n).2 hh := by
  have nx := nw_Score x
  have ny := nw_Score y
  have rd : ∀ {hh : Heap} {W B : List Blk} {c : Array Value} {y : GScore}, Mem h hh W → rScore.ow B c.toList y → (∀ p, Sx.cnt p B ≤ Sx.cnt p W) → rScore.rd hh c.toList y := fun M O hc => rScore.look O (M.cnt hc) (List.Sublist.refl _)
  unfold laws_FnExactJoinScores.J14
  refine M.lda0 (.there (.there (.there (.there .here)))) (osz O0 rfl) (M.lda0 .here (rsz R0 rfl) ((to_Score_c (rScore.ext M.ext R0) hx).mono ?_))
  rintro _ h3 ⟨c3, B3, rfl, O3, N⟩
  refine as_a (pinM M (.there (.there (.there (.there .here)))) (M.grow N.ext) (.there (.there (.there (.there .here)))) ?_)
  have M := M.join N
  refine goM M (eq_Score_c (rd M O0 (fun p => by simp only [cnt_app, cnt_cons, cnt_nil]; omega)) (rd M O3 (fun p => by simp only [cnt_app, cnt_cons, cnt_nil]; omega))) fun h4 M => as_b (bne_br rfl ?_)
  have M := M.sub (List.sublist_append_right B3 _)
  refine M.lda0 (.there (.there (.there (.there (.there .here))))) (osz O1 rfl) (M.lda0 (.there .here) (rsz T0 rfl) ((to_Score_c (rScore.ext M.ext T0) hy).mono ?_))
  rintro _ h5 ⟨c5, B5, rfl, O5, N⟩
  refine as_a (pinM M (.there (.there (.there (.there (.there .here))))) (M.grow N.ext) (.there (.there (.there (.there (.there .here))))) ?_)
  have M := M.join N
  refine goM M (eq_Score_c (rd M O1 (fun p => by simp only [cnt_app, cnt_cons, cnt_nil]; omega)) (rd M O5 (fun p => by simp only [cnt_app, cnt_cons, cnt_nil]; omega))) fun h6 M => as_b (bne_br rfl ?_)
  have M := M.cnt (W := B0 ++ ((gx, T_laws_Score, ca) :: (gy, T_laws_Score, cb) :: (gw, T_impl_Score, cw) :: (g0, T_impl_Score, cg) :: (hx0, T_impl_Score, c0) :: (hx1, T_impl_Score, c1) :: (Bw ++ (Bg ++ B1)))) fun p => by simp only [cnt_app, cnt_cons, cnt_nil]; omega
  refine M.lda0 (Look.skip (.there (.there (.there (.there .here))))) (osz O0 rfl) (markM (mark_Score_c O0 M 1 hx (by omega) : CALL prg f_laws_markScore #[.agg c0, .int .i64 (1 : Int)] _ _) fun h7 B7 M O7 => as_i ?_)
  have M := M.cnt (W := B1 ++ ((gx, T_laws_Score, ca) :: (gy, T_laws_Score, cb) :: (gw, T_impl_Score, cw) :: (g0, T_impl_Score, cg) :: (hx1, T_impl_Score, c1) :: (Bw ++ Bg))) fun p => by simp only [cnt_app, cnt_cons, cnt_nil]; omega
  refine M.lda0 (Look.skip (.there (.there (.there (.there .here))))) (osz O1 rfl) (markM (mark_Score_c O1 M (1 + n_Score x) hy (by omega)) fun h8 B8 M O8 => as_i (ge_br (by omega) ?_))
  have M := M.cnt (W := (gx, T_laws_Score, ca) :: (gy, T_laws_Score, cb) :: (gw, T_impl_Score, cw) :: (g0, T_impl_Score, cg) :: (Bw ++ Bg)) fun p => by simp only [cnt_app, cnt_cons, cnt_nil]; omega
  refine M.lda0 (.there (.there (.there .here))) (osz Og rfl) (M.lda0 (.there (.there .here)) (osz Ow rfl) (goM M (eq_Score_c (rd M Og (fun p => by simp only [cnt_app, cnt_cons, cnt_nil]; omega)) (rd M Ow (fun p => by simp only [cnt_app, cnt_cons, cnt_nil]; omega))) fun h9 M => as_b (bne_br rfl (eqB ?_))))
  exact jn23 (L := []) hn R0 T0 hx hy Ow Og (M.cnt fun p => by simp only [cnt_app, cnt_cons, cnt_nil]; omega)
theorem jn9 {hh : Heap} {gx gy gw : Nat} {ca cb cw : Array Value} {Bw L : List Blk} (hn : -9223372036854775808 ≤ n ∧ n < 9223372036854775808) (R0 : rScore.rd h ca.toList x) (T0 : rScore.rd h cb.toList y) (hx : w_Score x ≤ 1048576) (hy : w_Score y ≤ 1048576)
    (Ow : rScore.ow Bw cw.toList (x.join y n).1) (M : Mem h hh ((gx, T_laws_Score, ca) :: (gy, T_laws_Score, cb) :: (gw, T_impl_Score, cw) :: (Bw ++ L))) :
    laws_FnExactJoinScores.J9 (TJ h) n ⟨gx, 0, none⟩ ⟨gy, 0, none⟩ ⟨gw, 0, none⟩ (x.join y n).2 hh := by
  have rd : ∀ {hh : Heap} {W B : List Blk} {c : Array Value} {y : GScore}, Mem h hh W → rScore.ow B c.toList y → (∀ p, Sx.cnt p B ≤ Sx.cnt p W) → rScore.rd hh c.toList y := fun M O hc => rScore.look O (M.cnt hc) (List.Sublist.refl _)
  unfold laws_FnExactJoinScores.J9
  refine M.lda0 .here (rsz R0 rfl) (NewR.go M (to_Score_c (rScore.ext M.ext R0) hx) fun h3 c3 B3 M O3 s3 => as_a (M.alc fun g7 h4 x4 M => M.sta0 .here s3 (rScore.oone O3) rfl .here fun h5 M => ?_))
  refine M.lda0 (.there (Look.skip (.there .here))) (rsz T0 rfl) (NewR.go M (to_Score_c (rScore.ext M.ext T0) hy) fun h6 c6 B6 M O6 s6 => as_a (M.alc fun g8 h7 x7 M => M.sta0 .here s6 (rScore.oone O6) rfl .here fun h8 M => ?_))
  refine M.lda0 (.there (Look.skip .here)) s3 (M.lda0 .here s6 (PairR.go M (JoinScores_c hn (rd M O3 (fun p => by simp only [cnt_app, cnt_cons, cnt_nil]; omega)) (rd M O6 (fun p => by simp only [cnt_app, cnt_cons, cnt_nil]; omega))) fun h9 c9 B9 M O9 s9 => tup2 (as_a (as_i (M.alc fun g9 h10 x10 M => M.sta0 .here s9 (rScore.oone O9) rfl .here fun h11 M => M.lda0 .here s9 ?_)))))
  have M := M.cnt (W := (gx, T_laws_Score, ca) :: (gy, T_laws_Score, cb) :: (gw, T_impl_Score, cw) :: (g9, T_impl_Score, c9) :: (g7, T_impl_Score, c3) :: (g8, T_impl_Score, c6) :: (Bw ++ (B9 ++ (B3 ++ B6)))) fun p => by simp only [cnt_app, cnt_cons, cnt_nil]; omega
  refine M.lda0 (.there (.there .here)) (osz Ow rfl) (goM M (eq_Score_c (rd M O9 (fun p => by simp only [cnt_app, cnt_cons, cnt_nil]; omega)) (rd M Ow (fun p => by simp only [cnt_app, cnt_cons, cnt_nil]; omega))) fun h12 M => as_b (bne_br rfl (eqB ?_)))
  exact jn14 (L := []) hn R0 T0 hx hy Ow O9 O3 O6 (M.cnt fun p => by simp only [cnt_app, cnt_cons, cnt_nil]; omega)
theorem FnExactJoinScores_c {ca cb : Array Value} (hn : -9223372036854775808 ≤ n ∧ n < 9223372036854775808) (R0 : rScore.rd h ca.toList x) (T0 : rScore.rd h cb.toList y) : CALL prg f_laws_FnExactJoinScores #[.agg ca, .agg cb, .int .i64 n] (fun u h' => u = .bool true ∧ Ext h h') h := by
  refine laws_FnExactJoinScores.call ((Mem.start h).alc fun g1 h1 x1 M => M.alc fun g3 h2 x2 M => M.lda0 (.there .here) (rsz R0 rfl) (goM M (sz_Score_c (rScore.ext M.ext R0) 1048576 (by omega) : CALL prg f_laws_szScore #[.agg ca, .int .i64 (1048576 : Int)] _ _) fun h3 M => as_i (br (fun hb => ⟨rfl, M.ext⟩) fun hb => ?_)))
  have e1 : subW 1048576 (w_Score x) = ((1048576 - w_Score x : Nat) : Int) ∧ w_Score x ≤ 1048576 := by
    unfold subW at hb ⊢
    split at hb
    · simp at hb
    · rename_i h; rw [if_neg h]; omega
  rw [e1.1]
  refine M.lda0 .here (rsz T0 rfl) (goM M (sz_Score_c (rScore.ext M.ext T0) (1048576 - w_Score x) (by omega)) fun h4 M => as_i (br (fun hb => ⟨rfl, M.ext⟩) fun hb => ?_))
  have e2 : w_Score y ≤ 1048576 := by
    unfold subW at hb
    split at hb
    · simp at hb
    · omega
  refine M.lda0 (.there .here) (rsz R0 rfl) (M.lda0 .here (rsz T0 rfl) ?_)
  exact jn4 (f := f_spec_JoinScores) M (.there .here) .here R0 T0 e1.2 e2 (fun R T => spec_JoinScores_c R T) fun gq h' cq Bq sq M O => jn9 (L := []) hn R0 T0 e1.2 e2 O (M.cnt fun p => by simp only [cnt_app, cnt_cons, cnt_nil]; omega)
end
end Go.Sx
/- Given Tuning, Instrument, Event, Score opened. -/
set_option linter.unusedVariables false
set_option linter.unusedSimpArgs false
namespace Go.Sx
open Go.Proofs
set_option maxRecDepth 100000
theorem opens_Tuning : Opens prg rTuning (([T_float32] ++ ([T_float32] ++ ([T_sl_float32])))) := opens_via (fun p => ⟨p.1, p.2.1, p.2.2⟩) (fun _ => rfl) (opens_seq (opens_float U_float32) (opens_seq (opens_float U_float32) ((opens_sl (n := 9) (U_sl_float32) (by kernel_rfl) (by kernel_rfl) (opens_float U_float32)))))
theorem opens_Instrument : Opens prg rInstrument (([T_string] ++ ([T_int64] ++ ([T_float32] ++ ([T_float32] ++ ([T_float32])))))) := opens_via (fun p => ⟨p.1, p.2.1, p.2.2.1, p.2.2.2.1, p.2.2.2.2⟩) (fun _ => rfl) (opens_seq (opens_str U_string) (opens_seq (opens_int U_int64) (opens_seq (opens_float U_float32) (opens_seq (opens_float U_float32) ((opens_float U_float32))))))
theorem opens_Event : Opens prg rEvent (([T_int64] ++ ([T_int64] ++ ([T_int64] ++ ([T_int64] ++ ([T_int64] ++ ([T_float32]))))))) := opens_via (fun p => ⟨p.1, p.2.1, p.2.2.1, p.2.2.2.1, p.2.2.2.2.1, p.2.2.2.2.2⟩) (fun _ => rfl) (opens_seq (opens_int U_int64) (opens_seq (opens_int U_int64) (opens_seq (opens_int U_int64) (opens_seq (opens_int U_int64) (opens_seq (opens_int U_int64) ((opens_float U_float32)))))))
theorem opens_Score : Opens prg rScore (([T_float32] ++ (([T_float32] ++ ([T_float32] ++ ([T_sl_float32]))) ++ ([T_sl_laws_Instrument] ++ ([T_sl_laws_Event]))))) := opens_via (fun p => ⟨p.1, p.2.1, p.2.2.1, p.2.2.2⟩) (fun _ => rfl) (opens_seq (opens_float U_float32) (opens_seq opens_Tuning (opens_seq (opens_sl (n := 9) (U_sl_laws_Instrument) (by kernel_rfl) (by kernel_rfl) opens_Instrument) ((opens_sl (n := 9) (U_sl_laws_Event) (by kernel_rfl) (by kernel_rfl) opens_Event)))))
end Go.Sx
