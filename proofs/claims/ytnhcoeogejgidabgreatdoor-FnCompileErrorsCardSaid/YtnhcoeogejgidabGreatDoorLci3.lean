/- A score compiled by the program. -/
import Derived.Test.YtnhcoeogejgidabGreatDoorLci2
import Derived.Test.YtnhcoeogejgidabGreatDoorLv2
set_option linter.unusedVariables false
set_option linter.unusedSimpArgs false
namespace Go.Sx
open Go.Proofs
set_option maxRecDepth 100000
set_option maxHeartbeats 1000000

theorem Pt.newC {α : Type} {r : Rep α} {h0 h : Heap} {L L0 B : List Blk} {a : α} {cs : Array Value} {g T : Nat} (M : Mem h0 h ((g, T, cs) :: L0)) (O : r.ow B cs.toList a) (hc : ∀ p, Sx.cnt p (B ++ L) ≤ Sx.cnt p L0) : Pt r h0 h ⟨g, 0, none⟩ ⟨g, T, [], []⟩ L a :=
  Pt.new O (M.cnt fun p => by have := hc p; simp only [cnt_cons] at *; omega)
section
variable {h : Heap} {t : List UInt8}
theorem comp_ow {B : List Blk} {vs : List Value} {c : GCompiler} (O : rCompiler.ow B vs c) : ∃ v w B1 R, vs = v ++ w ∧ B = B1 ++ R ∧ v.length = 6 ∧ rScore.ow B1 v c.score := by
  obtain ⟨B1, C1, v1, w1, rfl, rfl, O1, O2⟩ := O
  exact ⟨v1, w1, B1, C1, rfl, rfl, rScore.olen O1, O1⟩
theorem impl_B8 {g1 gc : Nat} {b : Option Addr} {k : Nat} {BL : List Blk} {hh : Heap} (B0 : Libs h) (hn : (scoreL t).length ≤ 200) (ht : t.length ≤ 4000) (wl : ∀ j : Nat, ((scoreL t)[j]!).length ≤ 4096)
    (P : Pt rCompiler h hh ⟨gc, 0, none⟩ ⟨gc, T_impl_compiler, [], []⟩ ((g1, T_impl_Score, ⟨Z_impl_Score⟩) :: BL) (start0.comp 0)) (S0 : ∀ {h'' : Heap}, Mem h h'' BL → SlR rS h'' b (scoreL t).length k ((scoreL t).map mkB)) :
    LOOP (impl_CompileScore.B8 (fun u h' => TripR h h' u (compileS t))) (⟨g1, 0, none⟩, b, (scoreL t).length, k, ⟨gc, 0, none⟩) hh := by
  have ec : compileS t = endS (scoreL t).length (runS (scoreL t)) := by unfold compileS; rw [if_neg (by omega)]
  rw [ec]
  generalize scoreL t = ls at *
  refine loopN (fun f y hh => ∃ s p, y = ((⟨g1, 0, none⟩ : Addr), b, ls.length, k, (⟨gc, 0, none⟩ : Addr)) ∧ RunAt ls f p s ∧ Pt rCompiler h hh ⟨gc, 0, none⟩ ⟨gc, T_impl_compiler, [], []⟩ ((g1, T_impl_Score, ⟨Z_impl_Score⟩) :: BL) (s.comp p))
    ⟨start0, 0, rfl, RunAt.start, P⟩ ?_
  clear P hh
  rintro f y hh ⟨s, p, rfl, R, P⟩ N next
  have hmx : 4096 ≤ maxLen := by decide
  refine P.rd.oI (off := 8) ?_
  show BIF (decide ((p : Int) < (ls.length : Int))) _ _
  refine brd (fun hc => ?_) fun hc => ?_
  · have hp : p < ls.length := by omega
    have S := S0 (P.mem.sub (List.sublist_cons_self _ _))
    refine P.rd.oI (off := 8) ?_
    show IDXS b (p : Int) ls.length _
    refine S.idn (by decide) hp fun a Ra => Ra.oS1 fun _ => ?_
    rw [map_str hp]
    refine (compile_c (B0.ext P.ext) R.I P (wl p)).mono fun u h37 Q => ?_
    unfold ResC at Q
    split at Q
    · rename_i s' p' e
      obtain ⟨rfl, h1, P⟩ := Q
      have hb := line_next (by omega) R.I e
      refine as_i (br_f rfl (P.rd.oI (off := 8) ?_))
      show ST1 h37 _ (.int .i64 (IntKind.i64.wrap (((p' - 1 : Nat) : Int) + 1))) _
      rw [wrap64_succ (by omega), show p' - 1 + 1 = p' by omega]
      refine P.stI (off := 8) fun h44 P => ?_
      obtain ⟨f', rfl, R'⟩ := R.next (by omega) hp e
      exact next f' _ _ (Nat.lt_succ_self _) ⟨s', p', rfl, R', P⟩
    · rename_i c e
      obtain ⟨rfl, he, M⟩ := Q
      refine as_i (br_t (bne_iff_ne.2 he) ?_)
      exact trip_bad M (by rw [R.bad hp e]; rfl)
  · rw [R.done (by omega)]
    rw [show endS ls.length (.ok s) = if s.loops = [] then (s.score, 0, 0) else (z_Score, (ls.length : Int), 4) from rfl]
    refine P.rd.oL (off := 7) fun b7 l7 c7 S7 => ?_
    obtain rfl : s.loops.length = l7 := by have := S7.len; rwa [show (s.comp p).loops = s.loops.map _ from rfl, List.length_map] at this
    refine brd (fun h0 => ?_) fun h0 => ?_
    · refine impl_length_string.call ?_
      unfold impl_length_string.S
      refine as_i ?_
      exact trip_bad P.mem (if_neg fun e => by rw [e] at h0; simp at h0)
    rw [if_pos (List.length_eq_zero_iff.1 (by omega))]
    have el : (s.comp p).score.Events.length = 2 * s.notes.length := evsOf_len _
    have n64 := R.I.n64
    refine Pt.sortE (off := 5) P (ns := s.notes) (List.Perm.refl _) (by show (s.comp p).score.Events.length ≤ _; omega) fun h60 P => ?_
    obtain ⟨cs, B, M, O⟩ := P.out
    obtain ⟨v, w, B1, Rs, e1, rfl, hv, OS⟩ := comp_ow O
    obtain rfl : cs = ⟨[] ++ (v ++ w)⟩ := Array.toList_inj.1 (by rw [e1]; rfl)
    have OS : rScore.ow B1 v s.score := OS
    refine M.ldaM rfl hv ?_
    have M := M.cnt (W := (g1, T_impl_Score, ⟨Z_impl_Score⟩) :: B1) (fun p => by simp only [cnt_app, cnt_cons, cnt_nil] at *; omega)
    exact M.sta0 .here (show v.length = 6 from hv) (rScore.oone OS) rfl .here fun h58 M => M.lda0 .here (show v.length = 6 from hv) ⟨_, _, rfl, OS, M.drop⟩
theorem score0_ow : rScore.ow [] [.float .f32 1194083328, .float .f32 0, .float .f32 0, .slice none 0 0, .slice none 0 0, .slice none 0 0] { z_Score with Rate := 1194083328 } :=
  ⟨[], [], [_], [_, _, _, _, _], rfl, rfl, ⟨rfl, _, rfl, fw_c32 (by decide) (by decide)⟩, [], [], [_, _, _], [_, _], rfl, rfl, zow_Tuning, [], [], [_], [_], rfl, rfl, ⟨none, 0, 0, rfl, SlO.nil⟩, none, 0, 0, rfl, SlO.nil⟩
theorem impl_J4 {g1 : Nat} {b : Option Addr} {k : Nat} {BL : List Blk} {hh : Heap} (B0 : Libs h) (ht : t.length ≤ 1048576) (M : Mem h hh ((g1, T_impl_Score, ⟨Z_impl_Score⟩) :: BL)) (S0 : ∀ {h'' : Heap}, Mem h h'' BL → SlR rS h'' b (scoreL t).length k ((scoreL t).map mkB)) :
    impl_CompileScore.J4 (fun u h' => TripR h h' u (compileS t)) (mkB t) ⟨g1, 0, none⟩ b (scoreL t).length k hh := by
  have hz := mk_size t
  unfold impl_CompileScore.J4
  refine brd (fun h1 => trip_bad M (by unfold compileS; rw [if_pos (.inl (by omega))])) fun h1 => ?_
  refine brd (fun h2 => trip_bad M (by unfold compileS; rw [if_pos (.inr (by omega))])) fun h2 => ?_
  unfold impl_CompileScore.J6
  refine (impl_EqualTuning_c (fw_c32 (by decide) (by decide))).mono ?_
  rintro _ h21 ⟨cs, Bt, rfl, Ot, Mt⟩
  have sc : cs.size = 3 := osz Ot rfl
  rw [tune0] at Ot
  have M := M.join Mt
  obtain ⟨C1, O1, c1⟩ := ow_splice (n := 3) score0_ow foc_Score_Tuning rfl Ot
  obtain ⟨C2, O2, c2⟩ := ow_splice (n := 6) (cs := ⟨_⟩) zow_Compiler foc_Compiler_score rfl O1
  refine tup2 (as_a (as_i ((Mem.start h21).alc fun g26 h27 x27 Mg => Mg.sta0 .here sc (rTuning.oone Ot) rfl .here fun h28 Mg => Mg.lda0 .here sc (siz sc (siz (osz (cs := ⟨_⟩) O1 rfl) ?_)))))
  have M := M.grow Mg.ext
  refine M.alc fun g30 h31 x31 M => ?_
  have P : Pt rCompiler h h31 ⟨g30, 0, none⟩ ⟨g30, T_impl_compiler, [], []⟩ ((g1, T_impl_Score, ⟨Z_impl_Score⟩) :: BL) (start0.comp 0) := Pt.newC M O2 fun p => by have := c1 p; have := c2 p; simp only [List.append_eq, cnt_app, cnt_cons, cnt_nil] at *; omega
  refine impl_B8 B0 (by omega) (by omega) (fun j => ?_) P S0
  have key : ∀ w ∈ cutL 10 t, w.length ≤ 4096 := fun w hw => by have := cut_len hw; omega
  by_cases hj : j < (scoreL t).length
  · rw [getElem!_pos _ j hj]
    have hm := List.getElem_mem hj
    refine key _ ?_
    unfold scoreL at hm ⊢
    split at hm
    · rename_i hc
      simp only [if_pos hc]
      exact List.mem_of_mem_take hm
    · rename_i hc
      simp only [if_neg hc]
      exact hm
  · rw [getElem!_neg _ j hj]; exact Nat.zero_le _
theorem impl_CompileScore_c (B0 : Libs h) (ht : t.length ≤ 1048576) : CALL prg f_impl_CompileScore #[.string (mkB t)] (fun u h' => TripR h h' u (compileS t)) h := by
  refine impl_CompileScore.call ((Mem.start h).alc fun g1 h2 x2 M => (Split_c (c := 10) (B0.ext x2) (by rw [mk_size]; omega) M fun gl h4 x4 M => as_l ?_))
  rw [mkB_data] at M ⊢
  have hn0 : 0 < (cutL 10 t).length := List.length_pos_iff.2 (cut_ne 10 t)
  have hc := cut_size 10 t
  have hmx : 2097152 ≤ maxLen := by decide
  have S : ∀ {h'' : Heap}, Mem h h'' [(gl, T_string, strV (cutL 10 t))] → SlR rS h'' (some ⟨gl, 0, none⟩) (cutL 10 t).length (cutL 10 t).length ((cutL 10 t).map mkB) := fun M => strs_slr M .here (fun w hw => by have := cut_len hw; omega) (by omega)
  have M : Mem h h4 ((g1, T_impl_Score, ⟨Z_impl_Score⟩) :: [(gl, T_string, strV (cutL 10 t))]) := M.cnt fun p => by simp only [cnt_app, cnt_cons, cnt_nil]; omega
  generalize hn : (cutL 10 t).length = n at *
  rw [wrap64 (n := (n : Int) - 1) (by omega) (by omega), show (n : Int) - 1 = ((n - 1 : Nat) : Int) by omega]
  refine (S (M.sub (List.sublist_cons_self _ _))).idn (by decide) (by omega) fun a Ra => Ra.oS1 fun _ => ?_
  rw [map_str (by omega)]
  refine brw [] rfl (fun he => ?_) fun he => ?_
  · refine slb (by omega) (by omega) (by omega) ?_
    have es : scoreL t = (cutL 10 t).take (n - 1) := by unfold scoreL; rw [hn, if_pos he]
    have el : (scoreL t).length = n - 1 := by rw [es, List.length_take]; omega
    have := impl_J4 (t := t) (b := slA (some ⟨gl, 0, none⟩) n 0 1) (k := n - 0) B0 ht M (fun {h''} M' => by
      have := (S M').pre (i := n - 1) (by omega) 1
      rw [el, es, List.map_take]
      exact this)
    rw [el] at this
    exact this
  · have es : scoreL t = cutL 10 t := by unfold scoreL; rw [hn, if_neg he]
    have el : (scoreL t).length = n := by rw [es, hn]
    have := impl_J4 (t := t) (b := some ⟨gl, 0, none⟩) (k := n) B0 ht M (fun {h''} M' => by
      have := S M'
      rw [el, es]
      exact this)
    rw [el] at this
    exact this
end
end Go.Sx
