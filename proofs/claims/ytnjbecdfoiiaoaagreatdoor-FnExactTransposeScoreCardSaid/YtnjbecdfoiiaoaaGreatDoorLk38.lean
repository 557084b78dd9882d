/- Scores transposed. -/
import Derived.Test.YtnjbecdfoiiaoaaGreatDoorLk37
import Derived.Test.YtnjbecdfoiiaoaaGreatDoorLk2
import Derived.Test.YtnjbecdfoiiaoaaGreatDoorLh0
import Derived.Test.YtnjbecdfoiiaoaaGreatDoorLh4
import Derived.Test.YtnjbecdfoiiaoaaGreatDoorTransposeScore
set_option linter.unusedVariables false
set_option linter.unusedSimpArgs false
namespace Go.Sx
open Go.Proofs
set_option maxRecDepth 100000
set_option maxHeartbeats 1000000

def trE (n : Int) (e : GEvent) : GEvent := if isSt e then { e with Key := e.Key + n } else e
def trOk (n : Int) (e : GEvent) : Bool := !isSt e || inR (e.Key + n) (-100) 100
noncomputable def GScore.transpose (s : GScore) (n : Int) : GScore × Int :=
  if s.ok then if inR n (-100) 100 then if s.Events.all (trOk n) then ({ s with Events := s.Events.map (trE n) }, 0) else (z_Score, 2) else (z_Score, 2) else (z_Score, 1)
section
variable {h : Heap}
theorem ev_key {s : GScore} (hs : s.ok = true) {i : Nat} (hi : i < s.Events.length) (h2 : isSt s.Events[i]! = true) : -100 ≤ s.Events[i]!.Key ∧ s.Events[i]!.Key ≤ 100 := by
  have := (score_ev hs).part i hi
  have hk : s.Events[i]!.Kind = 2 := by unfold isSt at h2; simpa using h2
  unfold evPart at this
  rw [if_neg (by omega)] at this
  simp only [Bool.and_eq_true, inR, decide_eq_true_eq] at this
  omega
theorem spec_TransposeScore_c {cs : Array Value} {s : GScore} {n : Int} (R0 : rScore.rd h cs.toList s) : CALL prg f_spec_TransposeScore #[.agg cs, .int .i64 n] (fun u h' => PairR rScore h h' u (s.transpose n).1 (s.transpose n).2) h := by
  have hm := maxLen_lt
  refine spec_TransposeScore.call ((Mem.start h).alc fun g1 h1 x1 M => M.alc fun g3 h2 x2 M => ?_)
  have R : RdP rScore h2 ⟨g1, 0, none⟩ s := M.rdp (.there .here) (rScore.ext M.ext R0)
  have bad : ∀ {hh : Heap} {L : List Blk} {k : Int}, Mem h hh ((g3, T_impl_Score, ⟨Z_impl_Score⟩) :: L) → s.transpose n = (z_Score, k) →
      STA 6 hh ⟨g3, 0, none⟩ ⟨Z_impl_Score⟩ fun h8 => LDA 6 h8 ⟨g3, 0, none⟩ fun a9 => PairR rScore h h8 (.tuple ⟨[.agg a9, .int .i64 k]⟩) (s.transpose n).1 (s.transpose n).2 := fun M e => by
    rw [e]
    exact M.sta0 .here rfl (all_one rfl) rfl .here fun h3 M => M.lda0 .here rfl ⟨_, [], rfl, zow_Score, (Mem.start h).grow M.ext⟩
  refine goM M (l08Ok_c R) fun h3 M => as_b (brN (fun hb => bad M (by unfold GScore.transpose; rw [hb]; rfl)) fun hok => ?_)
  refine goM M (l00In_c _ _ _ _) fun h4 M => as_b (brN (fun hb => bad M (by unfold GScore.transpose; rw [hok, hb]; rfl)) fun hn => ?_)
  have hn2 : -100 ≤ n ∧ n ≤ 100 := by simp only [inR, Bool.and_eq_true, decide_eq_true_eq] at hn; exact hn
  have R : RdP rScore h4 ⟨g1, 0, none⟩ s := M.rdp (.there .here) (rScore.ext M.ext R0)
  have hlen := (score_small hok).2.2
  refine NewR.go M (l08Copy_c R hok) fun h5 c5 B5 M O5 s5 => as_a (M.alc fun g18 h6 x6 M => M.sta0 .here s5 (rScore.oone O5) rfl .here fun h7 M => ?_)
  have P : Pt rScore h h7 ⟨g18, 0, none⟩ ⟨g18, T_impl_Score, [], []⟩ [(g3, T_impl_Score, ⟨Z_impl_Score⟩), (g1, T_impl_Score, cs)] s := Pt.new O5 M
  refine loop (fun y hh => ∃ i : Nat, y = (n, ⟨g3, 0, none⟩, ⟨g18, 0, none⟩, (i : Int)) ∧ i ≤ s.Events.length ∧ Pt rScore h hh ⟨g18, 0, none⟩ ⟨g18, T_impl_Score, [], []⟩ [(g3, T_impl_Score, ⟨Z_impl_Score⟩), (g1, T_impl_Score, cs)] { s with Events := mapN (trE n) s.Events i } ∧ ∀ j, j < i → trOk n s.Events[j]! = true)
    (fun y => ((s.Events.length : Int) - y.2.2.2).toNat) ⟨0, rfl, by omega, by rw [mapN_zero]; exact P, fun j hj => by omega⟩ ?_
  rintro y hh ⟨i, rfl, hi, P, hd⟩
  obtain ⟨b, l, c, hc0, S⟩ := P.hdr (off := 5) (e := T_impl_Event) (s := rEvent)
  have hl := S.len
  simp only [mapN_len] at hl
  refine o_l hc0 (brd (fun hc => ?_) fun hc => ?_)
  · have e0 : (mapN (trE n) s.Events i)[i]! = s.Events[i]! := mapN_get (by omega)
    have S : SlR rEvent hh b l c (mapN (trE n) s.Events i) := S
    have step : ∀ {h' : Heap}, Pt rScore h h' ⟨g18, 0, none⟩ ⟨g18, T_impl_Score, [], []⟩ [(g3, T_impl_Score, ⟨Z_impl_Score⟩), (g1, T_impl_Score, cs)] { s with Events := mapN (trE n) s.Events (i + 1) } → trOk n s.Events[i]! = true → ((∃ i' : Nat, (n, (⟨g3, 0, none⟩ : Addr), (⟨g18, 0, none⟩ : Addr), IntKind.i64.wrap ((i : Int) + 1)) = (n, ⟨g3, 0, none⟩, ⟨g18, 0, none⟩, (i' : Int)) ∧ i' ≤ s.Events.length ∧ Pt rScore h h' ⟨g18, 0, none⟩ ⟨g18, T_impl_Score, [], []⟩ [(g3, T_impl_Score, ⟨Z_impl_Score⟩), (g1, T_impl_Score, cs)] { s with Events := mapN (trE n) s.Events i' } ∧ ∀ j, j < i' → trOk n s.Events[j]! = true) ∧ ((s.Events.length : Int) - IntKind.i64.wrap ((i : Int) + 1)).toNat < ((s.Events.length : Int) - i).toNat) := fun P hp =>
      ⟨⟨i + 1, by rw [wrap64_succ (by omega)], by omega, P, fun j hj => by
        by_cases e : j = i
        · subst e; exact hp
        · exact hd j (by omega)⟩, by rw [wrap64_succ (by omega)]; omega⟩
    have e1 : (mapN (trE n) s.Events i).set i (trE n s.Events[i]!) = mapN (trE n) s.Events (i + 1) := mapN_step (by omega)
    refine o_l hc0 (S.idn ev_sz (by omega) fun a Ra => ?_)
    rw [e0] at Ra
    refine Ra.oI (br (fun k => ?_) fun k => ?_)
    · have hst : isSt s.Events[i]! = false := by unfold isSt; rw [bne_iff_ne] at k; rw [beq_eq_false_iff_ne]; exact k
      refine step ?_ (by rw [trOk, hst]; rfl)
      rw [← e1, show trE n s.Events[i]! = s.Events[i]! by rw [trE, hst]; rfl, ← e0]
      have : (mapN (trE n) s.Events i).set i (mapN (trE n) s.Events i)[i]! = mapN (trE n) s.Events i := by
        rw [getElem!_pos _ i (by rw [mapN_len]; omega)]; exact List.set_getElem_self _
      rw [this]; exact P
    · have hst : isSt s.Events[i]! = true := by unfold isSt; rw [bne_eq_false_iff_eq] at k; rw [beq_iff_eq]; exact k
      have hkey := ev_key hok (by omega) hst
      refine o_l hc0 (S.idn ev_sz (by omega) fun a2 Ra2 => ?_)
      rw [e0] at Ra2
      refine Ra2.oI ?_
      obtain ⟨a0, F', L', rfl, P', hs, close⟩ := P.elemK (off := 5) (e := T_impl_Event) (s := rEvent) (i := i) hc0 (by omega)
      have P' : Pt rEvent h hh _ F' L' s.Events[i]! := e0 ▸ P'
      refine idxs (by omega) (by omega) (P'.stI fun h8 P' => ?_)
      rw [wrap64 (by omega) (by omega)] at P'
      obtain ⟨P, hcells⟩ := close _ _ _ P'
      have e2 : trE n s.Events[i]! = { s.Events[i]! with Key := s.Events[i]!.Key + n } := by rw [trE, hst]; rfl
      have P : Pt rScore h h8 ⟨g18, 0, none⟩ ⟨g18, T_impl_Score, [], []⟩ [(g3, T_impl_Score, ⟨Z_impl_Score⟩), (g1, T_impl_Score, cs)] { s with Events := (mapN (trE n) s.Events i).set i { s.Events[i]! with Key := s.Events[i]!.Key + n } } := P
      rw [← e2, e1] at P
      have hc1 : cell h8 ((⟨g18, 0, none⟩ : Addr).add 5) = some (.slice (some a0) l c) := (hcells 5).trans hc0
      have S8 : SlR rEvent h8 (some a0) l c (mapN (trE n) s.Events (i + 1)) := P.slr hc1
      have e3 : (mapN (trE n) s.Events (i + 1))[i]! = trE n s.Events[i]! := by
        rw [← e1, getElem!_pos _ i (by rw [List.length_set, mapN_len]; omega), List.getElem_set_self]
      refine o_l hc1 (S8.idn ev_sz (by omega) fun a3 Ra3 => ?_)
      rw [e3, e2] at Ra3
      refine Ra3.oI ?_
      refine (l00In_c _ _ _ _).mono ?_
      rintro _ h9 ⟨rfl, x9⟩
      refine as_b (brN (fun hb => ?_) fun hb => step (P.grow x9) (by rw [trOk, hst, hb]; rfl))
      obtain ⟨cs', B', M', O'⟩ := (P.grow x9).out
      have M' := M'.cnt (W := (g3, T_impl_Score, ⟨Z_impl_Score⟩) :: B') (fun p => by simp only [cnt_app, cnt_cons, cnt_nil] at *; omega)
      refine bad M' ?_
      unfold GScore.transpose
      rw [hok, if_pos rfl, hn, if_pos rfl, if_neg]
      rw [all_range, all_false (f := fun i => trOk n s.Events[i]!) (i := i) (by omega) (by show trOk n s.Events[i]! = false; rw [trOk, hst, hb]; rfl)]
      decide
  · have hi2 : i = s.Events.length := by omega
    rw [mapN_all hi2] at P
    have e : s.transpose n = ({ s with Events := s.Events.map (trE n) }, 0) := by
      unfold GScore.transpose
      rw [hok, if_pos rfl, hn, if_pos rfl, if_pos]
      rw [all_range, all_true fun j hj => hd j (by omega)]
    rw [e]
    obtain ⟨cs', B', M', O'⟩ := P.out
    refine M'.lda0 .here (osz O' rfl) ?_
    have M' := M'.cnt (W := (g3, T_impl_Score, ⟨Z_impl_Score⟩) :: B') (fun p => by simp only [cnt_app, cnt_cons, cnt_nil] at *; omega)
    exact M'.sta0 .here (osz O' rfl) (rScore.oone O') rfl .here fun h3 M => M.lda0 .here (osz O' rfl) ⟨_, B', rfl, O', M.drop⟩
theorem impl_TransposeScore_c {cs : Array Value} {s : GScore} {n : Int} (R0 : rScore.rd h cs.toList s) : CALL prg f_impl_TransposeScore #[.agg cs, .int .i64 n] (fun u h' => PairR rScore h h' u (s.transpose n).1 (s.transpose n).2) h := by
  have hm := maxLen_lt
  refine impl_TransposeScore.call ((Mem.start h).alc fun g1 h1 x1 M => M.alc fun g3 h2 x2 M => M.lda0 (.there .here) (rsz R0 rfl) ?_)
  have bad : ∀ {hh : Heap} {L : List Blk} {k : Int}, Mem h hh ((g3, T_impl_Score, ⟨Z_impl_Score⟩) :: L) → s.transpose n = (z_Score, k) →
      STA 6 hh ⟨g3, 0, none⟩ ⟨Z_impl_Score⟩ fun h8 => LDA 6 h8 ⟨g3, 0, none⟩ fun a9 => PairR rScore h h8 (.tuple ⟨[.agg a9, .int .i64 k]⟩) (s.transpose n).1 (s.transpose n).2 := fun M e => by
    rw [e]
    exact M.sta0 .here rfl (all_one rfl) rfl .here fun h3 M => M.lda0 .here rfl ⟨_, [], rfl, zow_Score, (Mem.start h).grow M.ext⟩
  refine goM M (ValidScore_c (rScore.ext M.ext R0)) fun h3 M => as_b (brN (fun hb => bad M (by unfold GScore.transpose; rw [hb]; rfl)) fun hok => ?_)
  refine goM M (isKey_c _ _) fun h4 M => as_b (brN (fun hb => bad M (by unfold GScore.transpose; rw [hok, hb]; rfl)) fun hn => ?_)
  have hn2 : -100 ≤ n ∧ n ≤ 100 := by simp only [inR, Bool.and_eq_true, decide_eq_true_eq] at hn; exact hn
  have hlen := (score_small hok).2.2
  refine M.lda0 (.there .here) (rsz R0 rfl) (NewR.go M (Score_clone_c (rScore.ext M.ext R0) hok) fun h5 c5 B5 M O5 s5 => as_a ?_)
  have M := M.cnt (W := (g1, T_impl_Score, cs) :: (B5 ++ [(g3, T_impl_Score, ⟨Z_impl_Score⟩)])) (fun p => by simp only [cnt_app, cnt_cons, cnt_nil] at *; omega)
  refine M.sta0 .here s5 (rScore.oone O5) (rsz R0 rfl) .here fun h7 M => ?_
  have P : Pt rScore h h7 ⟨g1, 0, none⟩ ⟨g1, T_impl_Score, [], []⟩ [(g3, T_impl_Score, ⟨Z_impl_Score⟩)] s := Pt.new O5 M
  obtain ⟨b, l, c, hc0, S⟩ := P.hdr (off := 5) (e := T_impl_Event) (s := rEvent)
  have hl : s.Events.length = l := S.len
  refine o_l hc0 (loop (fun y hh => ∃ i : Nat, y = (n, ⟨g1, 0, none⟩, ⟨g3, 0, none⟩, b, l, c, (l : Int), (i : Int)) ∧ i ≤ l ∧ Pt rScore h hh ⟨g1, 0, none⟩ ⟨g1, T_impl_Score, [], []⟩ [(g3, T_impl_Score, ⟨Z_impl_Score⟩)] { s with Events := mapN (trE n) s.Events i } ∧ cell hh ((⟨g1, 0, none⟩ : Addr).add 5) = some (.slice b l c) ∧ ∀ j, j < i → trOk n s.Events[j]! = true)
    (fun y => ((l : Int) - y.2.2.2.2.2.2.2).toNat) ⟨0, rfl, by omega, by rw [mapN_zero]; exact P, hc0, fun j hj => by omega⟩ ?_)
  clear hc0 S P
  rintro y hh ⟨i, rfl, hi, P, hc0, hd⟩
  refine brd (fun hc => ?_) fun hc => ?_
  · have e0 : (mapN (trE n) s.Events i)[i]! = s.Events[i]! := mapN_get (by omega)
    have S : SlR rEvent hh b l c (mapN (trE n) s.Events i) := P.slr hc0
    have e1 : (mapN (trE n) s.Events i).set i (trE n s.Events[i]!) = mapN (trE n) s.Events (i + 1) := mapN_step (by omega)
    have step : ∀ {h' : Heap}, Pt rScore h h' ⟨g1, 0, none⟩ ⟨g1, T_impl_Score, [], []⟩ [(g3, T_impl_Score, ⟨Z_impl_Score⟩)] { s with Events := mapN (trE n) s.Events (i + 1) } → cell h' ((⟨g1, 0, none⟩ : Addr).add 5) = some (.slice b l c) → trOk n s.Events[i]! = true → ((∃ i' : Nat, (n, (⟨g1, 0, none⟩ : Addr), (⟨g3, 0, none⟩ : Addr), b, l, c, (l : Int), IntKind.i64.wrap ((i : Int) + 1)) = (n, ⟨g1, 0, none⟩, ⟨g3, 0, none⟩, b, l, c, (l : Int), (i' : Int)) ∧ i' ≤ l ∧ Pt rScore h h' ⟨g1, 0, none⟩ ⟨g1, T_impl_Score, [], []⟩ [(g3, T_impl_Score, ⟨Z_impl_Score⟩)] { s with Events := mapN (trE n) s.Events i' } ∧ cell h' ((⟨g1, 0, none⟩ : Addr).add 5) = some (.slice b l c) ∧ ∀ j, j < i' → trOk n s.Events[j]! = true) ∧ ((l : Int) - IntKind.i64.wrap ((i : Int) + 1)).toNat < ((l : Int) - i).toNat) := fun P hc hp =>
      ⟨⟨i + 1, by rw [wrap64_succ (by omega)], by omega, P, hc, fun j hj => by
        by_cases e : j = i
        · subst e; exact hp
        · exact hd j (by omega)⟩, by rw [wrap64_succ (by omega)]; omega⟩
    refine S.idn ev_sz (by omega) fun a Ra => ?_
    rw [e0] at Ra
    refine Ra.lda1 rfl fun ce Re => localR Re rfl rfl fun g2 h8 x8 E => E.oI2 (br (fun k => ?_) fun k => ?_)
    · have hst : isSt s.Events[i]! = false := by unfold isSt; rw [bne_iff_ne] at k; rw [beq_eq_false_iff_ne]; exact k
      refine step ?_ (cell_ext hc0 x8) (by rw [trOk, hst]; rfl)
      rw [← e1, show trE n s.Events[i]! = s.Events[i]! by rw [trE, hst]; rfl, ← e0]
      have : (mapN (trE n) s.Events i).set i (mapN (trE n) s.Events i)[i]! = mapN (trE n) s.Events i := by
        rw [getElem!_pos _ i (by rw [mapN_len]; omega)]; exact List.set_getElem_self _
      rw [this]; exact P.grow x8
    · have hst : isSt s.Events[i]! = true := by unfold isSt; rw [bne_eq_false_iff_eq] at k; rw [beq_iff_eq]; exact k
      have hkey := ev_key hok (by omega) hst
      refine E.oI2 ?_
      rw [wrap64 (n := s.Events[i]!.Key + n) (by omega) (by omega)]
      refine goX (isKey_c _ _) fun h9 x9 => as_b (brN (fun hb => ?_) fun hb => ?_)
      · have M' := (P.mem.grow x8).grow x9
        refine bad M' ?_
        unfold GScore.transpose
        rw [hok, if_pos rfl, hn, if_pos rfl, if_neg]
        rw [all_range, all_false (f := fun i => trOk n s.Events[i]!) (i := i) (by omega) (by show trOk n s.Events[i]! = false; rw [trOk, hst, hb]; rfl)]
        decide
      · have P := (P.grow x8).grow x9
        have hc1 := cell_ext (cell_ext hc0 x8) x9
        have S9 := (S.ext x8).ext x9
        refine o_l hc1 (S9.idn ev_sz (by omega) fun a2 Ra2 => ?_)
        rw [e0] at Ra2
        refine Ra2.oI ?_
        rw [wrap64 (n := s.Events[i]!.Key + n) (by omega) (by omega)]
        obtain ⟨a0, F', L', rfl, P', hs, close⟩ := P.elemK (off := 5) (e := T_impl_Event) (s := rEvent) (i := i) hc1 (by omega)
        have P' : Pt rEvent h h9 _ F' L' s.Events[i]! := e0 ▸ P'
        refine idxs (by omega) (by omega) (P'.stI fun h10 P' => ?_)
        obtain ⟨P, hcells⟩ := close _ _ _ P'
        have e2 : trE n s.Events[i]! = { s.Events[i]! with Key := s.Events[i]!.Key + n } := by rw [trE, hst]; rfl
        have P : Pt rScore h h10 ⟨g1, 0, none⟩ ⟨g1, T_impl_Score, [], []⟩ [(g3, T_impl_Score, ⟨Z_impl_Score⟩)] { s with Events := (mapN (trE n) s.Events i).set i { s.Events[i]! with Key := s.Events[i]!.Key + n } } := P
        rw [← e2, e1] at P
        exact step P ((hcells 5).trans hc1) (by rw [trOk, hst, hb]; rfl)
  · have hi2 : i = s.Events.length := by omega
    rw [mapN_all hi2] at P
    have e : s.transpose n = ({ s with Events := s.Events.map (trE n) }, 0) := by
      unfold GScore.transpose
      rw [hok, if_pos rfl, hn, if_pos rfl, if_pos]
      rw [all_range, all_true fun j hj => hd j (by omega)]
    rw [e]
    obtain ⟨cs', B', M', O'⟩ := P.out
    refine M'.lda0 .here (osz O' rfl) ?_
    have M' := M'.cnt (W := (g3, T_impl_Score, ⟨Z_impl_Score⟩) :: B') (fun p => by simp only [cnt_app, cnt_cons, cnt_nil] at *; omega)
    exact M'.sta0 .here (osz O' rfl) (rScore.oone O') rfl .here fun h3 M => M.lda0 .here (osz O' rfl) ⟨_, B', rfl, O', M.drop⟩
theorem w_transpose {s : GScore} {n : Int} (hw : w_Score s ≤ 1048576) : w_Score (s.transpose n).1 ≤ 1048576 := by
  have z : w_Score z_Score ≤ 1048576 := by decide
  unfold GScore.transpose
  split
  · split
    · split
      · show w_Score _ ≤ _
        unfold w_Score w_EventS at *
        simpa using hw
      · exact z
    · exact z
  · exact z
end
end Go.Sx
