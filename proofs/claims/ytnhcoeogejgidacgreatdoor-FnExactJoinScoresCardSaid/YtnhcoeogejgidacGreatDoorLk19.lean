/- The rule's comparisons of bows, instruments. -/
import Derived.Test.YtnhcoeogejgidacGreatDoorLk21
import Derived.Test.YtnhcoeogejgidacGreatDoorLm20
import Derived.Test.YtnhcoeogejgidacGreatDoorJoinScores
set_option linter.unusedVariables false
set_option linter.unusedSimpArgs false
namespace Go.Sx
open Go.Proofs
set_option maxRecDepth 100000
set_option maxHeartbeats 1000000

section
variable {h : Heap}
theorem l08SameInstruments_c {b1 b2 : Option Addr} {l1 c1 l2 c2 : Nat} {xs ys : List GInstrument} (S1 : SlR rInstrument h b1 l1 c1 xs) (S2 : SlR rInstrument h b2 l2 c2 ys) :
    CALL prg f_spec_l08SameInstruments #[.slice b1 l1 c1, .slice b2 l2 c2] (fun u h' => u = .bool (same xs ys) ∧ Ext h h') h := by
  have e1 := S1.len
  have e2 := S2.len
  have h2 := S1.2.1
  have h3 := S1.2.2.1
  have := maxLen_lt
  refine spec_l08SameInstruments.call (br (fun hb => ⟨by rw [same_len (by simp at hb; omega)], Ext.refl _⟩) fun hb => ?_)
  obtain rfl : l1 = l2 := by simp at hb; omega
  clear hb
  refine loop (fun x hh => ∃ n : Nat, x = (b1, l1, c1, b2, l1, c2, (n : Int)) ∧ n ≤ l1 ∧ Ext h hh ∧ ∀ i, i < n → same xs[i]! ys[i]! = true) (fun x => (l1 - x.2.2.2.2.2.2).toNat) ⟨0, rfl, by omega, Ext.refl _, fun i hi => by omega⟩ ?_
  rintro x hh ⟨n, rfl, hn, X, hs⟩
  refine brd (fun hc => ?_) fun hc => ⟨by rw [same_all (by omega) fun i hi => hs i (by omega)], X⟩
  have A : ∀ {h' : Heap} {K : Addr → Prop}, Ext h h' → (∀ a, RdP rInstrument h' (a.add (n * 5)) xs[n]! → K a) → IDXS b1 (n : Int) l1 K := fun e H => (S1.ext e).idx (by decide) (by omega) (by omega) H
  have B : ∀ {h' : Heap} {K : Addr → Prop}, Ext h h' → (∀ a, RdP rInstrument h' (a.add (n * 5)) ys[n]! → K a) → IDXS b2 (n : Int) l1 K := fun e H => (S2.ext e).idx (by decide) (by omega) (by omega) H
  have no : ∀ {h' : Heap}, Ext h h' → same xs[n]! ys[n]! = false → (Value.bool false = .bool (same xs ys) ∧ Ext h h') := fun e hb => ⟨by rw [same_at hb], e⟩
  have ok : ∀ {h' : Heap}, Ext h h' → same xs[n]! ys[n]! = true → (∃ m : Nat, ((b1, l1, c1, b2, l1, c2, IntKind.i64.wrap ((n : Int) + 1)) : Option Addr × Nat × Nat × Option Addr × Nat × Nat × Int) = (b1, l1, c1, b2, l1, c2, (m : Int)) ∧ m ≤ l1 ∧ Ext h h' ∧ ∀ i, i < m → same xs[i]! ys[i]! = true) ∧ ((l1 : Int) - IntKind.i64.wrap ((n : Int) + 1)).toNat < ((l1 : Int) - (n : Int)).toNat := fun e hb => by
    refine ⟨⟨n + 1, by rw [wrap64_succ (by omega)], by omega, e, fun i hi => ?_⟩, by rw [wrap64_succ (by omega)]; omega⟩
    by_cases e : i = n
    · subst e; exact hb
    · exact hs i (by omega)
  have d1 := same_Instrument xs[n]! ys[n]!
  clear hs
  simp only [bne]
  refine A X fun a R1 => R1.oS1 fun _ => B X fun b R2 => R2.oS1 fun _ => br (fun hb => no X (by rw [d1, nt hb]; rfl)) fun k1 => ?_
  refine A X fun a R1 => R1.oI (B X fun b R2 => R2.oI (br (fun hb => no X (by rw [d1, nf k1, show (xs[n]!.Kind == ys[n]!.Kind) = false from nt hb]; rfl)) fun k2 => ?_))
  refine A X fun a R1 => R1.oF fun w1 j1 => B X fun b R2 => R2.oF fun w2 j2 => goE X (l01Same_c j1 j2 _) fun h8 X => as_b (br (fun hb => no X (by rw [d1, nf k1, show (xs[n]!.Kind == ys[n]!.Kind) = true from nf k2, nt hb]; rfl)) fun k3 => ?_)
  refine A X fun a R1 => R1.oF fun w1 j1 => B X fun b R2 => R2.oF fun w2 j2 => goE X (l01Same_c j1 j2 _) fun h8 X => as_b (br (fun hb => no X (by rw [d1, nf k1, show (xs[n]!.Kind == ys[n]!.Kind) = true from nf k2, nf k3, nt hb]; rfl)) fun k4 => ?_)
  refine A X fun a R1 => R1.oF fun w1 j1 => B X fun b R2 => R2.oF fun w2 j2 => goE X (l01Same_c j1 j2 _) fun h8 X => as_b (br (fun hb => no X (by rw [d1, nf k1, show (xs[n]!.Kind == ys[n]!.Kind) = true from nf k2, nf k3, nf k4, nt hb]; rfl)) fun k5 => ok X (by rw [d1, nf k1, show (xs[n]!.Kind == ys[n]!.Kind) = true from nf k2, nf k3, nf k4, nf k5]; rfl))
end
end Go.Sx
/- Scores joined by the rule. -/
set_option linter.unusedVariables false
set_option linter.unusedSimpArgs false
namespace Go.Sx
open Go.Proofs
set_option maxRecDepth 100000
set_option maxHeartbeats 1000000

section
variable {es : List GEvent} {ns : List GNote} {ni : Int}
theorem NInv.noteOk (G : EvGood es ni) (I : NInv es es.length ns) {k : Nat} (hk : k < ns.length) : NoteOk ni ns[k]! := by
  have P := I.perm G
  have h1 : Sx.startE k ns[k]! ∈ es := P.mem_iff.2 (evsOf_mem.2 ⟨k, hk, .inl rfl⟩)
  have h2 : Sx.stopE k ns[k]! ∈ es := P.mem_iff.2 (evsOf_mem.2 ⟨k, hk, .inr rfl⟩)
  obtain ⟨i, hi, e1⟩ := List.mem_iff_getElem.1 h1
  obtain ⟨j, hj, e2⟩ := List.mem_iff_getElem.1 h2
  have p1 := G.part i hi
  have p2 := G.part j hj
  rw [getElem!_pos es i hi, e1] at p1
  rw [getElem!_pos es j hj, e2] at p2
  unfold evPart Sx.startE inR at p1
  unfold evPart Sx.stopE inR at p2
  rw [if_neg (by show ¬ (2 : Int) = 1; decide)] at p1
  rw [if_pos (by show (1 : Int) = 1; decide)] at p2
  simp only [Bool.and_eq_true, decide_eq_true_eq, beq_iff_eq] at p1 p2
  refine ⟨p1.1.1, I.le G hk, p2.1.2, ⟨p1.2.1.1.2.1, ?_⟩, p1.2.1.2, p1.2.2⟩
  have := p1.2.1.1.2.2
  omega
theorem NInv.lates (G : EvGood es ni) (I : NInv es es.length ns) (n : Int) : es.all (fun e => decide (e.At + n ≤ 100000)) = true ↔ ∀ k, k < ns.length → ns[k]!.End + n ≤ 100000 := by
  have := I.late G (100000 - n)
  rw [List.all_eq_true]
  constructor
  · intro h k hk
    have := this.1 (fun e he => by have := h e he; simp only [decide_eq_true_eq] at this; omega) k hk
    omega
  · intro h e he
    have := this.2 (fun k hk => by have := h k hk; omega) e he
    simp only [decide_eq_true_eq]; omega
end
section
variable {h : Heap} {s t : GScore} {n : Int}
theorem joinS_16 {hh : Heap} {g1 g5 : Nat} {ba bb : Option Addr} {la lb ca cb : Nat} {B1 B2 L : List Blk} {ns ms : List GNote} (hs : s.ok = true) (ht : t.ok = true) (I : NInv s.Events s.Events.length ns) (J : NInv t.Events t.Events.length ms)
    (hr : inR n 0 100000 = true) (hl : t.Events.all (fun e => decide (e.At + n ≤ 100000)) = true) (hg : s.ground t = true)
    (R : RdP rScore hh ⟨g1, 0, none⟩ s) (ga : Nat) (eb : bb = some ⟨ga, 0, none⟩) (hla : la = s.Events.length / 2) (hlb : lb = t.Events.length / 2)
    (O1 : SlO T_spec_l08Note rNote B1 ba la ca ns) (O2 : SlO T_spec_l08Note rNote B2 bb lb cb (ms.map (shN n))) (M : Mem h hh ((g5, T_impl_Score, ⟨Z_impl_Score⟩) :: (B1 ++ (B2 ++ L)))) :
    spec_JoinScores.J16 (fun u h' => PairR rScore h h' u (s.join t n).1 (s.join t n).2) ⟨g1, 0, none⟩ ⟨g5, 0, none⟩ ba la ca bb lb cb hh := by
  have G := score_ev hs
  have G' := score_ev ht
  have l1 := G.most
  have l2 := G'.most
  have e1 := G.even
  have e2 := G'.even
  have hm := maxLen_lt
  have hmx : 128 ≤ maxLen := by decide
  unfold spec_JoinScores.J16
  refine brd (fun hc => ?_) fun hc => ?_
  · rw [wrap64 (by omega) (by omega)] at hc
    have e : s.join t n = (z_Score, 3) := by
      unfold GScore.join
      rw [hs, ht, hr, hl, hg, if_pos (by rfl), if_pos (by rfl), if_pos rfl, if_neg (by omega)]
    rw [e]
    exact M.sta0 .here rfl (all_one rfl) rfl .here fun h3 M => M.lda0 .here rfl ⟨_, [], rfl, zow_Score, (Mem.start h).grow M.ext⟩
  · rw [wrap64 (by omega) (by omega)] at hc
    refine NewR.go M (l08Copy_c R hs) fun h5 c5 B5 M O5 s5 => as_a (M.alc fun g18 h6 x6 M => M.sta0 .here s5 (rScore.oone O5) rfl .here fun h7 M => ?_)
    have S2 := O2.look (M.cnt (W := B2) fun p => by simp only [cnt_app, cnt_cons, cnt_nil]; omega) (List.Sublist.refl _)
    obtain ⟨z1, z2, z3, ws, C, RR⟩ := S2
    subst eb
    have M2 : Mem h h7 (B1 ++ ([] ++ ((g5, T_impl_Score, ⟨Z_impl_Score⟩) :: (g18, T_impl_Score, c5) :: (B5 ++ (B2 ++ L))))) := M.cnt fun p => by simp only [cnt_app, cnt_cons, cnt_nil, List.nil_append]; omega
    refine O1.app E_sl_spec_l08Note M2 z1 (flat_rds flat_Note RR) (fun j v hj => C.get hj) (by omega) (by show (la + lb) * 40 ≤ _; omega) fun b6 c6 h8 B6 O6 M => as_l ?_
    refine (l08Compiled_c (O6.look M (List.sublist_append_left _ _)) (by omega)).mono ?_
    rintro _ h9 ⟨b7, c7, B7, l, rfl, O7, S7, N⟩
    have M := M.join N
    have P : Pt rScore h h9 ⟨g18, 0, none⟩ ⟨g18, T_impl_Score, [], []⟩ (B7 ++ [(g5, T_impl_Score, ⟨Z_impl_Score⟩)]) s := Pt.new O5 (M.cnt fun p => by simp only [cnt_app, cnt_cons, cnt_nil]; omega)
    refine as_l ?_
    show ST1 h9 ((⟨g18, 0, none⟩ : Addr).add 5) _ _
    refine Pt.st P foc_Score_Events rfl ⟨_, _, _, rfl, O7⟩ fun h10 P => ?_
    obtain ⟨cs', B', M', O'⟩ := P.out
    have e : s.join t n = ({ s with Events := l }, 0) := by
      unfold GScore.join
      rw [hs, ht, hr, hl, hg, if_pos (by rfl), if_pos (by rfl), if_pos rfl, if_pos (by omega), notesE_eq G I, notesE_eq G' J, ordE_eq S7]
    rw [e]
    refine M'.lda0 .here (osz O' rfl) ?_
    have M' := M'.cnt (W := (g5, T_impl_Score, ⟨Z_impl_Score⟩) :: B') (fun p => by simp only [cnt_app, cnt_cons, cnt_nil] at *; omega)
    exact M'.sta0 .here (osz O' rfl) (rScore.oone O') rfl .here fun h3 M => M.lda0 .here (osz O' rfl) ⟨_, B', rfl, O', M.drop⟩
theorem spec_JoinScores_c {ca cb : Array Value} (R0 : rScore.rd h ca.toList s) (T0 : rScore.rd h cb.toList t) : CALL prg f_spec_JoinScores #[.agg ca, .agg cb, .int .i64 n] (fun u h' => PairR rScore h h' u (s.join t n).1 (s.join t n).2) h := by
  have hm := maxLen_lt
  refine spec_JoinScores.call ((Mem.start h).alc fun g1 h1 x1 M => M.alc fun g3 h2 x2 M => M.alc fun g5 h3 x3 M => ?_)
  have bad : ∀ {hh : Heap} {L : List Blk} {k : Int}, Mem h hh ((g5, T_impl_Score, ⟨Z_impl_Score⟩) :: L) → s.join t n = (z_Score, k) →
      STA 6 hh ⟨g5, 0, none⟩ ⟨Z_impl_Score⟩ fun h8 => LDA 6 h8 ⟨g5, 0, none⟩ fun a9 => PairR rScore h h8 (.tuple ⟨[.agg a9, .int .i64 k]⟩) (s.join t n).1 (s.join t n).2 := fun M e => by
    rw [e]
    exact M.sta0 .here rfl (all_one rfl) rfl .here fun h3 M => M.lda0 .here rfl ⟨_, [], rfl, zow_Score, (Mem.start h).grow M.ext⟩
  have R : RdP rScore h3 ⟨g1, 0, none⟩ s := M.rdp (.there (.there .here)) (rScore.ext M.ext R0)
  refine goM M (l08Ok_c R) fun h4 M => as_b (brN (fun hb => bad M (by unfold GScore.join; rw [hb]; rfl)) fun hs => ?_)
  have T : RdP rScore h4 ⟨g3, 0, none⟩ t := M.rdp (.there .here) (rScore.ext M.ext T0)
  refine goM M (l08Ok_c T) fun h5 M => as_b (brN (fun hb => bad M (by unfold GScore.join; rw [hs, hb]; rfl)) fun ht => ?_)
  have hst : (s.ok && t.ok) = true := by rw [hs, ht]; rfl
  unfold spec_JoinScores.J3
  refine goM M (l00In_c _ _ _ _) fun h6 M => as_b (brN (fun hb => bad M (by unfold GScore.join; rw [hst, hb]; rfl)) fun hr => ?_)
  have hn2 : 0 ≤ n ∧ n ≤ 100000 := by simp only [inR, Bool.and_eq_true, decide_eq_true_eq] at hr; exact hr
  have G := score_ev hs
  have G' := score_ev ht
  have lt := (score_small ht).2.2
  have R : RdP rScore h6 ⟨g1, 0, none⟩ s := M.rdp (.there (.there .here)) (rScore.ext M.ext R0)
  refine (l08Notes_c R hs).mono ?_
  rintro _ h7 ⟨ga, B1, c1, ns, rfl, O1, I, N1⟩
  have M := M.join N1
  have MM := M.cnt (W := (g5, T_impl_Score, ⟨Z_impl_Score⟩) :: (g3, T_impl_Score, cb) :: (g1, T_impl_Score, ca) :: B1) fun p => by simp only [cnt_app, cnt_cons, cnt_nil]; omega
  clear M
  have T : RdP rScore h7 ⟨g3, 0, none⟩ t := MM.rdp (.there .here) (rScore.ext MM.ext T0)
  refine as_l ((l08Notes_c T ht).mono ?_)
  rintro _ h8 ⟨gb, B2, c2, ms, rfl, O2, J, N2⟩
  have M := MM.join N2
  clear MM
  have M0 := M.cnt (W := B2 ++ ((g5, T_impl_Score, ⟨Z_impl_Score⟩) :: (g3, T_impl_Score, cb) :: (g1, T_impl_Score, ca) :: B1)) fun p => by simp only [cnt_app, cnt_cons, cnt_nil]; omega
  clear M
  have hml : ms.length = t.Events.length / 2 := J.len
  refine as_l (loop (fun y hh => ∃ i B2, y = (n, (⟨g1, 0, none⟩ : Addr), (⟨g3, 0, none⟩ : Addr), (⟨g5, 0, none⟩ : Addr), (some ⟨ga, 0, none⟩ : Option Addr), s.Events.length / 2, c1, (some ⟨gb, 0, none⟩ : Option Addr), t.Events.length / 2, c2, ((i : Nat) : Int)) ∧ i ≤ ms.length ∧
      Mem h hh (B2 ++ ((g5, T_impl_Score, ⟨Z_impl_Score⟩) :: (g3, T_impl_Score, cb) :: (g1, T_impl_Score, ca) :: B1)) ∧ SlO T_spec_l08Note rNote B2 (some ⟨gb, 0, none⟩) (t.Events.length / 2) c2 (mapN (shN n) ms i) ∧ ∀ k, k < i → ms[k]!.End + n ≤ 100000)
    (fun y => ((ms.length : Int) - y.2.2.2.2.2.2.2.2.2.2).toNat) ⟨0, _, rfl, by omega, M0, by rw [mapN_zero]; exact O2, fun k hk => by omega⟩ ?_)
  clear O2
  rintro y hh ⟨i, B2, rfl, hi, M, O2, hd⟩
  have MT := M.cnt (W := (g5, T_impl_Score, ⟨Z_impl_Score⟩) :: (g3, T_impl_Score, cb) :: (g1, T_impl_Score, ca) :: (B2 ++ B1)) fun p => by simp only [cnt_app, cnt_cons, cnt_nil]; omega
  refine brd (fun hc => ?_) fun hc => ?_
  · have him : i < ms.length := by omega
    have N := J.noteOk G' him
    have b1 := N.at0
    have b2 := N.le
    have b3 := N.end_
    obtain ⟨a0, F', L', e0, P, hsub, close⟩ := O2.elem M (show i < t.Events.length / 2 by omega)
    cases e0
    have e1 : (mapN (shN n) ms i)[i]! = ms[i]! := mapN_get him
    rw [e1] at P
    have ix : ∀ {F : Addr → Prop}, F ⟨gb, 0, none⟩ → IDXS (some ⟨gb, 0, none⟩) (i : Int) (t.Events.length / 2) F := fun H => idxs (by omega) (by omega) H
    refine ix ?_
    rw [Int.toNat_natCast]
    refine P.rd.oI1 (ix (P.stI1 fun h33 P => ix (P.rd.oI (ix (P.stI (off := 1) fun h37 P => ix (P.rd.oI ?_))))))
    rw [wrap64 (n := ms[i]!.At + n) (by omega) (by omega), wrap64 (n := ms[i]!.End + n) (by omega) (by omega)] at P
    rw [wrap64 (n := ms[i]!.End + n) (by omega) (by omega)]
    have P : Pt rNote h h37 _ F' L' (shN n ms[i]!) := P
    obtain ⟨B', O', M'⟩ := close _ _ _ P
    refine brd (fun hl => ?_) fun hl => ?_
    · refine bad (M'.cnt (W := (g5, T_impl_Score, ⟨Z_impl_Score⟩) :: B') fun p => by simp only [cnt_app, cnt_cons, cnt_nil]; omega) ?_
      have hl : 100000 < ms[i]!.End + n := hl
      have : t.Events.all (fun e => decide (e.At + n ≤ 100000)) = false := by
        rw [Bool.eq_false_iff]
        intro h
        have := (J.lates G' n).1 h i him
        omega
      unfold GScore.join
      rw [hst, hr, this]; rfl
    · have hl : ¬ 100000 < ms[i]!.End + n := hl
      refine ⟨⟨i + 1, B', by rw [wrap64_succ (by omega)], by omega, M', by rw [← mapN_step him]; exact O', fun k hk => ?_⟩, by rw [wrap64_succ (by omega)]; show ((ms.length : Int) - ((i + 1 : Nat) : Int)).toNat < ((ms.length : Int) - (i : Int)).toNat; omega⟩
      by_cases e : k = i
      · subst e; omega
      · exact hd k (by omega)
  · have hi2 : i = ms.length := by omega
    rw [mapN_all hi2] at O2
    subst hi2
    have hl := (J.lates G' n).2 hd
    have hrl : (inR n 0 100000 && t.Events.all (fun e => decide (e.At + n ≤ 100000))) = true := by rw [hr, hl]; rfl
    have ng : s.ground t = false → s.join t n = (z_Score, 4) := fun h => by
      unfold GScore.join
      rw [hst, hrl, h]; rfl
    clear M
    have R : RdP rScore hh ⟨g1, 0, none⟩ s := MT.rdp (.there (.there .here)) (rScore.ext MT.ext R0)
    have T : RdP rScore hh ⟨g3, 0, none⟩ t := MT.rdp (.there .here) (rScore.ext MT.ext T0)
    refine R.oF1 fun x hx => T.oF1 fun y hy => goX (l01Same_c hx hy _) fun h9 x9 => as_b (brN (fun hb => bad (MT.grow x9) (ng (by unfold GScore.ground; rw [hb]; rfl))) fun h1 => ?_)
    refine (R.ext x9).lda foc_Score_Tuning rfl fun cs Rt => (T.ext x9).lda foc_Score_Tuning rfl fun ct Tt => goX (spec_SameTuning_c Rt Tt) fun h10 x10 => as_b (brN (fun hb => bad (MT.grow (x9.trans x10)) (ng (by unfold GScore.ground; rw [h1, hb]; rfl))) fun h2 => ?_)
    have X := x9.trans x10
    refine (R.ext X).oL (off := 4) fun b1 l1 k1 S1 => (T.ext X).oL (off := 4) fun b2 l2 k2 S2 => goX (l08SameInstruments_c S1 S2) fun h11 x11 => as_b (brN (fun hb => bad (MT.grow (X.trans x11)) (ng (by unfold GScore.ground; rw [h1, h2, hb]; rfl))) fun h3 => ?_)
    exact joinS_16 (L := (g3, T_impl_Score, cb) :: (g1, T_impl_Score, ca) :: []) hs ht I J hr hl (by unfold GScore.ground; rw [h1, h2, h3]; rfl) (R.ext (X.trans x11)) gb rfl rfl rfl O1 O2 ((MT.grow (X.trans x11)).cnt fun p => by simp only [cnt_app, cnt_cons, cnt_nil]; omega)
end
end Go.Sx
