/- Lines with one number, ends, lines compiled by the rule. -/
import Derived.Test.YtnhcoeogejgidabGreatDoorLk97
set_option linter.unusedVariables false
set_option linter.unusedSimpArgs false
namespace Go.Sx
open Go.Proofs
set_option maxRecDepth 100000
set_option maxHeartbeats 1000000

theorem slA_z (b : Option Addr) (c s : Nat) : slA b c 0 s = b := by
  unfold slA
  split
  · rfl
  · cases b with
    | none => rfl
    | some a => show some (a.add (0 * s)) = _; rw [Nat.zero_mul, add0]
theorem word_self (w : List UInt8) : (ByteArray.toList (mkB w) == ByteArray.toList (mkB w)) = true := by rw [mkb_toList]; exact decide_eq_true rfl
def ResL (h0 h' : Heap) (q : Addr) (F : Fr) (L : List Blk) (r : CRes) (u : Value) : Prop := match r with
  | .ok (s', p') => u = .tuple ⟨[.int .i64 (p' : Int), .int .i64 0]⟩ ∧ Pt rWork h0 h' q F L s'.work
  | .error e => ∃ k : Int, u = .tuple ⟨[.int .i64 k, .int .i64 e]⟩ ∧ e ≠ 0 ∧ Mem h0 h' L
section
variable {h0 h' : Heap} {q : Addr} {F : Fr} {L : List Blk} {r : CRes} {s' : GComp} {p p' : Nat} {e k : Int}
theorem ResL.ok (E : r = .ok (s', p')) (P : Pt rWork h0 h' q F L s'.work) : ResL h0 h' q F L r (.tuple ⟨[.int .i64 (p' : Int), .int .i64 0]⟩) := by subst E; exact ⟨rfl, P⟩
theorem ResL.err (E : r = .error e) (M : Mem h0 h' L) (he : e ≠ 0 := by decide) : ResL h0 h' q F L r (.tuple ⟨[.int .i64 k, .int .i64 e]⟩) := by subst E; exact ⟨k, rfl, he, M⟩
theorem ResW.line {u : Value} (R : ResW h0 h' q F L p r u) (hp : p ≤ 1000) : asI .i64 u fun n => ResL h0 h' q F L r (.tuple ⟨[.int .i64 (IntKind.i64.wrap ((p : Int) + 1)), .int .i64 n]⟩) := by
  unfold ResW at R
  split at R
  · obtain ⟨rfl, rfl, P⟩ := R
    refine as_i ?_
    rw [wrap64_succ (by omega)]
    exact ⟨rfl, P⟩
  · obtain ⟨rfl, he, M⟩ := R
    exact as_i ⟨_, rfl, he, M⟩
end
section
variable {h0 h : Heap} {q : Addr} {F : Fr} {L : List Blk} {s : GComp} {p : Nat}
theorem one_c {w : List UInt8} {n : Nat} (I : CInv s) (P : Pt rWork h0 h q F L s.work) (hn : n < 1000000) (hp : p ≤ 1000) :
    CALL prg f_p_spec_l08Work_one #[.pointer (some q), .string (mkB w), .int .i64 (n : Int), .int .i64 (p : Int)] (fun u h' => ResW h0 h' q F L p (s.one p w n) u) h := by
  have i0 := I.n0
  have i1 := I.n1
  have l3 := I.l3
  have n64 := I.n64
  refine p_spec_l08Work_one.call (brw rateW rfl (fun e => ?_) fun e1 => brw atW rfl (fun e => ?_) fun e2 => brw waitW rfl (fun e => ?_) fun e3 => ?_)
  · subst e
    rw [show s.one p rateW n = s.setRate p n from rfl]
    refine goX (l00In_c _ _ _ _) fun h2 x2 => as_b (brN (fun hb => ResW.err (by unfold GComp.setRate; rw [hb]; rfl) (P.grow x2).mem) fun hb => ?_)
    have P := P.grow x2
    refine P.rd.oL (off := 5) fun b l c S => ?_
    obtain rfl : s.notes.length = l := S.len
    refine brd (fun hk => ResW.err ?_ P.mem) fun hk => P.stF1 (fw_nearest _ _) fun h7 P => ResW.ok (s' := { s with rate := FloatKind.f32.nearest n }) ?_ P
    · unfold GComp.setRate
      rw [hb, if_pos rfl, if_neg]
      intro h
      have := List.isEmpty_iff.1 h
      rw [this] at hk
      simp at hk
    · unfold GComp.setRate
      rw [hb, if_pos rfl, if_pos]
      rw [List.isEmpty_iff_length_eq_zero]; omega
  · subst e
    rw [show s.one p atW n = s.goto p n from rfl]
    refine brd (fun hk => ResW.err (by unfold GComp.goto; rw [if_pos hk]) P.mem) fun hk => P.stI (off := 6) fun h7 P => ResW.ok (s' := { s with now := n }) (by unfold GComp.goto; rw [if_neg hk]) P
  · subst e
    rw [show s.one p waitW n = s.goto p (s.now + n) from rfl]
    refine P.rd.oI (off := 6) ?_
    show BIF (decide (100000 < IntKind.i64.wrap (s.now + (n : Int)))) _ _
    rw [wrap64 (n := s.now + (n : Int)) (by omega) (by omega)]
    refine brd (fun hk => ResW.err (by unfold GComp.goto; rw [if_pos hk]) P.mem) fun hk => P.rd.oI (off := 6) ?_
    show ST1 h (q.add 6) (.int .i64 (IntKind.i64.wrap (s.now + (n : Int)))) _
    rw [wrap64 (n := s.now + (n : Int)) (by omega) (by omega)]
    exact P.stI (off := 6) fun h7 P => ResW.ok (s' := { s with now := s.now + n }) (by unfold GComp.goto; rw [if_neg hk]) P
  · rw [show s.one p w n = s.open_ p n by unfold GComp.one; rw [if_neg e1, if_neg e2, if_neg e3]]
    refine goX (l00In_c _ _ _ _) fun h2 x2 => as_b (brN (fun hb => ResW.err (by unfold GComp.open_; rw [hb]; rfl) (P.grow x2).mem) fun hb => ?_)
    have P := P.grow x2
    have hb2 := hb
    simp only [inR, Bool.and_eq_true, decide_eq_true_eq] at hb2
    refine P.rd.oL (off := 7) fun b l c S => ?_
    obtain rfl : s.loops.length = l := by have := S.len; rwa [show s.work.from_ = s.loops.map _ from rfl, List.length_map] at this
    have fl : s.work.from_.length = s.loops.length := List.length_map _
    have fl2 : s.work.left.length = s.loops.length := List.length_map _
    have b1 := ins_max (n := s.loops.length) (by omega)
    refine br (fun h3 => ?_) fun h3 => ?_
    · have h3 : (s.loops.length : Int) = 3 := eq_of_beq h3
      exact ResW.err (by unfold GComp.open_; rw [hb, if_pos rfl, if_pos (by omega)]) P.mem
    have h3 : (s.loops.length : Int) ≠ 3 := ne_of_beq_false h3
    obtain ⟨b, l, c, eb, _⟩ := P.hdr (off := 7) (e := T_int) (s := rI .i64)
    rw [wrap64_succ (by omega)]
    refine o_l eb (Pt.app0 (off := 7) (Bn := []) P eb E_sl_int (ows_one (r := rI .i64) (x := ((p + 1 : Nat) : Int)) ⟨rfl, rfl⟩) rfl (by show s.work.from_.length + 1 ≤ _; omega) (by show (s.work.from_.length + 1) * 8 ≤ _; omega) fun h24 P => ?_)
    obtain ⟨b, l, c, eb, _⟩ := P.hdr (off := 8) (e := T_int64) (s := rI .i64)
    rw [wrap64 (n := (n : Int) - 1) (by omega) (by omega), show (n : Int) - 1 = ((n - 1 : Nat) : Int) by omega]
    refine o_l eb (Pt.app0 (off := 8) (Bn := []) P eb E_sl_int64 (ows_one (r := rI .i64) (x := ((n - 1 : Nat) : Int)) ⟨rfl, rfl⟩) rfl (by show s.work.left.length + 1 ≤ _; omega) (by show (s.work.left.length + 1) * 8 ≤ _; omega) fun h24 P => ?_)
    refine ResW.ok (s' := { s with loops := s.loops ++ [(p, n - 1)] }) (by unfold GComp.open_; rw [hb, if_pos rfl, if_neg (by omega)]) ?_
    have e : GComp.work { s with loops := s.loops ++ [(p, n - 1)] } = { s.work with from_ := s.work.from_ ++ [((p + 1 : Nat) : Int)], left := s.work.left ++ [((n - 1 : Nat) : Int)] } := by
      unfold GComp.work; simp
    rw [e]
    exact P
end
section
variable {α : Type} {r : Rep α} {h0 h : Heap} {q : Addr} {F : Fr} {L : List Blk} {a : α} {off e l c i : Nat} {k : IntKind} {b : Option Addr} {get : α → List Int} {put : α → List Int → α} {v : Int}
/-- A number of a slice within own data set. -/
theorem Pt.setI {K : Heap → Prop} (P : Pt r h0 h q F L a) [Fc : FocC r off (rSl e (rI k)) get put] (hb : cell h (q.add off) = some (.slice b l c)) (hi : i < l) (H : ∀ h', Pt r h0 h' q F L (put a ((get a).set i v)) → K h') :
    IDXS b (i : Int) l fun p => ST1 h (p.add ((i : Int).toNat * 1)) (.int k v) K := by
  obtain ⟨a0, F', C, rfl, P1, close⟩ := P.elemX hb hi
  refine idxs (by omega) (by omega) ?_
  rw [Int.toNat_natCast]
  exact P1.stI1 fun h' P' => H h' (close _ _ _ _ P').1
end
theorem loops_get {ls : List (Nat × Nat)} {i : Nat} (h : i < ls.length) {f : Nat × Nat → Int} : (ls.map f)[i]! = f ls[i]! := by
  rw [getElem!_pos _ i (by rw [List.length_map]; exact h), List.getElem_map, getElem!_pos ls i h]
section
variable {h0 h : Heap} {q : Addr} {F : Fr} {L : List Blk} {s : GComp} {p : Nat}
theorem line_c {l : List UInt8} (I : CInv s) (P : Pt rWork h0 h q F L s.work) (hl : l.length ≤ 4096) (hp : p ≤ 1000) :
    CALL prg f_p_spec_l08Work_line #[.pointer (some q), .string (mkB l), .int .i64 (p : Int)] (fun u h' => ResL h0 h' q F L (s.line p (cutL 32 l)) u) h := by
  have n64 := I.n64
  have l3 := I.l3
  refine p_spec_l08Work_line.call ((l01Split_c (c := 32) (by rw [mk_size]; omega)).mono ?_)
  rintro _ h2 ⟨b, n, k, B, rfl, O, M2⟩
  rw [mkB_data] at O
  have wl : ∀ j : Nat, ((cutL 32 l)[j]!).length ≤ 4096 := fun j => by
    by_cases hj : j < (cutL 32 l).length
    · rw [getElem!_pos _ j hj]
      have := cut_len (List.getElem_mem hj)
      omega
    · rw [getElem!_neg _ j hj]; exact Nat.zero_le _
  have ll : ∀ j : Nat, ((cutL 32 l)[j]!).length ≤ 1048576 := fun j => by have := wl j; omega
  have hn0 : 0 < n := by
    have := O.1
    rw [List.length_map] at this
    have := List.length_pos_iff.2 (cut_ne 32 l)
    omega
  have S := O.look M2 (List.Sublist.refl _)
  have P := P.grow M2.ext
  generalize cutL 32 l = ws at *
  have hn : ws.length = n := by have := S.len; rwa [List.length_map] at this
  clear O
  have J7 : ∀ {w : ByteArray}, w = mkB ws[0]! → oneW ws[0]! → p_spec_l08Work_line.J7 (fun u h' => ResL h0 h' q F L (s.line p ws) u) q (p : Int) b n k w true h2 := fun {w} hw h1 => by
    unfold p_spec_l08Work_line.J7
    rw [line_one h1]
    refine br_t rfl (br (fun h => ResL.err (if_neg (by have h : (n : Int) ≠ 2 := bne_iff_ne.1 h
                                                       omega)) P.mem) fun h => ?_)
    have h : (n : Int) = 2 := by simpa using h
    rw [if_pos (by omega)]
    refine S.str 1 rfl (by omega) (goX (l08Whole_c _ _) fun h11 x11 => ?_)
    rw [whole_open]
    have P := P.grow x11
    have S := S.ext x11
    refine tup2 (as_i (as_b (brN (fun hw => ResL.err (by rw [none_of hw]) P.mem) fun hw => ?_)))
    obtain ⟨v, hw⟩ := some_of hw
    rw [hw]
    refine S.str0 hn0 ((one_c I P (whole_lt hw) hp).mono fun u h19 R => ?_)
    exact R.line hp
  have J30 : ∀ {w : ByteArray} {t : Bool}, w = mkB ws[0]! → ¬ oneW ws[0]! → ws[0]! ≠ tuneW → (t = true → soundW ws[0]!) → (t = false → ¬ soundW ws[0]!) → p_spec_l08Work_line.J30 (fun u h' => ResL h0 h' q F L (s.line p ws) u) q (p : Int) b n k w t h2 := fun {w t} hw h1 h2' ht hf => by
    subst hw
    unfold p_spec_l08Work_line.J30
    refine br (fun h => ?_) fun h => brw playW rfl (fun hpl => ?_) fun hnp => brw endW rfl (fun he => ?_) fun hne => ?_
    · rw [line_sound (ht h)]
      exact (sound_c I P S (ht h) wl).mono fun u h54 R => R.line hp
    · rw [line_play hpl]
      exact (play_c I P S wl).mono fun u h57 R => R.line hp
    · rw [line_end he]
      refine br (fun h => ResL.err (if_neg (by have h : (n : Int) ≠ 1 := bne_iff_ne.1 h
                                               omega)) P.mem) fun h => ?_
      have h : (n : Int) = 1 := by simpa using h
      rw [if_pos (by omega)]
      refine P.rd.oL (off := 7) fun b7 l7 c7 S7 => ?_
      obtain rfl : s.loops.length = l7 := by have := S7.len; rwa [show s.work.from_ = s.loops.map _ from rfl, List.length_map] at this
      rw [wrap64 (n := (s.loops.length : Int) - 1) (by omega) (by omega)]
      refine brd (fun h0 => ResL.err (by unfold GComp.close; rw [if_pos (List.length_eq_zero_iff.1 (by omega))]) P.mem) fun hpos => ?_
      have hnil : s.loops ≠ [] := fun e => by rw [e] at hpos; simp at hpos
      rw [show (s.loops.length : Int) - 1 = ((s.loops.length - 1 : Nat) : Int) by omega]
      generalize hd : s.loops.length - 1 = d
      have hdl : d < s.loops.length := by omega
      obtain ⟨b8, l8, c8, e8, S8⟩ := P.hdr (off := 8) (e := T_int64) (s := rI .i64)
      obtain rfl : s.loops.length = l8 := by have := S8.len; rwa [show s.work.left = s.loops.map _ from rfl, List.length_map] at this
      have ec : s.close p = if s.loops[d]!.2 = 0 then .ok ({ s with loops := s.loops.take d }, p + 1) else .ok ({ s with loops := s.loops.set d (s.loops[d]!.1, s.loops[d]!.2 - 1) }, s.loops[d]!.1 + 1) := by
        unfold GComp.close; rw [if_neg hnil, hd]
      have hx := I.each s.loops[d]! (mem_get hdl)
      refine o_l e8 (S8.idn (by decide) hdl fun a Ra => Ra.oI1 ?_)
      rw [show s.work.left = s.loops.map fun x => (x.2 : Int) from rfl, loops_get hdl]
      refine brd (fun hpo => ?_) fun hz => ?_
      · rw [ec, if_neg (by omega)]
        refine o_l e8 (S8.idn (by decide) hdl fun a Ra => Ra.oI1 ?_)
        rw [show s.work.left = s.loops.map fun x => (x.2 : Int) from rfl, loops_get hdl, wrap64 (n := (s.loops[d]!.2 : Int) - 1) (by omega) (by omega)]
        refine Pt.setI (off := 8) P e8 hdl fun h71 P => ?_
        refine P.rd.oL (off := 7) fun b7 l7 c7 S7 => ?_
        obtain rfl : s.loops.length = l7 := by have := S7.len; rwa [show ({ s.work with left := s.work.left.set d ((s.loops[d]!.2 : Int) - 1) } : GWork).from_ = s.loops.map _ from rfl, List.length_map] at this
        refine S7.idn (by decide) hdl fun a Ra => Ra.oI1 ?_
        show ResL h0 h71 q F L _ (.tuple ⟨[.int .i64 (s.loops.map fun x => ((x.1 + 1 : Nat) : Int))[d]!, .int .i64 0]⟩)
        rw [loops_get hdl]
        refine ResL.ok (s' := { s with loops := s.loops.set d (s.loops[d]!.1, s.loops[d]!.2 - 1) }) rfl ?_
        have e : GComp.work { s with loops := s.loops.set d (s.loops[d]!.1, s.loops[d]!.2 - 1) } = { s.work with left := s.work.left.set d ((s.loops[d]!.2 : Int) - 1) } := by
          unfold GComp.work
          simp only [List.map_set]
          congr 1
          · have : (((s.loops[d]!.1 + 1 : Nat) : Int)) = (s.loops.map fun x => ((x.1 + 1 : Nat) : Int))[d]! := (loops_get (f := fun x => ((x.1 + 1 : Nat) : Int)) hdl).symm
            rw [this, getElem!_pos _ d (by rw [List.length_map]; exact hdl)]
            exact List.set_getElem_self _
          · rw [show (((s.loops[d]!.2 - 1 : Nat) : Int)) = (s.loops[d]!.2 : Int) - 1 by omega]
        rw [e]
        exact P
      · rw [ec, if_pos (by omega)]
        obtain ⟨b7, l7, c7, e7, S7⟩ := P.hdr (off := 7) (e := T_int) (s := rI .i64)
        obtain rfl : s.loops.length = l7 := by have := S7.len; rwa [show s.work.from_ = s.loops.map _ from rfl, List.length_map] at this
        have c1 := S7.2.1
        have c2 := S8.2.1
        refine o_l e7 (slb (by omega) (by omega) (by omega) ?_)
        rw [slA_z, Int.toNat_natCast, Nat.sub_zero, Nat.sub_zero]
        refine Pt.stTake (off := 7) P e7 (by omega) fun h76 P => ?_
        obtain ⟨b8, l8, c8, e8, S8⟩ := P.hdr (off := 8) (e := T_int64) (s := rI .i64)
        obtain rfl : s.loops.length = l8 := by have := S8.len; rwa [show ({ s.work with from_ := s.work.from_.take d } : GWork).left = s.loops.map _ from rfl, List.length_map] at this
        have c2 := S8.2.1
        refine o_l e8 (slb (by omega) (by omega) (by omega) ?_)
        rw [slA_z]
        rw [wrap64_succ (n := p) (by omega)]
        refine Pt.stTake (off := 8) P e8 (by omega) fun h78 P => ResL.ok (s' := { s with loops := s.loops.take d }) rfl ?_
        have e : GComp.work { s with loops := s.loops.take d } = { s.work with from_ := s.work.from_.take d, left := s.work.left.take d } := by
          unfold GComp.work; simp only [List.map_take]
        rw [e]
        exact P
    · exact ResL.err (line_else h1 h2' (hf h) hnp hne) P.mem
  have J7n : ∀ {w : ByteArray}, w = mkB ws[0]! → ¬ oneW ws[0]! → p_spec_l08Work_line.J7 (fun u h' => ResL h0 h' q F L (s.line p ws) u) q (p : Int) b n k w false h2 := fun {w} hw h1 => by
    subst hw
    unfold p_spec_l08Work_line.J7
    refine br_f rfl (brw tuneW rfl (fun ht => ?_) fun hnt => brw stringW rfl (fun hs => ?_) fun hns => brw pipW rfl (fun hs => ?_) fun hnp => ?_)
    · rw [line_tune ht]
      refine br (fun h => ResL.err (if_neg (by have h : (n : Int) ≠ 3 := bne_iff_ne.1 h
                                               omega)) P.mem) fun h => ?_
      have h : (n : Int) = 3 := by simpa using h
      rw [if_pos (by omega)]
      refine S.str 1 rfl (by omega) ((l08Fraction_c (ll 1)).mono ?_)
      rintro u1 h26 ⟨V1, x26⟩
      obtain ⟨x1, a1, rfl, f1, e1⟩ := frac_open V1
      have P := P.grow x26
      have S := S.ext x26
      refine tup2 (as_f (as_b (S.str 2 rfl (by omega) (goX (l08Whole_c _ _) fun h34 x34 => ?_))))
      rw [whole_open]
      have P := P.grow x34
      refine tup2 (as_i (as_b (brN (fun hk => ResL.err (by rw [none_of hk]) P.mem) fun hk => brN (fun hk => ResL.err (by rw [none_of hk]; cases fracL ws[1]! <;> rfl) P.mem) fun hk2 => ?_)))
      obtain ⟨v1, hk⟩ := some_of hk
      obtain ⟨v2, hk2⟩ := some_of hk2
      obtain rfl := e1 _ hk
      rw [hk, hk2]
      show p_spec_l08Work_line.J20 (fun u h' => ResL h0 h' q F L (s.setTune p a1 v2) u) q (p : Int) x1 (v2 : Int) h34
      unfold p_spec_l08Work_line.J20
      refine (spec_EqualTuning_c f1).mono ?_
      rintro _ h40 ⟨cs, Bt, rfl, Ot, Mt⟩
      have P := P.join Mt
      refine tup2 (as_a (as_i ?_))
      have sc : cs.size = 3 := osz Ot rfl
      refine (Mem.start h40).alc fun g45 h46 x46 Mg => Mg.sta0 .here sc (rTuning.oone Ot) rfl .here fun h47 Mg => ?_
      have P := P.grow Mg.ext
      unfold tuneE
      by_cases hok : tuneOk a1 (v2 : Int) = true
      · rw [if_pos hok]
        refine br_f rfl (P.rd.oL (off := 5) fun b5 l5 c5 S5 => ?_)
        obtain rfl : s.notes.length = l5 := S5.len
        refine brd (fun hk => ResL.err ?_ P.drop.mem) fun hk => Mg.lda0 .here sc (P.sts foc_Work_tune rfl Ot fun h52 P => ?_)
        · unfold GComp.setTune
          rw [show (inside a1 1065353216 1184645120 && inR (v2 : Int) 1 31) = true from hok, if_pos rfl, if_neg]
          intro h
          rw [List.isEmpty_iff.1 h] at hk
          simp at hk
        · rw [wrap64_succ (by omega)]
          refine ResL.ok (s' := { s with tune := equalT a1 v2 }) ?_ ?_
          · unfold GComp.setTune
            rw [show (inside a1 1065353216 1184645120 && inR (v2 : Int) 1 31) = true from hok, if_pos rfl, if_pos]
            rw [List.isEmpty_iff_length_eq_zero]; omega
          · have e : tuneT a1 (v2 : Int) = equalT a1 v2 := by unfold tuneT; rw [if_pos hok]; rfl
            rw [e] at P
            exact P
      · rw [if_neg hok]
        refine br_t rfl (ResL.err ?_ P.drop.mem)
        unfold GComp.setTune
        rw [show (inside a1 1065353216 1184645120 && inR (v2 : Int) 1 31) = false from Bool.eq_false_iff.2 hok]; rfl
    · exact J30 rfl h1 hnt (fun _ => .inl hs) (fun h => by rw [hs] at h; exact absurd ((word_self stringW).symm.trans h) (by decide))
    · exact J30 rfl h1 hnt (fun _ => .inr (.inl hs)) (fun h => by rw [hs] at h; exact absurd ((word_self pipW).symm.trans h) (by decide))
    · rw [show (⟨#[98, 111, 119]⟩ : ByteArray) = mkB boW from rfl, mkb_toList]
      exact J30 rfl h1 hnt (fun h => .inr (.inr (of_decide_eq_true h))) (fun h hs => by
        rcases hs with h' | h' | h'
        · exact hns h'
        · exact hnp h'
        · rw [decide_eq_true h'] at h; cases h)
  refine as_l (S.str0 hn0 (brw rateW rfl (fun h => ?_) fun k1 => brw atW rfl (fun h => ?_) fun k2 => brw waitW rfl (fun h => ?_) fun k3 => ?_))
  · rw [show (⟨#[114, 97, 116, 101]⟩ : ByteArray) = mkB rateW from rfl, mkb_toList, decide_eq_true h]
    exact J7 rfl (.inl h)
  · rw [show (⟨#[97, 116]⟩ : ByteArray) = mkB atW from rfl, mkb_toList, decide_eq_true h]
    exact J7 rfl (.inr (.inl h))
  · rw [show (⟨#[119, 97, 105, 116]⟩ : ByteArray) = mkB waitW from rfl, mkb_toList, decide_eq_true h]
    exact J7 rfl (.inr (.inr (.inl h)))
  · rw [show (⟨#[114, 101, 112, 101, 97, 116]⟩ : ByteArray) = mkB repW from rfl, mkb_toList]
    by_cases h : ws[0]! = repW
    · rw [decide_eq_true h]; exact J7 rfl (.inr (.inr (.inr h)))
    · rw [decide_eq_false h]; exact J7n rfl fun ho => by
        rcases ho with h' | h' | h' | h'
        · exact k1 h'
        · exact k2 h'
        · exact k3 h'
        · exact h h'
end
end Go.Sx
