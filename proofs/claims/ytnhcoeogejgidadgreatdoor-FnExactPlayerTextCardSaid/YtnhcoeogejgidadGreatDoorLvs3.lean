/- Pipes and bows told by the rule. -/
import Derived.Test.YtnhcoeogejgidadGreatDoorLvs
import Derived.Test.YtnhcoeogejgidadGreatDoorLvw
import Derived.Test.YtnhcoeogejgidadGreatDoorLq3
import Derived.Test.YtnhcoeogejgidadGreatDoorLk50
import Derived.Test.YtnhcoeogejgidadGreatDoorTab
import Derived.Test.YtnhcoeogejgidadGreatDoorLm6
set_option linter.unusedVariables false
set_option linter.unusedSimpArgs false
namespace Go.Sx
open Go.Proofs
set_option maxRecDepth 100000
set_option maxHeartbeats 1000000

theorem duo_snoc : ∀ (i : Nat) (a b : List GRing), i < a.length → i < b.length → duo (a.take (i + 1)) (b.take (i + 1)) = duo (a.take i) (b.take i) ++ [a[i]!, b[i]!]
  | _, [], _, h, _ => by simp at h
  | _, _ :: _, [], _, h => by simp at h
  | 0, r :: a, l :: b, _, _ => by simp [duo]
  | i + 1, r :: a, l :: b, h1, h2 => by
    have ih := duo_snoc i a b (by simpa using h1) (by simpa using h2)
    show r :: l :: duo (a.take (i + 1)) (b.take (i + 1)) = r :: l :: duo (a.take i) (b.take i) ++ [_, _]
    rw [ih]; rfl
section
variable {h : Heap} {cs : Array Value}
theorem l04Text_c {q : Addr} {x : GPipe} (R : RdP rPipe h q x) (hok : x.ok = true) : CALL prg f_spec_l04Text #[.pointer (some q)] (fun u h' => u = .string (mkB (linL x.lines)) ∧ Ext h h') h := by
  have A := pipe_a R hok
  have n3 := A.n3
  have ns := A.ns
  have nl := A.nl
  have sE := A.e.b.size
  have hk6 : (pkind x).length ≤ 6 := by unfold pkind; split <;> decide
  have s3 := spL_len A.b
  have ss := spL_len A.s
  have hsc : x.Scatter.length ≤ 3 := by omega
  have l4 : pipeW.length = 4 := rfl
  have l7 : scatW.length = 7 := rfl
  have key : spec_l04Text.J4 (fun u h' => u = .string (mkB (linL x.lines)) ∧ Ext h h') q (mkB (pipeW ++ 32 :: pkind x)) h := by
    unfold spec_l04Text.J4
    refine R.oF (off := 10) fun y1 k1 => R.oF (off := 11) fun y2 k2 => R.oF (off := 12) fun y3 k3 => R.oL (off := 2) fun b l c S => R.lda foc_Pipe_End rfl fun ce Re => (Mem.start h).alc fun g11 h3 x3 M => ?_
    have SF : SlR (rF .f32) h3 (some ⟨g11, 0, none⟩) 3 3 [x.Loss, x.Rest, x.Slope] := ⟨rfl, Nat.le_refl _, by decide, [.float .f32 y1, .float .f32 y2, .float .f32 y3], fun i hi => ⟨_, rfl, by rw [add_none, M.cell .here, Nat.zero_add, List.getElem?_toArray]⟩, [.float .f32 y1], _, rfl, ⟨y1, rfl, k1⟩, [.float .f32 y2], _, rfl, ⟨y2, rfl, k2⟩, [.float .f32 y3], [], rfl, ⟨y3, rfl, k3⟩, rfl⟩
    have PO : ∀ (off n : Nat) {hh : Heap} {p : Prop}, off + n ≤ rPipe.sz → Ext h hh → p → PIN h (q.add off) n hh p := fun off n {hh p} hj X H => R.pinO (off := off) (n := n) hj X H
    have hl : x.Scatter.length = l := S.len
    rw [e10, show (⟨#[10, 115, 99, 97, 116, 116, 101, 114]⟩ : ByteArray) = mkB (10 :: scatW) from rfl]
    refine PO 3 6 (by decide) x3 (PO 2 1 (by decide) x3 (goX (l04Samples_c SF (by decide)) fun h4 x4 => as_s (PO 3 6 (by decide) (x3.trans x4) (PO 2 1 (by decide) (x3.trans x4) ?_))))
    simp only [List.length_cons, List.length_nil] at s3
    refine ⟨by simp only [mk_size, List.length_append, List.length_cons, List.length_nil]; omega, ?_⟩
    have X4 := x3.trans x4
    refine goX (l04Samples_c (S.ext X4) (by omega)) fun h5 x5 => as_s (PO 3 6 (by decide) (X4.trans x5) ?_)
    have X5 := X4.trans x5
    simp only [mkB_app]
    refine ⟨by simp only [mk_size, List.length_append, List.length_cons, List.length_nil]; omega, by simp only [mk_size, List.length_append, List.length_cons, List.length_nil]; omega, ?_⟩
    refine goX (spec_FilterText_c (rFilter.ext X5 Re) A.eo A.e) fun h6 x6 => as_s ?_
    have X6 := X5.trans x6
    simp only [mkB_app]
    refine ⟨by simp only [mk_size, List.length_append, List.length_cons, List.length_nil]; omega, by simp only [mk_size, List.length_append, List.length_cons, List.length_nil]; omega, by simp only [mk_size, List.length_append, List.length_cons, List.length_nil]; omega, ?_⟩
    obtain ⟨T0, hT0⟩ : ∃ t, t = linL [pline0 x, wordsL (scatW :: x.Scatter.map bitL), x.End.line] := ⟨_, rfl⟩
    have p0 : pline0 x = pipeW ++ 32 :: pkind x ++ spL [x.Loss, x.Rest, x.Slope] := by
      rw [pline0_eq, spL_cons (by simp)]; simp
    have eT : pipeW ++ 32 :: pkind x ++ (spL [x.Loss, x.Rest, x.Slope] ++ 10 :: scatW ++ spL x.Scatter ++ [10] ++ x.End.line ++ [10]) = T0 := by
      rw [hT0, p0, words_sp]; simp [linL]
    have lT : T0.length ≤ 300 := by
      rw [← eT]; simp only [List.length_append, List.length_cons, List.length_nil]; omega
    rw [eT]
    refine loop (fun y hh => ∃ i : Nat, y = (q, mkB (T0 ++ linL ((duo (x.Right.take i) (x.Left.take i)).map GRing.line)), (i : Int)) ∧ i ≤ x.Right.length ∧ Ext h hh) (fun y => ((x.Right.length : Int) - y.2.2).toNat) ⟨0, by simp [duo, linL], by omega, X6⟩ ?_
    rintro y hh ⟨i, rfl, hi, X⟩
    have lS : (linL ((duo (x.Right.take i) (x.Left.take i)).map GRing.line)).length ≤ 60000 := by
      refine Nat.le_trans (lin_size (k := 9300) fun l hl => ?_) (by rw [List.length_map, duo_len (by rw [List.length_take, List.length_take, nl]), List.length_take]; omega)
      obtain ⟨r, hr, rfl⟩ := List.mem_map.1 hl
      rcases duo_mem hr with h | h
      · exact (A.r r (List.mem_of_mem_take h)).b.size
      · exact (A.l r (List.mem_of_mem_take h)).b.size
    have R := R.ext X
    refine R.oL1 fun b1 l1 c1 S1 => ?_
    have e1 : x.Right.length = l1 := S1.len
    refine brd (fun hc => ?_) fun hc => ?_
    · refine R.oL1 fun b2 l2 c2 S2 => ?_
      have e2 : x.Right.length = l2 := S2.len
      refine S2.idn ring_sz (show i < l2 by omega) fun pr Rr => R.oL (off := 1) fun b3 l3 c3 S3 => ?_
      have e3 : x.Left.length = l3 := S3.len
      refine S3.idn ring_sz (show i < l3 by omega) fun pl Rl => ?_
      have ar := A.r _ (mem_get (l := x.Right) (i := i) (by omega))
      have al := A.l _ (mem_get (l := x.Left) (i := i) (by omega))
      have br := ar.b.size
      have bl := al.b.size
      refine goX (l04Line_c Rr ar) fun h7 x7 => as_s (R.pinO (by decide) x7 (goX (l04Line_c (Rl.ext x7) al) fun h8 x8 => as_s ?_))
      simp only [mkB_app]
      refine ⟨by simp only [mk_size, List.length_append, List.length_cons, List.length_nil]; omega, by simp only [mk_size, List.length_append, List.length_cons, List.length_nil]; omega, ⟨i + 1, ?_, by omega, X.trans (x7.trans x8)⟩, by rw [wrap64_succ (by omega)]; show ((x.Right.length : Int) - ((i + 1 : Nat) : Int)).toNat < ((x.Right.length : Int) - (i : Int)).toNat; omega⟩
      rw [wrap64_succ (by omega), duo_snoc i _ _ (by omega) (by omega), List.map_append, lin_app]
      simp [linL]
    · obtain rfl : i = x.Right.length := by omega
      refine ⟨?_, X⟩
      rw [List.take_length, ← nl, List.take_length, hT0, ← lin_app]
      rfl
  refine spec_l04Text.call (R.oB (off := 9) (br (fun hb => ?_) fun hb => ?_))
  · have : (⟨#[112, 105, 112, 101, 32, 111, 112, 101, 110]⟩ : ByteArray) = mkB (pipeW ++ 32 :: pkind x) := by unfold pkind; rw [hb]; rfl
    rw [this]; exact key
  · have : (⟨#[112, 105, 112, 101, 32, 99, 108, 111, 115, 101, 100]⟩ : ByteArray) = mkB (pipeW ++ 32 :: pkind x) := by unfold pkind; rw [hb]; rfl
    rw [this]; exact key
theorem spec_PipeText_c {x : GPipe} (R0 : rPipe.rd h cs.toList x) (hok : x.ok = true) : CALL prg f_spec_PipeText #[.agg cs] (fun u h' => u = .string (mkB (linL x.lines)) ∧ Ext h h') h := by
  refine spec_PipeText.call (alcR R0 fun g h1 x1 R => goX (l04Ok_c R) fun h2 x2 => as_b ?_)
  rw [hok]
  exact br_f rfl (goX (l04Text_c (R.ext x2) hok) fun h3 x3 => as_s ⟨rfl, x1.trans (x2.trans x3)⟩)
theorem l05Bowed_c {q : Addr} {x : GBow} (R : RdP rBow h q x) (hok : x.ok = true) : CALL prg f_spec_l05Bowed #[.pointer (some q)] (fun u h' => u = .string (mkB (linL x.lines)) ∧ Ext h h') h := by
  have A := bow_a R hok
  have sE := A.d.b.size
  have s2 := spL_len A.s
  have bn := A.n.b.size
  have bb := A.b.b.size
  have l3 : bowW.length = 3 := rfl
  have fl : x.Damp.ok = true := by
    unfold GBow.ok at hok
    simp only [Bool.and_eq_true] at hok
    exact hok.1.2.1
  simp only [List.length_cons, List.length_nil] at s2
  refine spec_l05Bowed.call (R.oF (off := 10) fun y1 k1 => R.oF (off := 11) fun y2 k2 => R.lda foc_Bow_Damp rfl fun ce Re => (Mem.start h).alc fun g11 h3 x3 M => ?_)
  have SF : SlR (rF .f32) h3 (some ⟨g11, 0, none⟩) 2 2 [x.Slope, x.Loss] := ⟨rfl, Nat.le_refl _, by decide, [.float .f32 y1, .float .f32 y2], fun i hi => ⟨_, rfl, by rw [add_none, M.cell .here, Nat.zero_add, List.getElem?_toArray]⟩, [.float .f32 y1], _, rfl, ⟨y1, rfl, k1⟩, [.float .f32 y2], [], rfl, ⟨y2, rfl, k2⟩, rfl⟩
  have PO : ∀ (off n : Nat) {hh : Heap} {p : Prop}, off + n ≤ rBow.sz → Ext h hh → p → PIN h (q.add off) n hh p := fun off n {hh p} hj X H => R.pinO (off := off) (n := n) hj X H
  rw [e10, show (⟨#[98, 111, 119]⟩ : ByteArray) = mkB bowW from rfl]
  refine PO 4 6 (by decide) x3 (goX (l04Samples_c SF (by decide)) fun h4 x4 => as_s (PO 4 6 (by decide) (x3.trans x4) ?_))
  simp only [mkB_app]
  refine ⟨by simp only [mk_size, List.length_append, List.length_cons, List.length_nil]; omega, by simp only [mk_size, List.length_append, List.length_cons, List.length_nil]; omega, ?_⟩
  have X4 := x3.trans x4
  refine goX (spec_FilterText_c (rFilter.ext X4 Re) fl A.d) fun h5 x5 => as_s ?_
  have X5 := X4.trans x5
  simp only [mkB_app]
  refine ⟨by simp only [mk_size, List.length_append, List.length_cons, List.length_nil]; omega, by simp only [mk_size, List.length_append, List.length_cons, List.length_nil]; omega, ?_⟩
  refine goX (l04Line_c (by have := (R.ext X5).foc foc_Bow_Neck; rwa [add0] at this) A.n) fun h6 x6 => as_s ?_
  have X6 := X5.trans x6
  simp only [mkB_app]
  refine ⟨by simp only [mk_size, List.length_append, List.length_cons, List.length_nil]; omega, ?_⟩
  refine goX (l04Line_c ((R.ext X6).foc foc_Bow_Bridge) A.b) fun h7 x7 => as_s ?_
  simp only [mkB_app]
  refine ⟨by simp only [mk_size, List.length_append, List.length_cons, List.length_nil]; omega, ?_, X6.trans x7⟩
  congr 2
  unfold GBow.lines
  simp only [linL]
  rw [← words_smp (by simp), words_sp]
  simp
theorem spec_BowText_c {x : GBow} (R0 : rBow.rd h cs.toList x) (hok : x.ok = true) : CALL prg f_spec_BowText #[.agg cs] (fun u h' => u = .string (mkB (linL x.lines)) ∧ Ext h h') h := by
  refine spec_BowText.call (alcR R0 fun g h1 x1 R => goX (l05Bow_c R) fun h2 x2 => as_b ?_)
  rw [hok]
  exact br_f rfl (goX (l05Bowed_c (R.ext x2) hok) fun h3 x3 => as_s ⟨rfl, x1.trans (x2.trans x3)⟩)
end
end Go.Sx
/- Players copied. -/
set_option linter.unusedVariables false
set_option linter.unusedSimpArgs false
namespace Go.Sx
open Go.Proofs
set_option maxRecDepth 100000
set_option maxHeartbeats 2000000

instance inh_mix : Inhabited (GVoice ⊕ List Value) := ⟨.inr []⟩
end Go.Sx
/- StepPlayer: the rule's and the program's. -/
set_option linter.unusedVariables false
set_option linter.unusedSimpArgs false
namespace Go.Sx
open Go.Proofs
set_option maxRecDepth 100000
set_option maxHeartbeats 2000000

noncomputable def GPlayer.may (p : GPlayer) (count most : Int) : Int := if p.ok = true then if inR count 0 most = true then if 200000 < p.Now + count then 3 else 0 else 2 else 1
theorem voices_ok {p : GPlayer} (h : p.ok = true) {v : GVoice} (hv : v ∈ p.Voices) : voiceOk p.Score v = true := by
  unfold GPlayer.ok at h
  simp only [Bool.and_eq_true, List.all_eq_true, List.mem_range] at h
  obtain ⟨i, hi, rfl⟩ := List.mem_iff_getElem.1 hv
  have := h.2 i hi
  unfold voicesAt at this
  rw [getElem!_pos p.Voices i hi, Bool.and_eq_true] at this
  exact this.1
end Go.Sx
/- Notes and their events, plainly: sorted lists of the events of notes are one; good events are those of notes. -/
set_option linter.unusedVariables false
set_option linter.unusedSimpArgs false
namespace Go.Sx

structure GNote where
  At : Int
  End : Int
  Instrument : Int
  Key : Int
  Force : Nat
deriving Inhabited
def startE (i : Nat) (n : GNote) : GEvent := ⟨n.At, 2, (i : Int), n.Instrument, n.Key, n.Force⟩
def stopE (i : Nat) (n : GNote) : GEvent := ⟨n.End, 1, (i : Int), 0, 0, 0⟩
/-- The events of notes, note by note. -/
def evsOf (ns : List GNote) : List GEvent := ((List.range ns.length).map fun i => [startE i ns[i]!, stopE i ns[i]!]).flatten
theorem evsOf_mem {ns : List GNote} {e : GEvent} : e ∈ evsOf ns ↔ ∃ i, i < ns.length ∧ (e = startE i ns[i]! ∨ e = stopE i ns[i]!) := by
  unfold evsOf
  simp only [List.mem_flatten, List.mem_map, List.mem_range]
  constructor
  · rintro ⟨l, ⟨i, hi, rfl⟩, h⟩
    simp only [List.mem_cons, List.not_mem_nil, or_false] at h
    exact ⟨i, hi, h⟩
  · rintro ⟨i, hi, h⟩
    exact ⟨_, ⟨i, hi, rfl⟩, by simpa using h⟩
/-- What the notes tell that have been taken of the first i events. -/
structure NInv (es : List GEvent) (i : Nat) (ns : List GNote) : Prop where
  len : ns.length = es.length / 2
  st : ∀ j, j < i → isSt es[j]! = true → ns[es[j]!.Note.toNat]!.At = es[j]!.At ∧ ns[es[j]!.Note.toNat]!.Instrument = es[j]!.Instrument ∧ ns[es[j]!.Note.toNat]!.Key = es[j]!.Key ∧ ns[es[j]!.Note.toNat]!.Force = es[j]!.Force
  sp : ∀ j, j < i → isSp es[j]! = true → ns[es[j]!.Note.toNat]!.End = es[j]!.At
section
variable {es : List GEvent} {ni : Int} {ns : List GNote}
theorem NInv.zero (h : ns.length = es.length / 2) : NInv es 0 ns := ⟨h, fun j hj => absurd hj (Nat.not_lt_zero j), fun j hj => absurd hj (Nat.not_lt_zero j)⟩
theorem set_at {α : Type} [Inhabited α] {l : List α} {i : Nat} (x : α) (hi : i < l.length) : (l.set i x)[i]! = x := by
  rw [getElem!_pos _ i (by rw [List.length_set]; exact hi), List.getElem_set_self]
theorem set_off {α : Type} [Inhabited α] {l : List α} {i j : Nat} (x : α) (h : i ≠ j) : (l.set i x)[j]! = l[j]! := by
  by_cases hj : j < l.length
  · rw [getElem!_pos _ j (by rw [List.length_set]; exact hj), getElem!_pos _ j hj, List.getElem_set_ne h]
  · rw [getElem!_neg _ j (by rw [List.length_set]; exact hj), getElem!_neg _ j hj]
theorem NInv.start (G : EvGood es ni) {i : Nat} (hi : i < es.length) (I : NInv es i ns) (hs : isSt es[i]! = true) :
    NInv es (i + 1) (ns.set es[i]!.Note.toNat ⟨es[i]!.At, 0, es[i]!.Instrument, es[i]!.Key, es[i]!.Force⟩) := by
  obtain ⟨n0, n1⟩ := G.note i hi
  have hb : es[i]!.Note.toNat < ns.length := by rw [I.len]; omega
  refine ⟨by rw [List.length_set, I.len], fun j hj h => ?_, fun j hj h => ?_⟩
  · by_cases e : j = i
    · subst e
      rw [set_at _ hb]
      exact ⟨rfl, rfl, rfl, rfl⟩
    · have hj' : j < es.length := by omega
      have : es[i]!.Note.toNat ≠ es[j]!.Note.toNat := fun k => e (G.st1 j i hj' hi h hs (by have := (G.note j hj').1; omega))
      rw [set_off _ this]
      exact I.st j (by omega) h
  · by_cases e : j = i
    · subst e
      rcases kind_of (G.part j hi) with k | k
      · rw [k.2] at hs; cases hs
      · rw [k.2] at h; cases h
    · have hj' : j < es.length := by omega
      have : es[i]!.Note.toNat ≠ es[j]!.Note.toNat := fun k => by
        have := G.before hj' hi hs h (by have := (G.note j hj').1; omega)
        omega
      rw [set_off _ this]
      exact I.sp j (by omega) h
theorem NInv.stop (G : EvGood es ni) {i : Nat} (hi : i < es.length) (I : NInv es i ns) (hs : isSp es[i]! = true) :
    NInv es (i + 1) (ns.set es[i]!.Note.toNat { ns[es[i]!.Note.toNat]! with End := es[i]!.At }) := by
  obtain ⟨n0, n1⟩ := G.note i hi
  have hb : es[i]!.Note.toNat < ns.length := by rw [I.len]; omega
  refine ⟨by rw [List.length_set, I.len], fun j hj h => ?_, fun j hj h => ?_⟩
  · by_cases e : j = i
    · subst e
      rcases kind_of (G.part j hi) with k | k
      · rw [k.2] at h; cases h
      · rw [k.2] at hs; cases hs
    · by_cases e2 : es[i]!.Note.toNat = es[j]!.Note.toNat
      · rw [← e2, set_at _ hb]
        have := I.st j (by omega) h
        rw [← e2] at this
        exact this
      · rw [set_off _ e2]
        exact I.st j (by omega) h
  · by_cases e : j = i
    · subst e
      rw [set_at _ hb]
    · have hj' : j < es.length := by omega
      have : es[i]!.Note.toNat ≠ es[j]!.Note.toNat := fun k => e (G.sp1 j i hj' hi h hs (by have := (G.note j hj').1; omega))
      rw [set_off _ this]
      exact I.sp j (by omega) h
theorem full_notes {n : Nat} {l : List Int} (hd : l.Nodup) (hr : ∀ x ∈ l, 0 ≤ x ∧ x < n) (hl : l.length = n) {k : Nat} (hk : k < n) : (k : Int) ∈ l := by
  apply Classical.byContradiction
  intro h
  have := nodup_le n ((k : Int) :: l) (List.nodup_cons.2 ⟨h, hd⟩) fun x hx => by
    rcases List.mem_cons.1 hx with rfl | hx
    · omega
    · exact hr x hx
  rw [List.length_cons] at this
  omega
theorem EvGood.all (G : EvGood es ni) (p : GEvent → Bool) (hp : p = isSt ∨ p = isSp) {k : Nat} (hk : k < es.length / 2) : ∃ j, j < es.length ∧ p es[j]! = true ∧ es[j]!.Note = (k : Int) := by
  have d1 := (nodup_at (es := es) isSt).2 G.st1
  have d2 := (nodup_at (es := es) isSp).2 G.sp1
  have r1 := notes_in (es := es) isSt G.note
  have r2 := notes_in (es := es) isSp G.note
  have l1 := nodup_le _ _ d1 r1
  have l2 := nodup_le _ _ d2 r2
  have hs := part_kinds G.part
  rw [List.length_map] at l1 l2
  have he := G.even
  have key : (k : Int) ∈ (es.filter p).map GEvent.Note := by
    rcases hp with rfl | rfl
    · exact full_notes d1 r1 (by rw [List.length_map]; omega) hk
    · exact full_notes d2 r2 (by rw [List.length_map]; omega) hk
  obtain ⟨e, he, hn⟩ := List.mem_map.1 key
  obtain ⟨h1, h2⟩ := List.mem_filter.1 he
  obtain ⟨j, hj, rfl⟩ := List.mem_iff_getElem.1 h1
  exact ⟨j, hj, by rw [getElem!_pos es j hj]; exact h2, by rw [getElem!_pos es j hj]; exact hn⟩
theorem st_ev {e : GEvent} (h : isSt e = true) : e.Kind = 2 := by unfold isSt at h; simpa using h
theorem sp_ev {e : GEvent} (h : isSp e = true) : e.Kind = 1 := by unfold isSp at h; simpa using h
theorem sp_zero {e : GEvent} (h : evPart ni e = true) (hs : isSp e = true) : e.Instrument = 0 ∧ e.Key = 0 ∧ e.Force = 0 := by
  unfold evPart at h
  rw [if_pos (sp_ev hs)] at h
  simp only [Bool.and_eq_true, beq_iff_eq] at h
  exact ⟨h.2.1.1, h.2.1.2, h.2.2⟩
theorem NInv.startE (G : EvGood es ni) (I : NInv es es.length ns) {j : Nat} (hj : j < es.length) (hs : isSt es[j]! = true) : es[j]! = Sx.startE es[j]!.Note.toNat ns[es[j]!.Note.toNat]! := by
  obtain ⟨h1, h2, h3, h4⟩ := I.st j hj hs
  have k := st_ev hs
  have n0 := (G.note j hj).1
  unfold Sx.startE
  rw [h1, h2, h3, h4, Int.toNat_of_nonneg n0]
  generalize es[j]! = e at k ⊢
  cases e; simp only at k; subst k; rfl
theorem NInv.stopE (G : EvGood es ni) (I : NInv es es.length ns) {j : Nat} (hj : j < es.length) (hs : isSp es[j]! = true) : es[j]! = Sx.stopE es[j]!.Note.toNat ns[es[j]!.Note.toNat]! := by
  have h1 := I.sp j hj hs
  have k := sp_ev hs
  obtain ⟨k1, k2, k3⟩ := sp_zero (G.part j hj) hs
  have n0 := (G.note j hj).1
  unfold Sx.stopE
  rw [h1, Int.toNat_of_nonneg n0]
  generalize es[j]! = e at k k1 k2 k3 ⊢
  cases e; simp only at k k1 k2 k3; subst k k1 k2 k3; rfl
theorem EvGood.nodup (G : EvGood es ni) : es.Nodup := by
  rw [List.nodup_iff_pairwise_ne, List.pairwise_iff_getElem]
  intro i j hi hj hij e
  have := chain (fun k => keyOf es es[k]!) G.ord hij hj
  rw [getElem!_pos es i hi, getElem!_pos es j hj, e, lt4_irrefl] at this
  cases this
theorem evsOf_nodup (ns : List GNote) : (evsOf ns).Nodup := by
  have : ∀ k, k ≤ ns.length → (((List.range k).map fun i => [Sx.startE i ns[i]!, Sx.stopE i ns[i]!]).flatten).Nodup := by
    intro k
    induction k with
    | zero => intro _; exact List.nodup_nil
    | succ k ih =>
      intro hk
      rw [List.range_succ, List.map_append, List.flatten_append, List.nodup_append]
      refine ⟨ih (by omega), ?_, ?_⟩
      · simp only [List.map_cons, List.map_nil, List.flatten_cons, List.flatten_nil, List.append_nil, List.nodup_cons, List.mem_singleton, List.not_mem_nil, not_false_eq_true, List.nodup_nil, and_true]
        intro e
        have := congrArg GEvent.Kind e
        exact absurd this (by show ¬ (2 : Int) = 1; decide)
      · intro a ha b hb e
        subst e
        simp only [List.mem_flatten, List.mem_map, List.mem_range] at ha
        obtain ⟨l, ⟨i, hi, rfl⟩, h⟩ := ha
        simp only [List.map_cons, List.map_nil, List.flatten_cons, List.flatten_nil, List.append_nil, List.mem_cons, List.not_mem_nil, or_false] at hb h
        have e1 : a.Note = (k : Int) := by rcases hb with rfl | rfl <;> rfl
        have e2 : a.Note = (i : Int) := by rcases h with rfl | rfl <;> rfl
        omega
  exact this _ (Nat.le_refl _)
theorem NInv.perm (G : EvGood es ni) (I : NInv es es.length ns) : es.Perm (evsOf ns) := by
  refine (List.perm_ext_iff_of_nodup G.nodup (evsOf_nodup ns)).2 fun e => ⟨fun h => ?_, fun h => ?_⟩
  · obtain ⟨j, hj, rfl⟩ := List.mem_iff_getElem.1 h
    have n := G.note j hj
    rw [← getElem!_pos es j hj]
    refine evsOf_mem.2 ⟨es[j]!.Note.toNat, by rw [I.len]; omega, ?_⟩
    rcases kind_of (G.part j hj) with k | k
    · exact .inr (I.stopE G hj k.1)
    · exact .inl (I.startE G hj k.1)
  · obtain ⟨i, hi, h⟩ := evsOf_mem.1 h
    rw [I.len] at hi
    rcases h with rfl | rfl
    · obtain ⟨j, hj, hs, hn⟩ := G.all isSt (.inl rfl) hi
      have := I.startE G hj hs
      rw [hn, Int.toNat_natCast] at this
      rw [← this, getElem!_pos es j hj]
      exact List.getElem_mem hj
    · obtain ⟨j, hj, hs, hn⟩ := G.all isSp (.inr rfl) hi
      have := I.stopE G hj hs
      rw [hn, Int.toNat_natCast] at this
      rw [← this, getElem!_pos es j hj]
      exact List.getElem_mem hj
/-- A note ends no earlier than it starts. -/
theorem NInv.le (G : EvGood es ni) (I : NInv es es.length ns) {k : Nat} (hk : k < ns.length) : ns[k]!.At ≤ ns[k]!.End := by
  rw [I.len] at hk
  obtain ⟨j, hj, hs, hn⟩ := G.all isSp (.inr rfl) hk
  obtain ⟨i, hi, h1, h2, h3⟩ := G.pair j hj hs
  have e1 := (I.st i hi h1).1
  have e2 := I.sp j hj hs
  rw [h2] at e1
  rw [hn, Int.toNat_natCast] at e1 e2
  omega
theorem NInv.late (G : EvGood es ni) (I : NInv es es.length ns) (B : Int) : (∀ e ∈ es, e.At ≤ B) ↔ ∀ k, k < ns.length → ns[k]!.End ≤ B := by
  have P := I.perm G
  constructor
  · intro h k hk
    exact h (Sx.stopE k ns[k]!) (P.mem_iff.2 (evsOf_mem.2 ⟨k, hk, .inr rfl⟩))
  · intro h e he
    obtain ⟨k, hk, e1⟩ := evsOf_mem.1 (P.mem_iff.1 he)
    have := h k hk
    rcases e1 with rfl | rfl
    · have := I.le G hk
      show ns[k]!.At ≤ B
      omega
    · exact this
end
end Go.Sx
