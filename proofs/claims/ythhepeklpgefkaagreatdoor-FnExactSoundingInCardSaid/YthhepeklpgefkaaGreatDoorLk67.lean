/- The notes that sound: the rule's and the program's. -/
import Derived.Test.YthhepeklpgefkaaGreatDoorLk66
import Derived.Test.YthhepeklpgefkaaGreatDoorLh0
set_option linter.unusedVariables false
set_option linter.unusedSimpArgs false
namespace Go.Sx
open Go.Proofs
set_option maxRecDepth 100000
set_option maxHeartbeats 2000000

/-- The notes below n of voices, in order. -/
def notesTo (vs : List GVoice) : Nat → List Int
  | 0 => []
  | n + 1 => notesTo vs n ++ (vs.filter fun v => v.Note == (n : Int)).map fun _ => (n : Int)
noncomputable def GPlayer.sounding (p : GPlayer) : List Int × Int := if p.ok = true then (notesTo p.Voices 64, 0) else ([], 1)
theorem notesTo_len (vs : List GVoice) : ∀ n, (notesTo vs n).length ≤ n * vs.length
  | 0 => Nat.zero_le _
  | n + 1 => by
    have h1 := notesTo_len vs n
    have h2 : (vs.filter fun v => v.Note == (n : Int)).length ≤ vs.length := List.length_filter_le _ _
    unfold notesTo
    rw [List.length_append, List.length_map, Nat.add_mul]; omega
theorem notesTo_mem {vs : List GVoice} : ∀ {n : Nat} {x : Int}, x ∈ notesTo vs n → 0 ≤ x ∧ x < n
  | 0, x, h => nomatch h
  | n + 1, x, h => by
    unfold notesTo at h
    rcases List.mem_append.1 h with h | h
    · have := notesTo_mem h; omega
    · obtain ⟨_, _, rfl⟩ := List.mem_map.1 h; omega
theorem notesTo_sorted (vs : List GVoice) : ∀ n, (notesTo vs n).Pairwise (· ≤ ·)
  | 0 => List.Pairwise.nil
  | n + 1 => by
    unfold notesTo
    rw [List.pairwise_append]
    refine ⟨notesTo_sorted vs n, ?_, fun x hx y hy => ?_⟩
    · rw [List.pairwise_map, List.pairwise_iff_getElem]
      exact fun _ _ _ _ _ => Int.le_refl _
    · have := notesTo_mem hx
      obtain ⟨_, _, rfl⟩ := List.mem_map.1 hy
      omega
theorem filter_or {α : Type} {p q : α → Bool} (hd : ∀ x, p x = true → q x = false) : ∀ l : List α, (l.filter fun x => p x || q x).Perm (l.filter p ++ l.filter q)
  | [] => List.Perm.refl _
  | x :: l => by
    have ih := filter_or hd l
    cases hp : p x with
    | true =>
      have hq := hd x hp
      rw [List.filter_cons, List.filter_cons, List.filter_cons, hp, hq]
      simpa using ih
    | false =>
      cases hq : q x with
      | true =>
        rw [List.filter_cons, List.filter_cons, List.filter_cons, hp, hq]
        simp only [Bool.false_or, if_true, Bool.false_eq_true, if_false]
        exact (List.Perm.cons x ih).trans List.perm_middle.symm
      | false =>
        rw [List.filter_cons, List.filter_cons, List.filter_cons, hp, hq]
        simpa using ih
theorem notesTo_perm (vs : List GVoice) : ∀ n : Nat, ((vs.filter fun v => decide (0 ≤ v.Note) && decide (v.Note < (n : Int))).map GVoice.Note).Perm (notesTo vs n)
  | 0 => by
    have : (vs.filter fun v => decide (0 ≤ v.Note) && decide (v.Note < ((0 : Nat) : Int))) = [] := by
      rw [List.filter_eq_nil_iff]
      intro v _ h
      simp only [Bool.and_eq_true, decide_eq_true_eq] at h
      omega
    rw [this]; exact List.Perm.refl _
  | n + 1 => by
    have e : (fun v : GVoice => decide (0 ≤ v.Note) && decide (v.Note < ((n + 1 : Nat) : Int))) = fun v => (decide (0 ≤ v.Note) && decide (v.Note < (n : Int))) || (v.Note == (n : Int)) := by
      funext v
      rw [Bool.eq_iff_iff]
      simp only [Bool.and_eq_true, Bool.or_eq_true, decide_eq_true_eq, beq_iff_eq]
      omega
    rw [e]
    have h1 := (filter_or (p := fun v : GVoice => decide (0 ≤ v.Note) && decide (v.Note < (n : Int))) (q := fun v => v.Note == (n : Int)) (fun v hv => by simp only [Bool.and_eq_true, decide_eq_true_eq] at hv; rw [beq_eq_false_iff_ne]; omega) vs).map GVoice.Note
    refine h1.trans ?_
    rw [List.map_append]
    unfold notesTo
    refine List.Perm.append (notesTo_perm vs n) ?_
    have : (vs.filter fun v => v.Note == (n : Int)).map GVoice.Note = (vs.filter fun v => v.Note == (n : Int)).map fun _ => (n : Int) := List.map_congr_left fun v hv => by
      have := (List.mem_filter.1 hv).2
      rwa [beq_iff_eq] at this
    rw [this]
def unfree (v : GVoice) : Bool := !(v.Note == -1)
theorem notes_range {p : GPlayer} (h : p.ok = true) {v : GVoice} (hv : v ∈ p.Voices) : v.Note = -1 ∨ 0 ≤ v.Note ∧ v.Note < 64 := by
  have hs : p.Score.ok = true := by
    unfold GPlayer.ok at h
    simp only [Bool.and_eq_true] at h
    exact h.1.1.1.1.1
  have ho : voiceOk p.Score v = true := by
    unfold GPlayer.ok at h
    simp only [Bool.and_eq_true, List.all_eq_true, List.mem_range] at h
    obtain ⟨i, hi, rfl⟩ := List.mem_iff_getElem.1 hv
    have := h.2 i hi
    unfold voicesAt at this
    rw [getElem!_pos p.Voices i hi, Bool.and_eq_true] at this
    exact this.1
  by_cases hn : v.Note = -1
  · exact .inl hn
  refine .inr ?_
  rw [voiceOk, if_neg hn] at ho
  cases he : startEv p.Score.Events v.Note with
  | none => rw [he] at ho; cases ho
  | some e =>
    have G := score_ev hs
    have hm := List.mem_of_find?_eq_some he
    have hp := List.find?_some he
    obtain ⟨i, hi, rfl⟩ := List.mem_iff_getElem.1 hm
    have hr := G.note i hi
    have h2 := G.most
    rw [getElem!_pos _ i hi] at hr
    rw [Bool.and_eq_true, beq_iff_eq] at hp
    omega
theorem voices_six {p : GPlayer} (h : p.ok = true) : p.Voices.length ≤ 6 := by
  unfold GPlayer.ok at h
  simp only [Bool.and_eq_true, inR, decide_eq_true_eq] at h
  omega
theorem sorted_is {p : GPlayer} (h : p.ok = true) {ys : List Int} (hp : ys.Perm ((p.Voices.filter unfree).map GVoice.Note)) (hs : ys.Pairwise (· ≤ ·)) : ys = notesTo p.Voices 64 := by
  refine List.Perm.eq_of_pairwise (le := (· ≤ ·)) (fun a b _ _ h1 h2 => Int.le_antisymm h1 h2) hs (notesTo_sorted _ _) (hp.trans ?_)
  have e : p.Voices.filter unfree = p.Voices.filter fun v => decide (0 ≤ v.Note) && decide (v.Note < ((64 : Nat) : Int)) := List.filter_congr fun v hv => by
    rw [Bool.eq_iff_iff]
    unfold unfree
    simp only [Bool.and_eq_true, Bool.not_eq_true', beq_eq_false_iff_ne, decide_eq_true_eq]
    have := notes_range h hv
    omega
  rw [e]
  exact notesTo_perm _ _
/-- A slice of numbers and a number. -/
def PairS (h h' : Heap) (u : Value) (r : List Int × Int) : Prop := ∃ b l c B, u = .tuple ⟨[.slice b l c, .int .i64 r.2]⟩ ∧ SlO T_int64 (rI .i64) B b l c r.1 ∧ Mem h h' B
theorem filter_snoc {α : Type} [Inhabited α] {p : α → Bool} {l : List α} {i : Nat} (h : i < l.length) : (l.take (i + 1)).filter p = (l.take i).filter p ++ if p l[i]! = true then [l[i]!] else [] := by
  rw [take_snoc h, List.filter_append]
  congr 1
  rw [List.filter_cons]
  cases hp : p l[i]! <;> rfl
section
variable {h : Heap}
theorem spec_SoundingIn_c {cs : Array Value} {p : GPlayer} (R0 : rPlayer.rd h cs.toList p) : CALL prg f_spec_SoundingIn #[.agg cs] (fun u h' => PairS h h' u p.sounding) h := by
  have hm : (1000 : Nat) ≤ maxLen := by decide
  have hx := maxLen_lt
  refine spec_SoundingIn.call (alcR R0 fun g h1 x1 R => goX (l09Ok_c R) fun h2 x2 => as_b (brN (fun e => ?_) fun ok => ?_))
  · refine ((Mem.start h).grow (x1.trans x2)).alc fun g6 h3 x3 M => ⟨_, 0, 0, [(g6, T_int64, ⟨[]⟩)], by unfold GPlayer.sounding; rw [e]; rfl, ?_, M⟩
    unfold GPlayer.sounding; rw [e]; exact SlO.empty g6
  have n6 := voices_six ok
  have fine : p.sounding = (notesTo p.Voices 64, 0) := by unfold GPlayer.sounding; rw [if_pos ok]
  rw [fine]
  have X0 := x1.trans x2
  have R2 := R.ext x2
  refine (Mem.start h2).alc fun g8 h3 x3 M => ?_
  have A : ∀ {hh : Heap} {B : List Blk}, Mem h2 hh B → RdP rPlayer hh ⟨g, 0, none⟩ p := fun N => R2.ext N.ext
  refine loop (fun y hh => ∃ (n l c : Nat) (b : Option Addr) (B : List Blk), y = (⟨g, 0, none⟩, b, l, c, (n : Int)) ∧ n ≤ 64 ∧ SlO T_int64 (rI .i64) B b l c (notesTo p.Voices n) ∧ Mem h2 hh (B ++ [])) (fun y => ((64 : Int) - y.2.2.2.2).toNat) ⟨0, 0, 0, _, _, rfl, by omega, SlO.empty g8, by simpa using M⟩ ?_
  rintro y hh ⟨n, l, c, b, B, rfl, hn, O, M⟩
  refine brd (fun hc => ?_) fun hc => ?_
  · refine loop (fun y hh => ∃ (i l c : Nat) (b : Option Addr) (B : List Blk), y = (⟨g, 0, none⟩, b, l, c, (n : Int), (i : Int)) ∧ i ≤ p.Voices.length ∧ SlO T_int64 (rI .i64) B b l c (notesTo p.Voices n ++ ((p.Voices.take i).filter fun v => v.Note == (n : Int)).map fun _ => (n : Int)) ∧ Mem h2 hh (B ++ [])) (fun y => ((p.Voices.length : Int) - y.2.2.2.2.2).toNat)
      ⟨0, l, c, b, B, rfl, by omega, by simpa using O, M⟩ ?_
    clear O M
    rintro y hh ⟨i, l, c, b, B, rfl, hi, O, M⟩
    have hlen := O.len
    have h1 := notesTo_len p.Voices n
    have h2' : ((p.Voices.take i).filter fun v => v.Note == (n : Int)).length ≤ (p.Voices.take i).length := List.length_filter_le _ _
    rw [List.length_append, List.length_map] at hlen
    rw [List.length_take] at h2'
    have hb : n * p.Voices.length ≤ 64 * 6 := Nat.mul_le_mul hn n6
    refine (A M).oL (off := 6) fun b4 l4 c4 S4 => ?_
    have e4 : p.Voices.length = l4 := S4.len
    refine brd (fun hc2 => (A M).oL (off := 6) fun b5 l5 c5 S5 => ?_) fun hc2 => ?_
    · have e5 : p.Voices.length = l5 := S5.len
      have next : ∀ {h' : Heap} {b : Option Addr} {l c : Nat} {B : List Blk}, SlO T_int64 (rI .i64) B b l c (notesTo p.Voices n ++ ((p.Voices.take (i + 1)).filter fun v => v.Note == (n : Int)).map fun _ => (n : Int)) → Mem h2 h' (B ++ []) → ((∃ (i' l' c' : Nat) (b' : Option Addr) (B : List Blk), ((⟨g, 0, none⟩ : Addr), b, l, c, (n : Int), IntKind.i64.wrap ((i : Int) + 1)) = (⟨g, 0, none⟩, b', l', c', (n : Int), (i' : Int)) ∧ i' ≤ p.Voices.length ∧ SlO T_int64 (rI .i64) B b' l' c' (notesTo p.Voices n ++ ((p.Voices.take i').filter fun v => v.Note == (n : Int)).map fun _ => (n : Int)) ∧ Mem h2 h' (B ++ [])) ∧ ((p.Voices.length : Int) - IntKind.i64.wrap ((i : Int) + 1)).toNat < ((p.Voices.length : Int) - i).toNat) := fun O M =>
        ⟨⟨i + 1, _, _, _, _, by rw [wrap64_succ (by omega)], by omega, O, M⟩, by rw [wrap64_succ (by omega)]; omega⟩
      have hs := filter_snoc (p := fun v : GVoice => v.Note == (n : Int)) (l := p.Voices) (i := i) (by omega)
      refine S5.idn (by decide) (by omega) fun a Ra => Ra.oI1 (br (fun k => ?_) fun k => ?_)
      · rw [if_pos k] at hs
        refine push_own (Bn := []) (L := []) (x := (n : Int)) E_sl_int64 O (by simpa using M) ⟨rfl, rfl⟩ (by omega) (by omega) fun b' c' h' B' O' M' => as_l (next (by rw [hs, List.map_append, ← List.append_assoc]; exact O') M')
      · rw [if_neg (by rw [k]; decide), List.append_nil] at hs
        exact next (by rw [hs]; exact O) M
    · obtain rfl : i = p.Voices.length := by omega
      rw [List.take_length] at O
      exact ⟨⟨n + 1, l, c, b, B, by rw [wrap64_succ (by omega)], by omega, O, M⟩, by rw [wrap64_succ (by omega)]; show _ < _; simp; omega⟩
  · obtain rfl : n = 64 := by omega
    exact ⟨b, l, c, B, rfl, O, ((Mem.start h).grow X0).join (by simpa using M) |> fun N => by simpa using N⟩
theorem impl_SoundingIn_c {cs : Array Value} {p : GPlayer} (R0 : rPlayer.rd h cs.toList p) : CALL prg f_impl_SoundingIn #[.agg cs] (fun u h' => PairS h h' u p.sounding) h := by
  have hm : (1000 : Nat) ≤ maxLen := by decide
  have hx := maxLen_lt
  refine impl_SoundingIn.call (alcR R0 fun g h1 x1 R => R.lda1 rfl fun c3 R3 => goX (ValidPlayer_c R3) fun h2 x2 => as_b (brN (fun e => ?_) fun ok => ?_))
  · refine ⟨none, 0, 0, [], by unfold GPlayer.sounding; rw [e]; rfl, ?_, (Mem.start h).grow (x1.trans x2)⟩
    unfold GPlayer.sounding; rw [e]; exact SlO.nil
  have n6 := voices_six ok
  have fine : p.sounding = (notesTo p.Voices 64, 0) := by unfold GPlayer.sounding; rw [if_pos ok]
  rw [fine]
  generalize hN : notesTo p.Voices 64 = NN
  have X0 := x1.trans x2
  refine (R.ext x2).oL2 (off := 6) fun b0 l0 c0 S0 => ?_
  have e0 : p.Voices.length = l0 := S0.len
  refine loop (fun y hh => ∃ (i l c : Nat) (b : Option Addr) (B : List Blk), y = (b, l, c, b0, l0, c0, (l0 : Int), (i : Int)) ∧ i ≤ l0 ∧ SlO T_int64 (rI .i64) B b l c (((p.Voices.take i).filter unfree).map GVoice.Note) ∧ Mem h2 hh (B ++ [])) (fun y => ((l0 : Int) - y.2.2.2.2.2.2.2).toNat)
    ⟨0, 0, 0, none, [], rfl, by omega, SlO.nil, Mem.start h2⟩ ?_
  rintro y hh ⟨i, l, c, b, B, rfl, hi, O, M⟩
  have hlen := O.len
  have h2' : ((p.Voices.take i).filter unfree).length ≤ (p.Voices.take i).length := List.length_filter_le _ _
  rw [List.length_map] at hlen
  rw [List.length_take] at h2'
  refine brd (fun hc => ?_) fun hc => ?_
  · refine (S0.ext M.ext).idn (by decide) (by omega) fun a Ra => Ra.lda1 rfl fun cv Rv => (Mem.start hh).alc fun g12 h5 x5 N => N.sta0 .here (rsz Rv rfl) (rVoice.rone Rv) rfl .here fun h6 N => N.lda0 .here (rsz Rv rfl) ?_
    have hs := filter_snoc (p := unfree) (l := p.Voices) (i := i) (by omega)
    have next : ∀ {h' : Heap} {b : Option Addr} {l c : Nat} {B : List Blk}, SlO T_int64 (rI .i64) B b l c (((p.Voices.take (i + 1)).filter unfree).map GVoice.Note) → Mem h2 h' (B ++ []) → ((∃ (i' l' c' : Nat) (b' : Option Addr) (B : List Blk), (b, l, c, b0, l0, c0, (l0 : Int), IntKind.i64.wrap ((i : Int) + 1)) = (b', l', c', b0, l0, c0, (l0 : Int), (i' : Int)) ∧ i' ≤ l0 ∧ SlO T_int64 (rI .i64) B b' l' c' (((p.Voices.take i').filter unfree).map GVoice.Note) ∧ Mem h2 h' (B ++ [])) ∧ ((l0 : Int) - IntKind.i64.wrap ((i : Int) + 1)).toNat < ((l0 : Int) - i).toNat) := fun O M =>
      ⟨⟨i + 1, _, _, _, _, by rw [wrap64_succ (by omega)], by omega, O, M⟩, by rw [wrap64_succ (by omega)]; omega⟩
    have RV := rVoice.ext N.ext Rv
    have V : RdP rVoice h6 ⟨g12, 0, none⟩ p.Voices[i]! := N.rdp .here RV
    refine goX (isFree_c RV) fun h7 x7 => as_b ?_
    have V := V.ext x7
    have M : Mem h2 h7 (B ++ []) := ((M.join N).grow x7).cnt (fun p => by simp only [cnt_app, cnt_cons, cnt_nil]; omega)
    refine br (fun k => V.oI2 ?_) fun k => ?_
    · have k : unfree p.Voices[i]! = true := k
      rw [if_pos k] at hs
      refine push_own (Bn := []) (L := []) (x := p.Voices[i]!.Note) E_sl_int64 O (by simpa using M) ⟨rfl, rfl⟩ (by omega) (by omega) fun b' c' h' B' O' M' => as_l (next (by rw [hs, List.map_append]; exact O') M')
    · have k : unfree p.Voices[i]! = false := k
      rw [if_neg (by rw [k]; decide), List.append_nil] at hs
      exact next (by rw [hs]; exact O) M
  · obtain rfl : i = l0 := by omega
    rw [show p.Voices.take i = p.Voices by rw [← e0, List.take_length]] at O
    refine (Sort_c O M (by omega)).mono ?_
    rintro _ h9 ⟨rfl, B', ys, O', M', hp, hs⟩
    have ey := sorted_is ok hp hs
    rw [hN] at ey
    subst ey
    have M3 : Mem h h9 (B' ++ []) := (((Mem.start h).grow X0).join M').cnt (fun p => by simp only [cnt_app, cnt_nil]; omega)
    rw [List.append_nil] at M3
    exact ⟨b, l, c, B', rfl, O', M3⟩
end
end Go.Sx
/- The laws' helpers over rings and filters: what they compute. -/
set_option linter.unusedVariables false
set_option linter.unusedSimpArgs false
namespace Go.Sx
open Go.Proofs
set_option maxRecDepth 100000

theorem nw_Float32S (xs : List Nat) : n_Float32S xs ≤ 8 * w_Float32S xs := by unfold n_Float32S w_Float32S; omega
section
variable {h : Heap}
theorem eq_Ring_c {ca cb : Array Value} {x : GRing} (Ra : rRing.rd h ca.toList x) (Rb : rRing.rd h cb.toList x) : CALL prg f_laws_eqRing #[.agg ca, .agg cb] (fun u h' => u = .bool true ∧ Ext h h') h := by
  refine laws_eqRing.call (alcR Ra fun g1 h1 x1 A => alcR (rRing.ext x1 Rb) fun g2 h2 x2 B => ?_)
  have A := A.ext x2
  have X := x1.trans x2
  refine A.oL2 fun b1 l1 c1 S1 => B.oL2 fun b2 l2 c2 S2 => goX (eq_Float32S_c S1 S2) fun h' x' => as_b (br_f rfl ?_)
  have A := A.ext x'
  have B := B.ext x'
  have X := X.trans x'
  refine A.oI2 (B.oI2 (br_f (by simp) ?_))
  exact ⟨rfl, X⟩
def w_Ring (x : GRing) : Nat := w_Float32S x.Samples
theorem sz_Ring_c {cs : Array Value} {x : GRing} (R0 : rRing.rd h cs.toList x) (left : Nat) (hl : left ≤ 1048576) : CALL prg f_laws_szRing #[.agg cs, .int .i64 (left : Int)] (fun u h' => u = .int .i64 (subW left (w_Ring x)) ∧ Ext h h') h := by
  have hw : w_Ring x = w_Float32S x.Samples := rfl
  refine laws_szRing.call (alcR R0 fun g1 h1 X R => ?_)
  refine R.oL2 fun b1 l1 c1 S1 => goX (sz_Float32S_c S1 (left) (by omega)) fun h' x' => as_i (sz_bif (fun hc => ⟨by rw [subW_neg (by omega)], X.trans x'⟩) fun hc => ?_)
  rw [subW_pos hc]
  have R := R.ext x'
  have X := X.trans x'
  exact ⟨by rw [subW_pos (by omega)]; congr 2 <;> omega, X⟩
theorem to_Ring_c {cs : Array Value} {x : GRing} (R0 : rRing.rd h cs.toList x) (hw0 : w_Ring x ≤ 1048576) : CALL prg f_laws_toRing #[.agg cs] (fun u h' => NewR rRing h h' u x) h := by
  have hw : w_Ring x = w_Float32S x.Samples := rfl
  refine laws_toRing.call ((Mem.start h).alc fun g1 h1 x1 M => M.alc fun g2 h2 x2 M => M.alc fun g3 h3 x3 M => ?_)
  have P : Pt rRing h h3 ⟨g3, 0, none⟩ ⟨g3, T_impl_Ring, [], []⟩ [(g2, T_impl_Ring, ⟨Z_impl_Ring⟩), (g1, T_laws_Ring, cs)] z_Ring := Pt.new (r := rRing) zow_Ring M
  have R : RdP rRing _ ⟨g1, 0, none⟩ x := P.mem.rdp (.there .here) (rRing.ext P.ext R0)
  refine R.oL2 fun b l c S => (to_Float32S_c S (by have := S.len; omega)).mono ?_
  rintro _ h' ⟨b', c', B, rfl, O, N⟩
  refine as_l ((P.join N).stLg O fun h' P => ?_)
  have R : RdP rRing _ ⟨g1, 0, none⟩ x := P.mem.rdp (.there .here) (rRing.ext P.ext R0)
  refine R.oI2 (P.stI2 fun h' P => ?_)
  obtain ⟨c', B, M, O⟩ := P.out
  refine M.lda0 .here (osz O rfl) ?_
  have M := M.cnt (W := (g2, T_impl_Ring, ⟨Z_impl_Ring⟩) :: B) (fun p => by simp only [cnt_app, cnt_cons, cnt_nil] at *; omega)
  refine M.sta0 .here (osz O rfl) (rRing.oone O) rfl .here fun h3 M => M.lda0 .here (osz O rfl) ?_
  exact ⟨_, B, rfl, O, M.drop⟩
theorem eq_Filter_c {ca cb : Array Value} {x : GFilter} (Ra : rFilter.rd h ca.toList x) (Rb : rFilter.rd h cb.toList x) : CALL prg f_laws_eqFilter #[.agg ca, .agg cb] (fun u h' => u = .bool true ∧ Ext h h') h := by
  refine laws_eqFilter.call (alcR Ra fun g1 h1 x1 A => alcR (rFilter.ext x1 Rb) fun g2 h2 x2 B => ?_)
  have A := A.ext x2
  have X := x1.trans x2
  refine A.oI2 (B.oI2 (br_f (by simp) ?_))
  refine A.lda2 foc_Filter_C rfl fun c1 R1 => B.lda2 foc_Filter_C rfl fun c2 R2 => goX (eq_Float32A3_c R1 R2) fun h' x' => as_b (br_f rfl ?_)
  have A := A.ext x'
  have B := B.ext x'
  have X := X.trans x'
  refine A.lda2 foc_Filter_S rfl fun c1 R1 => B.lda2 foc_Filter_S rfl fun c2 R2 => goX (eq_Float32A2_c R1 R2) fun h' x' => as_b (br_f rfl ?_)
  have A := A.ext x'
  have B := B.ext x'
  have X := X.trans x'
  exact ⟨rfl, X⟩
theorem to_Filter_c {cs : Array Value} {x : GFilter} (R0 : rFilter.rd h cs.toList x) : CALL prg f_laws_toFilter #[.agg cs] (fun u h' => NewR rFilter h h' u x) h := by
  refine laws_toFilter.call ((Mem.start h).alc fun g1 h1 x1 M => M.alc fun g2 h2 x2 M => M.alc fun g3 h3 x3 M => ?_)
  have P : Pt rFilter h h3 ⟨g3, 0, none⟩ ⟨g3, T_impl_Filter, [], []⟩ [(g2, T_impl_Filter, ⟨Z_impl_Filter⟩), (g1, T_laws_Filter, cs)] z_Filter := Pt.new (r := rFilter) zow_Filter M
  have R : RdP rFilter _ ⟨g1, 0, none⟩ x := P.mem.rdp (.there .here) (rFilter.ext P.ext R0)
  refine R.oI2 (P.stI2 fun h' P => ?_)
  have R : RdP rFilter _ ⟨g1, 0, none⟩ x := P.mem.rdp (.there .here) (rFilter.ext P.ext R0)
  refine R.lda2 foc_Filter_C rfl fun c1 R1 => NewR.pt P (to_Float32A3_c R1) fun h' c2 B P O ho => as_a (P.stsg foc_Filter_C rfl O fun h' P => ?_)
  have R : RdP rFilter _ ⟨g1, 0, none⟩ x := P.mem.rdp (.there .here) (rFilter.ext P.ext R0)
  refine R.lda2 foc_Filter_S rfl fun c1 R1 => NewR.pt P (to_Float32A2_c R1) fun h' c2 B P O ho => as_a (P.stsg foc_Filter_S rfl O fun h' P => ?_)
  obtain ⟨c', B, M, O⟩ := P.out
  refine M.lda0 .here (osz O rfl) ?_
  have M := M.cnt (W := (g2, T_impl_Filter, ⟨Z_impl_Filter⟩) :: B) (fun p => by simp only [cnt_app, cnt_cons, cnt_nil] at *; omega)
  refine M.sta0 .here (osz O rfl) (rFilter.oone O) rfl .here fun h3 M => M.lda0 .here (osz O rfl) ?_
  exact ⟨_, B, rfl, O, M.drop⟩
end
end Go.Sx
