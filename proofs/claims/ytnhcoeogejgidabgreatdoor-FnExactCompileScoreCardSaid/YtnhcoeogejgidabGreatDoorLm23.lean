/- A line of a score, by its first word. -/
import Derived.Test.YtnhcoeogejgidabGreatDoorLm22
import Derived.Test.YtnhcoeogejgidabGreatDoorLk27
import Derived.Test.YtnhcoeogejgidabGreatDoorLg
import Derived.Test.YtnhcoeogejgidabGreatDoorLp2
import Derived.Test.YtnhcoeogejgidabGreatDoorLp5
import Derived.Test.YtnhcoeogejgidabGreatDoorTabE
import Derived.Test.YtnhcoeogejgidabGreatDoorLr3
import Derived.Test.YtnhcoeogejgidabGreatDoorTab
import Derived.Test.YtnhcoeogejgidabGreatDoorLk0
set_option linter.unusedVariables false
set_option linter.unusedSimpArgs false
namespace Go.Sx

/-- A line with one number. -/
def GComp.one (s : GComp) (p : Nat) (w : List UInt8) (n : Nat) : CRes :=
  if w = rateW then s.setRate p n else if w = atW then s.goto p n else if w = waitW then s.goto p (s.now + n) else s.open_ p n
def oneW (w : List UInt8) : Prop := w = rateW ∨ w = atW ∨ w = waitW ∨ w = repW
def soundW (w : List UInt8) : Prop := w = stringW ∨ w = pipW ∨ w = boW
def kindOf (w : List UInt8) : Int := if w = pipW then 2 else if w = boW then 3 else 1
section
variable {s : GComp} {p : Nat} {ws : List (List UInt8)}
theorem line_one (h : oneW ws[0]!) : s.line p ws = if ws.length = 2 then (match wholeL ws[1]! with | some n => s.one p ws[0]! n | none => .error 5) else .error 5 := by
  unfold GComp.line GComp.one
  rcases h with h | h | h | h <;> rw [h] <;> by_cases h2 : ws.length = 2 <;> simp (config := { decide := true }) [rateW, tuneW, stringW, pipW, boW, atW, waitW, playW, repW, endW, h2] <;> (cases wholeL ws[1] <;> rfl)
theorem line_tune (h : ws[0]! = tuneW) : s.line p ws = if ws.length = 3 then (match fracL ws[1]!, wholeL ws[2]! with | some a, some n => s.setTune p a n | _, _ => .error 5) else .error 5 := by
  unfold GComp.line
  rw [h]
  by_cases h2 : ws.length = 3 <;> simp (config := { decide := true }) [rateW, tuneW, stringW, pipW, boW, atW, waitW, playW, repW, endW, h2] <;> (cases fracL ws[1] <;> cases wholeL ws[2] <;> rfl)
theorem line_sound (h : soundW ws[0]!) : s.line p ws = if ws.length = 5 then s.sound p (kindOf ws[0]!) ws else .error 5 := by
  unfold GComp.line kindOf
  rcases h with h | h | h <;> rw [h] <;> by_cases h2 : ws.length = 5 <;> simp (config := { decide := true }) [rateW, tuneW, stringW, pipW, boW, atW, waitW, playW, repW, endW, h2]
theorem line_play (h : ws[0]! = playW) : s.line p ws = if ws.length = 5 then s.playL p ws else .error 5 := by
  unfold GComp.line
  rw [h]
  by_cases h2 : ws.length = 5 <;> simp (config := { decide := true }) [rateW, tuneW, stringW, pipW, boW, atW, waitW, playW, repW, endW, h2]
theorem line_end (h : ws[0]! = endW) : s.line p ws = if ws.length = 1 then s.close p else .error 5 := by
  unfold GComp.line
  rw [h]
  by_cases h2 : ws.length = 1 <;> simp (config := { decide := true }) [rateW, tuneW, stringW, pipW, boW, atW, waitW, playW, repW, endW, h2]
theorem line_else (h1 : ¬ oneW ws[0]!) (h2 : ¬ ws[0]! = tuneW) (h3 : ¬ soundW ws[0]!) (h4 : ¬ ws[0]! = playW) (h5 : ¬ ws[0]! = endW) : s.line p ws = .error 5 := by
  unfold oneW at h1
  unfold soundW at h3
  simp only [not_or] at h1 h3
  unfold GComp.line
  rw [if_neg fun h => h1.1 h.1, if_neg fun h => h2 h.1, if_neg fun h => h3.1 h.1, if_neg fun h => h3.2.1 h.1, if_neg fun h => h3.2.2 h.1, if_neg fun h => h1.2.1 h.1, if_neg fun h => h1.2.2.1 h.1, if_neg fun h => h4 h.1, if_neg fun h => h1.2.2.2 h.1, if_neg fun h => h5 h.1]
theorem whole_nil : wholeL [] = none := rfl
theorem frac_nil : fracL [] = none := by decide +kernel
theorem signed_nil : signedL [] = none := rfl
/-- A line with an empty word is none. -/
theorem line_empty (h : [] ∈ ws) : s.line p ws = .error 5 := by
  by_cases h1 : oneW ws[0]!
  · rw [line_one h1]
    by_cases h2 : ws.length = 2
    · rw [if_pos h2]
      match ws, h2 with
      | [a, b], _ =>
        have ha : a ≠ [] := by rintro rfl; rcases h1 with h | h | h | h <;> cases h
        simp only [List.mem_cons, List.not_mem_nil, or_false] at h
        rcases h with h | h
        · exact absurd h.symm ha
        · subst h; rfl
    · rw [if_neg h2]
  by_cases h2 : ws[0]! = tuneW
  · rw [line_tune h2]
    by_cases h3 : ws.length = 3
    · rw [if_pos h3]
      match ws, h3 with
      | [a, b, c], _ =>
        have ha : a ≠ [] := by rintro rfl; cases h2
        simp only [List.mem_cons, List.not_mem_nil, or_false] at h
        rcases h with h | h | h
        · exact absurd h.symm ha
        · subst h; show (match fracL [], wholeL c with | some a, some n => s.setTune p a n | _, _ => .error 5) = _; rw [frac_nil]
        · subst h; show (match fracL b, wholeL [] with | some a, some n => s.setTune p a n | _, _ => .error 5) = _; rw [whole_nil]; cases fracL b <;> rfl
    · rw [if_neg h3]
  by_cases h3 : soundW ws[0]!
  · rw [line_sound h3]
    by_cases h5 : ws.length = 5
    · rw [if_pos h5]
      match ws, h5 with
      | [a, b, c, d, e], _ =>
        have ha : a ≠ [] := by rintro rfl; rcases h3 with h | h | h <;> cases h
        simp only [List.mem_cons, List.not_mem_nil, or_false] at h
        unfold GComp.sound
        show (match fracL c, fracL d, (if kindOf a = 2 then if e = opW then some 1065353216 else if e = clW then some 0 else none else fracL e) with
          | some x, some y, some z => if nameOk (mkB b) then s.add p ⟨mkB b, kindOf a, x, y, z⟩ else .error 5
          | _, _, _ => .error 5) = _
        rcases h with h | h | h | h | h
        · exact absurd h.symm ha
        · subst h
          rw [show nameOk (mkB []) = false by decide +kernel]
          split <;> rfl
        · subst h; rw [frac_nil]
        · subst h; rw [frac_nil]; cases fracL c <;> rfl
        · subst h
          have : (if kindOf a = 2 then if ([] : List UInt8) = opW then some 1065353216 else if ([] : List UInt8) = clW then some 0 else none else fracL []) = none := by
            rw [frac_nil]; split <;> rfl
          rw [this]
          cases fracL c <;> cases fracL d <;> rfl
    · rw [if_neg h5]
  by_cases h4 : ws[0]! = playW
  · rw [line_play h4]
    by_cases h5 : ws.length = 5
    · rw [if_pos h5]
      match ws, h5 with
      | [a, b, c, d, e], _ =>
        have ha : a ≠ [] := by rintro rfl; cases h4
        simp only [List.mem_cons, List.not_mem_nil, or_false] at h
        unfold GComp.playL
        show (match signedL c, fracL d, wholeL e with
          | some key, some force, some long => if nameOk (mkB b) then s.note p (mkB b) key force long else .error 5
          | _, _, _ => .error 5) = _
        rcases h with h | h | h | h | h
        · exact absurd h.symm ha
        · subst h
          rw [show nameOk (mkB []) = false by decide +kernel]
          split <;> rfl
        · subst h; rw [signed_nil]
        · subst h; rw [frac_nil]; cases signedL c <;> rfl
        · subst h; rw [whole_nil]
          cases signedL c <;> cases fracL d <;> rfl
    · rw [if_neg h5]
  by_cases h5 : ws[0]! = endW
  · rw [line_end h5]
    by_cases h1 : ws.length = 1
    · match ws, h1 with
      | [a], _ =>
        simp only [List.mem_cons, List.not_mem_nil, or_false] at h
        subst h; cases h5
    · rw [if_neg h1]
  exact line_else h1 h2 h3 h4 h5
end
end Go.Sx
/- The program's order of events: the starts in a map, an event's key, the comparison of two. -/
set_option linter.unusedVariables false
set_option linter.unusedSimpArgs false
namespace Go.Sx
open Go.Proofs
set_option maxRecDepth 100000
set_option maxHeartbeats 1000000

theorem UM_ii : prg.underlying T_map_int64_int64 = some (.map T_int64 T_int64) := by kernel_rfl
theorem zero_of {P : Program} {t : TypeId} {z : Value} (h : (P.info? t).bind (·.zero) = some z) (w : World) : (zeroValue t).run P w = .ok z w := by
  cases e : P.info? t with
  | none => rw [e] at h; cases h
  | some i =>
    rw [e] at h
    have h : i.zero = some z := h
    simp [zeroValue, typeInfo, e, h]
theorem zero_int64 (w : World) : (zeroValue T_int64).run prg w = .ok (.int .i64 0) w := zero_of (by kernel_rfl) w
section
variable {h : Heap}
theorem starts_c {b : Option Addr} {l c : Nat} {es : List GEvent} (S : SlR rEvent h b l c es) : CALL prg f_impl_starts #[.slice b l c] (fun u h' => ∃ g, u = .map (some g) ∧ h.size ≤ g ∧ MapI h' g (ownM es) ∧ Ext h h') h := by
  have hm2 := S.2.2.1
  have hm3 := S.2.1
  have := maxLen_lt
  have hl := S.len
  refine impl_starts.call (make_map fun g h1 x1 hg M => ?_)
  refine loop (fun x hh => ∃ n : Nat, x = (.map (some g), b, l, c, (l : Int), (n : Int)) ∧ n ≤ l ∧ Ext h hh ∧ MapI hh g (ownM (es.take n))) (fun x => (l - x.2.2.2.2.2).toNat) ⟨0, rfl, by omega, x1, by rw [List.take_zero]; exact M⟩ ?_
  rintro x hh ⟨n, rfl, hn, X, M⟩
  refine brd (fun hc => ?_) fun hc => ⟨g, rfl, by omega, by rw [List.take_of_length_le (by omega)] at M; exact M, X⟩
  have hs := ownM_succ (es := es) (i := n) (by omega)
  refine (S.ext X).idn ev_sz (by omega) fun a Ra => Ra.lda1 rfl fun cs Rc => localR Rc rfl rfl fun g1 h2 x2 R => R.oI2 (br (fun k => ?_) fun k => ?_)
  · rw [if_pos (show isSt es[n]! = true from k)] at hs
    refine R.oI2 (R.oI2 (put_map (M.ext x2) (X.trans x2) (by omega) UM_ii U_int64 _ _ fun q h3 x3 M3 _ => ⟨⟨n + 1, by rw [wrap64_succ (by omega)], by omega, x3, by rw [hs]; exact M3⟩, by rw [wrap64_succ (by omega)]; show _ < _; simp; omega⟩))
  · rw [if_neg (by rw [show isSt es[n]! = false from k]; decide)] at hs
    exact ⟨⟨n + 1, by rw [wrap64_succ (by omega)], by omega, X.trans x2, by rw [hs]; exact M.ext x2⟩, by rw [wrap64_succ (by omega)]; show _ < _; simp; omega⟩
theorem order_c {cs : Array Value} {e : GEvent} {g : Nat} {es : List GEvent} (R : rEvent.rd h cs.toList e) (M : MapI h g (ownM es)) : CALL prg f_impl_Event_order #[.agg cs, .map (some g)] (fun u h' => u = .agg (keyV (keyM es e)) ∧ Ext h h') h := by
  have z : (⟨Z_4_int64⟩ : Array Value) = keyV [0, 0, 0, 0] := by rfl
  have fin : ∀ {h1 h2 : Heap} {g1 g3 : Nat} {late stop : Int}, Ext h h1 → Mem h1 h2 [(g3, T_4_int64, keyV [0, 0, 0, 0])] → RdP rEvent h2 ⟨g1, 0, none⟩ e → [e.At, late, e.Note, stop] = keyM es e → impl_Event_order.J7 (fun u h' => u = .agg (keyV (keyM es e)) ∧ Ext h h') ⟨g1, 0, none⟩ ⟨g3, 0, none⟩ late stop h2 := fun {h1 h2 g1 g3 late stop} X M R k => by
    unfold impl_Event_order.J7
    refine R.oI1 (R.oI (M.sta0 .here (vs := keyV [e.At, late, e.Note, stop]) rfl (keyV_one _) rfl .here fun h6 M => M.lda0 .here rfl ⟨by rw [k], X.trans M.ext⟩))
  refine impl_Event_order.call ?_
  rw [impl_Event_order.S, z]
  refine alcR R fun g1 h1 x1 R1 => (Mem.start h1).alc fun g3 h2 x2 M2 => (R1.ext x2).oI2 (br (fun k => ?_) fun k => ?_)
  · have hk : e.Kind = 1 := by simpa using k
    have hp : isSp e = true := k
    have hf := ownM_find es e.Note
    have hM := M.ext (x1.trans x2)
    cases ho : ownA es e.Note with
    | none =>
      rw [ho] at hf
      refine (R1.ext x2).oI2 (look_map hM UM_ii U_int64 zero_int64 _ ?_)
      rw [show mfind (ownM es) e.Note = none from hf]
      refine tup2 (as_i (as_b (br_f rfl (fin x1 M2 (R1.ext x2) ?_))))
      rw [keyM, lateM, hp, ho, keyL, if_pos hk]; rfl
    | some a =>
      rw [ho] at hf
      refine (R1.ext x2).oI2 (look_map hM UM_ii U_int64 zero_int64 _ ?_)
      rw [show mfind (ownM es) e.Note = some (.int .i64 a) from hf]
      refine tup2 (as_i (as_b (br_t rfl ((R1.ext x2).oI2 (brd (fun k2 => fin x1 M2 (R1.ext x2) ?_) fun k2 => fin x1 M2 (R1.ext x2) ?_)))))
      · rw [keyM, lateM, hp, ho, keyL, if_pos hk]
        show _ = [e.At, if (true && decide (a < e.At)) = true then 0 else 1, e.Note, 1]
        rw [decide_eq_true k2]; rfl
      · rw [keyM, lateM, hp, ho, keyL, if_pos hk]
        show _ = [e.At, if (true && decide (a < e.At)) = true then 0 else 1, e.Note, 1]
        rw [decide_eq_false k2]; rfl
  · have hk : ¬ e.Kind = 1 := by simpa using k
    have hp : isSp e = false := k
    refine fin x1 M2 (R1.ext x2) ?_
    rw [keyM, lateM, hp, keyL, if_neg hk]; rfl
def cmp3 (x y : Int) : Int := if x < y then -1 else if y < x then 1 else 0
noncomputable def cmpL (a b : List Int) : Int := if lt4 a b = true then -1 else @ite _ (a = b) (Classical.propDecidable _) 0 1
theorem cmpL_ge (a b : List Int) : decide (0 ≤ cmpL a b) = !lt4 a b := by
  unfold cmpL
  cases lt4 a b with
  | true => rfl
  | false =>
    rw [if_neg (by decide)]
    split <;> rfl
theorem cmp_Compare_c (x y : Int) : Ret prg f_cmp_Compare_int64 #[.int .i64 x, .int .i64 y] (.int .i64 (cmp3 x y)) := fun h => by
  have nan : ∀ (x : Int) h, CALL prg f_cmp_isNaN_int64 #[.int .i64 x] (fun u h' => u = .bool false ∧ Ext h h') h := fun x h => cmp_isNaN_int64.call ⟨by simp, Ext.refl _⟩
  refine cmp_Compare_int64.call (goX (nan x h) fun h1 x1 => as_b (goX (nan y h1) fun h2 x2 => as_b (br_f rfl (br_f rfl (brd (fun k => ⟨by rw [cmp3, if_pos k], x1.trans x2⟩) fun k => brd (fun k2 => ⟨by rw [cmp3, if_neg k, if_pos k2], x1.trans x2⟩) fun k2 => ⟨by rw [cmp3, if_neg k, if_neg k2], x1.trans x2⟩)))))
theorem Compare_c {b1 b2 : Option Addr} {l c1 c2 : Nat} {xs ys : List Int} (S1 : SlR (rI .i64) h b1 l c1 xs) (S2 : SlR (rI .i64) h b2 l c2 ys) : CALL prg f_slices_Compare_sl_int64_int64 #[.slice b1 l c1, .slice b2 l c2] (fun u h' => u = .int .i64 (cmpL xs ys) ∧ Ext h h') h := by
  have hm2 := S1.2.2.1
  have hm3 := S1.2.1
  have := maxLen_lt
  have e1 := S1.len
  have e2 := S2.len
  refine slices_Compare_sl_int64_int64.call ?_
  refine loop (fun x hh => ∃ n : Nat, x = (b1, l, c1, b2, l, c2, b1, l, c1, (l : Int), (n : Int)) ∧ n ≤ l ∧ Ext h hh ∧ ∀ i, i < n → xs[i]! = ys[i]!) (fun x => (l - x.2.2.2.2.2.2.2.2.2.2).toNat) ⟨0, rfl, by omega, Ext.refl _, fun i hi => by omega⟩ ?_
  rintro x hh ⟨n, rfl, hn, X, hs⟩
  refine brd (fun hc => ?_) fun hc => ?_
  · refine (S1.ext X).idn (by decide) (by omega) fun a Ra => Ra.oI1 (brd (fun k => by omega) fun _ => (S2.ext X).idn (by decide) (by omega) fun a' Rb => Rb.oI1 (goE X (cmp_Compare_c _ _ _) fun h2 x2 => as_i (br (fun k => ⟨?_, x2⟩) fun k => ?_)))
    · have hne : xs[n]! ≠ ys[n]! := fun e => by
        rw [cmp3, e, if_neg (by omega), if_neg (by omega)] at k; cases k
      rw [cmpL, lt4_at (n := n) (by omega) (by omega) hs hne, cmp3]
      have hab : ¬ xs = ys := fun e => hne (by rw [e])
      by_cases hlt : xs[n]! < ys[n]!
      · rw [if_pos hlt, if_pos (by rw [decide_eq_true hlt])]
      · rw [if_neg hlt, if_pos (by omega), if_neg (by rw [decide_eq_false hlt]; decide), if_neg hab]
    · have he : xs[n]! = ys[n]! := by
        unfold cmp3 at k
        by_cases h1 : xs[n]! < ys[n]!
        · rw [if_pos h1] at k; cases k
        · by_cases h2 : ys[n]! < xs[n]!
          · rw [if_neg h1, if_pos h2] at k; cases k
          · omega
      refine ⟨⟨n + 1, by rw [wrap64_succ (by omega)], by omega, x2, fun i hi => ?_⟩, by rw [wrap64_succ (by omega)]; show _ < _; simp; omega⟩
      by_cases e : i = n
      · subst e; exact he
      · exact hs i (by omega)
  · have hxy : xs = ys := lt4_same (by omega) fun i hi => hs i (by omega)
    subst hxy
    refine brd (fun k => by omega) fun _ => ⟨?_, X⟩
    rw [cmpL, lt4_irrefl, if_neg (by decide), if_pos rfl]
theorem Mem.slI {h0 : Heap} {L : List Blk} {g : Nat} {ks : List Int} (M : Mem h0 h L) (l : Look L g (keyV ks)) (hn : ks.length ≤ maxLen) : SlR (rI .i64) h (some ⟨g, 0, none⟩) ks.length ks.length ks := by
  refine ⟨rfl, Nat.le_refl _, hn, (keyV ks).toList, fun i hi => ⟨_, rfl, ?_⟩, ?_⟩
  · rw [add_none, Nat.zero_add, M.cell l, Array.getElem?_toList]
  · show rds (rI .i64) h (ks.map (.int .i64)) ks
    clear hn l
    induction ks with
    | nil => rfl
    | cons k ks ih => exact ⟨[.int .i64 k], _, rfl, rfl, ih⟩
end
end Go.Sx
/- The program's comparison of two events. -/
set_option linter.unusedVariables false
set_option linter.unusedSimpArgs false
namespace Go.Sx
open Go.Proofs
set_option maxRecDepth 100000
set_option maxHeartbeats 2000000

section
variable {h : Heap}
theorem compareEvents_c (g : Nat) : CALL prg f_impl_compareEvents #[.map (some g)] (fun u h' => ∃ gc, u = .func (.func f_impl_compareEvents_c1) #[] #[.pointer (some ⟨gc, 0, none⟩)] ∧ h.size ≤ gc ∧ cell h' ⟨gc, 0, none⟩ = some (.map (some g)) ∧ Ext h h') h :=
  impl_compareEvents.call ((Mem.start h).alc fun g1 h1 x1 M => ⟨g1, rfl, (M.at_ _ (.head _)).1, M.cell .here 0, x1⟩)
theorem cell_ext {h h' : Heap} {a : Addr} {v : Value} (e : cell h a = some v) (x : Ext h h') : cell h' a = some v := x.cell e
theorem compare_c1_c {es : List GEvent} {gc g : Nat} {ca cb : Array Value} {x y : GEvent} (hc : cell h ⟨gc, 0, none⟩ = some (.map (some g))) (M0 : MapI h g (ownM es)) (Rx : rEvent.rd h ca.toList x) (Ry : rEvent.rd h cb.toList y) :
    CALL prg f_impl_compareEvents_c1 #[.agg ca, .agg cb, .pointer (some ⟨gc, 0, none⟩)] (fun u h' => u = .int .i64 (cmpL (keyM es x) (keyM es y)) ∧ Ext h h') h := by
  have z : (⟨Z_4_int64⟩ : Array Value) = keyV [0, 0, 0, 0] := by rfl
  refine impl_compareEvents_c1.call ?_
  rw [impl_compareEvents_c1.S, z]
  refine alcR Rx fun g1 h1 x1 A => alcR (rEvent.ext x1 Ry) fun g3 h4 x4 B => ?_
  have A := A.ext x4
  have X0 := x1.trans x4
  have hcc := cell_ext hc X0
  have MM := M0.ext X0
  clear hc M0 Rx Ry
  refine A.lda1 rfl fun a5 R5 => ?_
  rw [hcc]
  refine B.lda1 rfl fun a7 R7 => ?_
  have pt : ∀ {hx : Heap} {L : List Blk} {p : Prop}, Mem h4 hx L → p → PIN h4 ⟨gc, 0, none⟩ 1 hx p := fun M H => pin M.ext (fun j hj => ⟨.map (some g), by rw [show j = 0 by omega, add0]; exact hcc⟩) H
  have pa : ∀ {hx : Heap} {L : List Blk} {p : Prop}, Mem h4 hx L → p → PIN h4 ⟨g1, 0, none⟩ 6 hx p := fun M H => A.pin0 (by decide) M.ext H
  have pb : ∀ {hx : Heap} {L : List Blk} {p : Prop}, Mem h4 hx L → p → PIN h4 ⟨g3, 0, none⟩ 6 hx p := fun M H => B.pin0 (by decide) M.ext H
  have oa : ∀ {hx : Heap} {L : List Blk} {K : Array Value → Heap → Prop}, Mem h4 hx L → (∀ h', Mem h4 h' L → K (keyV (keyM es x)) h') → CALL prg f_impl_Event_order #[.agg a5, .map (some g)] (fun q h' => asA q fun a => K a h') hx := fun M H => goM M (order_c (rEvent.ext M.ext R5) (MM.ext M.ext)) fun h' M' => as_a (H h' M')
  have ob : ∀ {hx : Heap} {L : List Blk} {K : Array Value → Heap → Prop}, Mem h4 hx L → (∀ h', Mem h4 h' L → K (keyV (keyM es y)) h') → CALL prg f_impl_Event_order #[.agg a7, .map (some g)] (fun q h' => asA q fun a => K a h') hx := fun M H => goM M (order_c (rEvent.ext M.ext R7) (MM.ext M.ext)) fun h' M' => as_a (H h' M')
  have fin : ∀ {hx : Heap} {L : List Blk} {ga gb : Nat}, Mem h4 hx L → Look L ga (keyV (keyM es x)) → Look L gb (keyV (keyM es y)) →
      CALL prg f_slices_Compare_sl_int64_int64 #[.slice (some (slP ⟨ga, 0, none⟩ 4 0 1)) (4 - 0) (4 - 0), .slice (some (slP ⟨gb, 0, none⟩ 4 0 1)) (4 - 0) (4 - 0)] (fun q h' => asI .i64 q fun n => (Value.int .i64 n = .int .i64 (cmpL (keyM es x) (keyM es y)) ∧ Ext h h')) hx := fun M l1 l2 => by
    rw [slP_zero, slP_zero]
    exact goE (X0.trans M.ext) (Compare_c (M.slI l1 (show 4 ≤ maxLen by decide)) (M.slI l2 (show 4 ≤ maxLen by decide))) fun h' x' => as_i ⟨rfl, x'⟩
  have kx : (keyM es x).length = 4 := rfl
  have ky : (keyM es y).length = 4 := rfl
  have st : ∀ {hx : Heap} {L L' : List Blk} {gq : Nat} {k : List Int} {K : Heap → Prop}, Mem h4 hx L → k.length = 4 → Look L gq (keyV [0, 0, 0, 0]) → Upd L gq (keyV k) L' → (∀ h', Mem h4 h' L' → K h') → STA 4 hx ⟨gq, 0, none⟩ (keyV k) K := fun M hk l u H => M.sta0 l (by rw [keyV_size, hk]) (keyV_one _) rfl u H
  have M := Mem.start h4
  show _ ∧ _
  (repeat' (first
    | with_reducible refine And.intro ?_ ?_
    | with_reducible refine Mem.alc (by assumption) fun _ _ _ _ => ?_
    | with_reducible refine pt (by assumption) ?_
    | with_reducible refine pb (by assumption) ?_
    | with_reducible refine pa (by assumption) ?_
    | with_reducible refine oa (by assumption) fun _ _ => ?_
    | with_reducible refine ob (by assumption) fun _ _ => ?_
    | with_reducible refine slb (by decide) (by decide) (by decide) ?_
    | with_reducible refine st (by assumption) (by first | exact kx | exact ky) (by first | exact .here | exact .there .here) (by first | exact .here | exact .there .here) fun _ _ => ?_
    | with_reducible exact fin (by assumption) (by first | exact .here | exact .there .here) (by first | exact .here | exact .there .here)))
end
end Go.Sx
/- The program: which events are good, which scores. -/
set_option linter.unusedVariables false
set_option linter.unusedSimpArgs false
namespace Go.Sx
open Go.Proofs
set_option maxRecDepth 100000
set_option maxHeartbeats 2000000

noncomputable def GScore.ok (s : GScore) : Bool := inside s.Rate 1065353216 1232348160 && s.Tuning.ok && (decide (s.Instruments.length ≤ 6) && instOk s.Instruments) && evOk s.Events s.Instruments.length
section
variable {h : Heap}
theorem length_Event_c (b : Option Addr) (l c : Nat) : Ret prg f_impl_length_impl_Event #[.slice b l c] (.int .i64 l) := fun h => impl_length_impl_Event.call ⟨rfl, Ext.refl _⟩
theorem isKey_c (k : Int) : Ret prg f_impl_isKey #[.int .i64 k] (.bool (inR k (-100) 100)) := fun h => impl_isKey.call ((within_c _ _ _).go fun h1 x1 => as_b ⟨rfl, x1⟩)
end
end Go.Sx
/- What pipes do, plain. -/
set_option linter.unusedVariables false
set_option linter.unusedSimpArgs false
namespace Go.Sx
def one32 : Nat := 1065353216
def neg32 : Nat := 3212836864
def GPipe.n (x : GPipe) : Nat := x.Right.length
def GPipe.d (x : GPipe) (b : Nat) : Nat := fsub .f32 x.Left[0]!.old b
def GPipe.t (x : GPipe) (i : Nat) : Nat := fmul .f32 x.Scatter[i]! (fsub .f32 x.Right[i]!.old x.Left[i + 1]!.old)
def GPipe.e (x : GPipe) : GFilter × Nat := x.End.step x.Right[x.n - 1]!.old
def GPipe.back (x : GPipe) : Nat := let b := fmul .f32 x.Loss x.e.2; if x.Open then fneg .f32 b else b
def GPipe.reed (x : GPipe) (d : Nat) : Nat := clamp (fadd .f32 x.Rest (fmul .f32 x.Slope d)) one32
def GPipe.rt (x : GPipe) (b : Nat) (i : Nat) : GRing := x.Right[i]!.push (kept (if i = 0 then fadd .f32 b (fmul .f32 (x.d b) (x.reed (x.d b))) else fadd .f32 x.Right[i - 1]!.old (x.t (i - 1))))
def GPipe.lf (x : GPipe) (i : Nat) : GRing := x.Left[i]!.push (kept (if i = x.n - 1 then x.back else fadd .f32 x.Left[i + 1]!.old (x.t i)))
/-- A step: the pipe behind it, and what comes out. -/
def GPipe.step (x : GPipe) (b : Nat) : GPipe × Nat := ({ x with Right := (List.range x.n).map (x.rt b), Left := (List.range x.n).map x.lf, End := x.e.1 }, x.e.2)
def GPipe.ok (x : GPipe) : Bool :=
  inR x.n 1 3 && decide (x.Left.length = x.n) && decide (x.Scatter.length + 1 = x.n) && x.Right.all GRing.okf && x.Left.all GRing.okf && ((List.range x.n).all fun i => x.Right[i]!.Samples.length == x.Left[i]!.Samples.length) &&
    (x.Scatter.all fun k => inside k neg32 one32) && x.End.ok && (x.End.Kind == 1) && fin x.Loss && fin x.Rest && fin x.Slope
end Go.Sx
/- Bodies of voices: none there, or good ones. -/
set_option linter.unusedVariables false
set_option linter.unusedSimpArgs false
namespace Go.Sx
open Go.Proofs
set_option maxRecDepth 100000
set_option maxHeartbeats 1000000

section
variable {h : Heap} {q : Addr}
def GString.ok (x : GString) : Bool := x.Loop.ok && (x.Tune.ok && x.Tune.Kind == 3) && (x.Damp.ok && x.Damp.Kind == 2) && fin x.Loss
def GBow.ok (x : GBow) : Bool := x.Neck.okf && x.Bridge.okf && (x.Damp.ok && x.Damp.Kind == 1) && (fin x.Slope && fin x.Loss)
end
end Go.Sx
/- Voices: the rule's and the program's. -/
set_option linter.unusedVariables false
set_option linter.unusedSimpArgs false
namespace Go.Sx
open Go.Proofs
set_option maxRecDepth 100000
set_option maxHeartbeats 2000000

noncomputable def freeOk (v : GVoice) : Bool := same v.String z_String && same v.Pipe z_Pipe && same v.Bow z_Bow && (v.Instrument == 0) && (v.Born == 0) && !v.Gone && (v.Drive == 0)
noncomputable def bodyOk (s : GScore) (v : GVoice) : Bool :=
  if s.Instruments[v.Instrument.toNat]!.Kind = 1 then v.String.ok && same v.Pipe z_Pipe && same v.Bow z_Bow else if s.Instruments[v.Instrument.toNat]!.Kind = 2 then same v.String z_String && v.Pipe.ok && same v.Bow z_Bow else same v.String z_String && same v.Pipe z_Pipe && v.Bow.ok
noncomputable def voiceOk (s : GScore) (v : GVoice) : Bool := if v.Note = -1 then freeOk v else match startEv s.Events v.Note with | none => false | some e => (e.Instrument == v.Instrument) && (e.At == v.Born) && fin v.Drive && bodyOk s v
theorem first_cases {α : Type} [Inhabited α] (p : α → Bool) (l : List α) : (firstAt p l = -1 ∧ ∀ i, i < l.length → p l[i]! = false) ∨ ∃ n : Nat, n < l.length ∧ firstAt p l = n ∧ (∀ i, i < n → p l[i]! = false) ∧ p l[n]! = true := by
  unfold firstAt
  by_cases h : l.any p = true
  · rw [if_pos h]
    obtain ⟨x, hx, hp⟩ := List.any_eq_true.1 h
    have hlt : l.findIdx p < l.length := List.findIdx_lt_length_of_exists ⟨x, hx, hp⟩
    refine .inr ⟨l.findIdx p, hlt, rfl, fun i hi => ?_, ?_⟩
    · rw [getElem!_pos l i (by omega)]
      have := List.not_of_lt_findIdx hi
      simpa using this
    · rw [getElem!_pos l _ hlt]
      exact List.findIdx_getElem (w := hlt)
  · rw [if_neg h]
    refine .inl ⟨rfl, fun i hi => ?_⟩
    rw [getElem!_pos l i hi]
    rw [Bool.not_eq_true, List.any_eq_false] at h
    have := h _ (List.getElem_mem hi)
    simpa using this
section
variable {h : Heap}
theorem flat_Event : Flat rEvent := flat_via (flat_seq (flat_I _) (flat_seq (flat_I _) (flat_seq (flat_I _) (flat_seq (flat_I _) (flat_seq (flat_I _) (flat_F _))))))
/-- What a search for a note's start answers. -/
def StartR (h : Heap) (es : List GEvent) (n : Int) (u : Value) : Prop := ∃ cs : Array Value, u = .tuple ⟨[.agg cs, .bool (startEv es n).isSome]⟩ ∧ rEvent.rd h cs.toList ((startEv es n).getD z_Event)
theorem StartR.no {es : List GEvent} {n : Int} (e : startEv es n = none) : StartR h es n (.tuple ⟨[.agg ⟨[.int .i64 (0 : Int), .int .i64 (0 : Int), .int .i64 (0 : Int), .int .i64 (0 : Int), .int .i64 (0 : Int), .float .f32 0]⟩, .bool false]⟩) :=
  ⟨_, by rw [e]; rfl, by rw [e]; exact rEvent.look zow_Event (Mem.start h) (List.nil_sublist _)⟩
theorem StartR.yes {es : List GEvent} {n : Int} {e : GEvent} {cs : Array Value} {h0 : Heap} (he : startEv es n = some e) (R : rEvent.rd h0 cs.toList e) : StartR h es n (.tuple ⟨[.agg cs, .bool true]⟩) :=
  ⟨cs, by rw [he]; rfl, by rw [he]; exact rEvent.look (flat_Event _ _ _ R) (Mem.start h) (List.nil_sublist _)⟩
end
end Go.Sx
/- Scores copied. -/
set_option linter.unusedVariables false
set_option linter.unusedSimpArgs false
namespace Go.Sx
open Go.Proofs
set_option maxRecDepth 100000
set_option maxHeartbeats 1000000

theorem flat_Instrument : Flat rInstrument := flat_via (flat_seq flat_S (flat_seq (flat_I _) (flat_seq (flat_F _) (flat_seq (flat_F _) (flat_F _)))))
end Go.Sx
