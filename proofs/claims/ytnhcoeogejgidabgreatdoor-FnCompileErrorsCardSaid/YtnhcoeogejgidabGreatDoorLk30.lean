/- The program's order of events: the starts in a map, an event's key, the comparison of two. -/
import Derived.Test.YtnhcoeogejgidabGreatDoorLk27
import Derived.Test.YtnhcoeogejgidabGreatDoorLr7
import Derived.Test.YtnhcoeogejgidabGreatDoorTab
import Derived.Test.YtnhcoeogejgidabGreatDoorLpx
import Derived.Test.YtnhcoeogejgidabGreatDoorTabE
import Derived.Test.YtnhcoeogejgidabGreatDoorLk24
import Derived.Test.YtnhcoeogejgidabGreatDoorLp5
import Derived.Test.YtnhcoeogejgidabGreatDoorLcn
set_option linter.unusedVariables false
set_option linter.unusedSimpArgs false
namespace Go.Sx
open Go.Proofs
set_option maxRecDepth 100000
set_option maxHeartbeats 1000000

theorem UM_ii : prg.underlying T_map_int64_int64 = some (.map T_int64 T_int64) := by kernel_rfl
theorem zero_of {P : Program} {t : TypeId} {z : Value} (h : (P.info? t).bind (·.zero) = some z) (w : World) : (zeroValue t).run P w = .ok z w := by
  cases e : P.info? t with
  | none => rw [e] at h; cases h
  | some i =>
    rw [e] at h
    have h : i.zero = some z := h
    simp [zeroValue, typeInfo, e, h]
theorem zero_int64 (w : World) : (zeroValue T_int64).run prg w = .ok (.int .i64 0) w := zero_of (by kernel_rfl) w
section
variable {h : Heap}
theorem starts_c {b : Option Addr} {l c : Nat} {es : List GEvent} (S : SlR rEvent h b l c es) : CALL prg f_impl_starts #[.slice b l c] (fun u h' => ∃ g, u = .map (some g) ∧ h.size ≤ g ∧ MapI h' g (ownM es) ∧ Ext h h') h := by
  have hm2 := S.2.2.1
  have hm3 := S.2.1
  have := maxLen_lt
  have hl := S.len
  refine impl_starts.call (make_map fun g h1 x1 hg M => ?_)
  refine loop (fun x hh => ∃ n : Nat, x = (.map (some g), b, l, c, (l : Int), (n : Int)) ∧ n ≤ l ∧ Ext h hh ∧ MapI hh g (ownM (es.take n))) (fun x => (l - x.2.2.2.2.2).toNat) ⟨0, rfl, by omega, x1, by rw [List.take_zero]; exact M⟩ ?_
  rintro x hh ⟨n, rfl, hn, X, M⟩
  refine brd (fun hc => ?_) fun hc => ⟨g, rfl, by omega, by rw [List.take_of_length_le (by omega)] at M; exact M, X⟩
  have hs := ownM_succ (es := es) (i := n) (by omega)
  refine (S.ext X).idn ev_sz (by omega) fun a Ra => Ra.lda1 rfl fun cs Rc => localR Rc rfl rfl fun g1 h2 x2 R => R.oI2 (br (fun k => ?_) fun k => ?_)
  · rw [if_pos (show isSt es[n]! = true from k)] at hs
    refine R.oI2 (R.oI2 (put_map (M.ext x2) (X.trans x2) (by omega) UM_ii U_int64 _ _ fun q h3 x3 M3 _ => ⟨⟨n + 1, by rw [wrap64_succ (by omega)], by omega, x3, by rw [hs]; exact M3⟩, by rw [wrap64_succ (by omega)]; show _ < _; simp; omega⟩))
  · rw [if_neg (by rw [show isSt es[n]! = false from k]; decide)] at hs
    exact ⟨⟨n + 1, by rw [wrap64_succ (by omega)], by omega, X.trans x2, by rw [hs]; exact M.ext x2⟩, by rw [wrap64_succ (by omega)]; show _ < _; simp; omega⟩
theorem order_c {cs : Array Value} {e : GEvent} {g : Nat} {es : List GEvent} (R : rEvent.rd h cs.toList e) (M : MapI h g (ownM es)) : CALL prg f_impl_Event_order #[.agg cs, .map (some g)] (fun u h' => u = .agg (keyV (keyM es e)) ∧ Ext h h') h := by
  have z : (⟨Z_4_int64⟩ : Array Value) = keyV [0, 0, 0, 0] := by rfl
  have fin : ∀ {h1 h2 : Heap} {g1 g3 : Nat} {late stop : Int}, Ext h h1 → Mem h1 h2 [(g3, T_4_int64, keyV [0, 0, 0, 0])] → RdP rEvent h2 ⟨g1, 0, none⟩ e → [e.At, late, e.Note, stop] = keyM es e → impl_Event_order.J7 (fun u h' => u = .agg (keyV (keyM es e)) ∧ Ext h h') ⟨g1, 0, none⟩ ⟨g3, 0, none⟩ late stop h2 := fun {h1 h2 g1 g3 late stop} X M R k => by
    unfold impl_Event_order.J7
    refine R.oI1 (R.oI (M.sta0 .here (vs := keyV [e.At, late, e.Note, stop]) rfl (keyV_one _) rfl .here fun h6 M => M.lda0 .here rfl ⟨by rw [k], X.trans M.ext⟩))
  refine impl_Event_order.call ?_
  rw [impl_Event_order.S, z]
  refine alcR R fun g1 h1 x1 R1 => (Mem.start h1).alc fun g3 h2 x2 M2 => (R1.ext x2).oI2 (br (fun k => ?_) fun k => ?_)
  · have hk : e.Kind = 1 := by simpa using k
    have hp : isSp e = true := k
    have hf := ownM_find es e.Note
    have hM := M.ext (x1.trans x2)
    cases ho : ownA es e.Note with
    | none =>
      rw [ho] at hf
      refine (R1.ext x2).oI2 (look_map hM UM_ii U_int64 zero_int64 _ ?_)
      rw [show mfind (ownM es) e.Note = none from hf]
      refine tup2 (as_i (as_b (br_f rfl (fin x1 M2 (R1.ext x2) ?_))))
      rw [keyM, lateM, hp, ho, keyL, if_pos hk]; rfl
    | some a =>
      rw [ho] at hf
      refine (R1.ext x2).oI2 (look_map hM UM_ii U_int64 zero_int64 _ ?_)
      rw [show mfind (ownM es) e.Note = some (.int .i64 a) from hf]
      refine tup2 (as_i (as_b (br_t rfl ((R1.ext x2).oI2 (brd (fun k2 => fin x1 M2 (R1.ext x2) ?_) fun k2 => fin x1 M2 (R1.ext x2) ?_)))))
      · rw [keyM, lateM, hp, ho, keyL, if_pos hk]
        show _ = [e.At, if (true && decide (a < e.At)) = true then 0 else 1, e.Note, 1]
        rw [decide_eq_true k2]; rfl
      · rw [keyM, lateM, hp, ho, keyL, if_pos hk]
        show _ = [e.At, if (true && decide (a < e.At)) = true then 0 else 1, e.Note, 1]
        rw [decide_eq_false k2]; rfl
  · have hk : ¬ e.Kind = 1 := by simpa using k
    have hp : isSp e = false := k
    refine fin x1 M2 (R1.ext x2) ?_
    rw [keyM, lateM, hp, keyL, if_neg hk]; rfl
def cmp3 (x y : Int) : Int := if x < y then -1 else if y < x then 1 else 0
noncomputable def cmpL (a b : List Int) : Int := if lt4 a b = true then -1 else @ite _ (a = b) (Classical.propDecidable _) 0 1
theorem cmpL_ge (a b : List Int) : decide (0 ≤ cmpL a b) = !lt4 a b := by
  unfold cmpL
  cases lt4 a b with
  | true => rfl
  | false =>
    rw [if_neg (by decide)]
    split <;> rfl
theorem cmp_Compare_c (x y : Int) : Ret prg f_cmp_Compare_int64 #[.int .i64 x, .int .i64 y] (.int .i64 (cmp3 x y)) := fun h => by
  have nan : ∀ (x : Int) h, CALL prg f_cmp_isNaN_int64 #[.int .i64 x] (fun u h' => u = .bool false ∧ Ext h h') h := fun x h => cmp_isNaN_int64.call ⟨by simp, Ext.refl _⟩
  refine cmp_Compare_int64.call (goX (nan x h) fun h1 x1 => as_b (goX (nan y h1) fun h2 x2 => as_b (br_f rfl (br_f rfl (brd (fun k => ⟨by rw [cmp3, if_pos k], x1.trans x2⟩) fun k => brd (fun k2 => ⟨by rw [cmp3, if_neg k, if_pos k2], x1.trans x2⟩) fun k2 => ⟨by rw [cmp3, if_neg k, if_neg k2], x1.trans x2⟩)))))
theorem Compare_c {b1 b2 : Option Addr} {l c1 c2 : Nat} {xs ys : List Int} (S1 : SlR (rI .i64) h b1 l c1 xs) (S2 : SlR (rI .i64) h b2 l c2 ys) : CALL prg f_slices_Compare_sl_int64_int64 #[.slice b1 l c1, .slice b2 l c2] (fun u h' => u = .int .i64 (cmpL xs ys) ∧ Ext h h') h := by
  have hm2 := S1.2.2.1
  have hm3 := S1.2.1
  have := maxLen_lt
  have e1 := S1.len
  have e2 := S2.len
  refine slices_Compare_sl_int64_int64.call ?_
  refine loop (fun x hh => ∃ n : Nat, x = (b1, l, c1, b2, l, c2, b1, l, c1, (l : Int), (n : Int)) ∧ n ≤ l ∧ Ext h hh ∧ ∀ i, i < n → xs[i]! = ys[i]!) (fun x => (l - x.2.2.2.2.2.2.2.2.2.2).toNat) ⟨0, rfl, by omega, Ext.refl _, fun i hi => by omega⟩ ?_
  rintro x hh ⟨n, rfl, hn, X, hs⟩
  refine brd (fun hc => ?_) fun hc => ?_
  · refine (S1.ext X).idn (by decide) (by omega) fun a Ra => Ra.oI1 (brd (fun k => by omega) fun _ => (S2.ext X).idn (by decide) (by omega) fun a' Rb => Rb.oI1 (goE X (cmp_Compare_c _ _ _) fun h2 x2 => as_i (br (fun k => ⟨?_, x2⟩) fun k => ?_)))
    · have hne : xs[n]! ≠ ys[n]! := fun e => by
        rw [cmp3, e, if_neg (by omega), if_neg (by omega)] at k; cases k
      rw [cmpL, lt4_at (n := n) (by omega) (by omega) hs hne, cmp3]
      have hab : ¬ xs = ys := fun e => hne (by rw [e])
      by_cases hlt : xs[n]! < ys[n]!
      · rw [if_pos hlt, if_pos (by rw [decide_eq_true hlt])]
      · rw [if_neg hlt, if_pos (by omega), if_neg (by rw [decide_eq_false hlt]; decide), if_neg hab]
    · have he : xs[n]! = ys[n]! := by
        unfold cmp3 at k
        by_cases h1 : xs[n]! < ys[n]!
        · rw [if_pos h1] at k; cases k
        · by_cases h2 : ys[n]! < xs[n]!
          · rw [if_neg h1, if_pos h2] at k; cases k
          · omega
      refine ⟨⟨n + 1, by rw [wrap64_succ (by omega)], by omega, x2, fun i hi => ?_⟩, by rw [wrap64_succ (by omega)]; show _ < _; simp; omega⟩
      by_cases e : i = n
      · subst e; exact he
      · exact hs i (by omega)
  · have hxy : xs = ys := lt4_same (by omega) fun i hi => hs i (by omega)
    subst hxy
    refine brd (fun k => by omega) fun _ => ⟨?_, X⟩
    rw [cmpL, lt4_irrefl, if_neg (by decide), if_pos rfl]
theorem Mem.slI {h0 : Heap} {L : List Blk} {g : Nat} {ks : List Int} (M : Mem h0 h L) (l : Look L g (keyV ks)) (hn : ks.length ≤ maxLen) : SlR (rI .i64) h (some ⟨g, 0, none⟩) ks.length ks.length ks := by
  refine ⟨rfl, Nat.le_refl _, hn, (keyV ks).toList, fun i hi => ⟨_, rfl, ?_⟩, ?_⟩
  · rw [add_none, Nat.zero_add, M.cell l, Array.getElem?_toList]
  · show rds (rI .i64) h (ks.map (.int .i64)) ks
    clear hn l
    induction ks with
    | nil => rfl
    | cons k ks ih => exact ⟨[.int .i64 k], _, rfl, rfl, ih⟩
end
end Go.Sx
/- The program's comparison of two events. -/
set_option linter.unusedVariables false
set_option linter.unusedSimpArgs false
namespace Go.Sx
open Go.Proofs
set_option maxRecDepth 100000
set_option maxHeartbeats 2000000

section
variable {h : Heap}
theorem compareEvents_c (g : Nat) : CALL prg f_impl_compareEvents #[.map (some g)] (fun u h' => ∃ gc, u = .func (.func f_impl_compareEvents_c1) #[] #[.pointer (some ⟨gc, 0, none⟩)] ∧ h.size ≤ gc ∧ cell h' ⟨gc, 0, none⟩ = some (.map (some g)) ∧ Ext h h') h :=
  impl_compareEvents.call ((Mem.start h).alc fun g1 h1 x1 M => ⟨g1, rfl, (M.at_ _ (.head _)).1, M.cell .here 0, x1⟩)
theorem cell_ext {h h' : Heap} {a : Addr} {v : Value} (e : cell h a = some v) (x : Ext h h') : cell h' a = some v := x.cell e
theorem compare_c1_c {es : List GEvent} {gc g : Nat} {ca cb : Array Value} {x y : GEvent} (hc : cell h ⟨gc, 0, none⟩ = some (.map (some g))) (M0 : MapI h g (ownM es)) (Rx : rEvent.rd h ca.toList x) (Ry : rEvent.rd h cb.toList y) :
    CALL prg f_impl_compareEvents_c1 #[.agg ca, .agg cb, .pointer (some ⟨gc, 0, none⟩)] (fun u h' => u = .int .i64 (cmpL (keyM es x) (keyM es y)) ∧ Ext h h') h := by
  have z : (⟨Z_4_int64⟩ : Array Value) = keyV [0, 0, 0, 0] := by rfl
  refine impl_compareEvents_c1.call ?_
  rw [impl_compareEvents_c1.S, z]
  refine alcR Rx fun g1 h1 x1 A => alcR (rEvent.ext x1 Ry) fun g3 h4 x4 B => ?_
  have A := A.ext x4
  have X0 := x1.trans x4
  have hcc := cell_ext hc X0
  have MM := M0.ext X0
  clear hc M0 Rx Ry
  refine A.lda1 rfl fun a5 R5 => ?_
  rw [hcc]
  refine B.lda1 rfl fun a7 R7 => ?_
  have pt : ∀ {hx : Heap} {L : List Blk} {p : Prop}, Mem h4 hx L → p → PIN h4 ⟨gc, 0, none⟩ 1 hx p := fun M H => pin M.ext (fun j hj => ⟨.map (some g), by rw [show j = 0 by omega, add0]; exact hcc⟩) H
  have pa : ∀ {hx : Heap} {L : List Blk} {p : Prop}, Mem h4 hx L → p → PIN h4 ⟨g1, 0, none⟩ 6 hx p := fun M H => A.pin0 (by decide) M.ext H
  have pb : ∀ {hx : Heap} {L : List Blk} {p : Prop}, Mem h4 hx L → p → PIN h4 ⟨g3, 0, none⟩ 6 hx p := fun M H => B.pin0 (by decide) M.ext H
  have oa : ∀ {hx : Heap} {L : List Blk} {K : Array Value → Heap → Prop}, Mem h4 hx L → (∀ h', Mem h4 h' L → K (keyV (keyM es x)) h') → CALL prg f_impl_Event_order #[.agg a5, .map (some g)] (fun q h' => asA q fun a => K a h') hx := fun M H => goM M (order_c (rEvent.ext M.ext R5) (MM.ext M.ext)) fun h' M' => as_a (H h' M')
  have ob : ∀ {hx : Heap} {L : List Blk} {K : Array Value → Heap → Prop}, Mem h4 hx L → (∀ h', Mem h4 h' L → K (keyV (keyM es y)) h') → CALL prg f_impl_Event_order #[.agg a7, .map (some g)] (fun q h' => asA q fun a => K a h') hx := fun M H => goM M (order_c (rEvent.ext M.ext R7) (MM.ext M.ext)) fun h' M' => as_a (H h' M')
  have fin : ∀ {hx : Heap} {L : List Blk} {ga gb : Nat}, Mem h4 hx L → Look L ga (keyV (keyM es x)) → Look L gb (keyV (keyM es y)) →
      CALL prg f_slices_Compare_sl_int64_int64 #[.slice (some (slP ⟨ga, 0, none⟩ 4 0 1)) (4 - 0) (4 - 0), .slice (some (slP ⟨gb, 0, none⟩ 4 0 1)) (4 - 0) (4 - 0)] (fun q h' => asI .i64 q fun n => (Value.int .i64 n = .int .i64 (cmpL (keyM es x) (keyM es y)) ∧ Ext h h')) hx := fun M l1 l2 => by
    rw [slP_zero, slP_zero]
    exact goE (X0.trans M.ext) (Compare_c (M.slI l1 (show 4 ≤ maxLen by decide)) (M.slI l2 (show 4 ≤ maxLen by decide))) fun h' x' => as_i ⟨rfl, x'⟩
  have kx : (keyM es x).length = 4 := rfl
  have ky : (keyM es y).length = 4 := rfl
  have st : ∀ {hx : Heap} {L L' : List Blk} {gq : Nat} {k : List Int} {K : Heap → Prop}, Mem h4 hx L → k.length = 4 → Look L gq (keyV [0, 0, 0, 0]) → Upd L gq (keyV k) L' → (∀ h', Mem h4 h' L' → K h') → STA 4 hx ⟨gq, 0, none⟩ (keyV k) K := fun M hk l u H => M.sta0 l (by rw [keyV_size, hk]) (keyV_one _) rfl u H
  have M := Mem.start h4
  show _ ∧ _
  (repeat' (first
    | with_reducible refine And.intro ?_ ?_
    | with_reducible refine Mem.alc (by assumption) fun _ _ _ _ => ?_
    | with_reducible refine pt (by assumption) ?_
    | with_reducible refine pb (by assumption) ?_
    | with_reducible refine pa (by assumption) ?_
    | with_reducible refine oa (by assumption) fun _ _ => ?_
    | with_reducible refine ob (by assumption) fun _ _ => ?_
    | with_reducible refine slb (by decide) (by decide) (by decide) ?_
    | with_reducible refine st (by assumption) (by first | exact kx | exact ky) (by first | exact .here | exact .there .here) (by first | exact .here | exact .there .here) fun _ _ => ?_
    | with_reducible exact fin (by assumption) (by first | exact .here | exact .there .here) (by first | exact .here | exact .there .here)))
end
end Go.Sx
/- The program: which events are good, which scores. -/
set_option linter.unusedVariables false
set_option linter.unusedSimpArgs false
namespace Go.Sx
open Go.Proofs
set_option maxRecDepth 100000
set_option maxHeartbeats 2000000

noncomputable def GScore.ok (s : GScore) : Bool := inside s.Rate 1065353216 1232348160 && s.Tuning.ok && (decide (s.Instruments.length ≤ 6) && instOk s.Instruments) && evOk s.Events s.Instruments.length
section
variable {h : Heap}
theorem length_Event_c (b : Option Addr) (l c : Nat) : Ret prg f_impl_length_impl_Event #[.slice b l c] (.int .i64 l) := fun h => impl_length_impl_Event.call ⟨rfl, Ext.refl _⟩
theorem isKey_c (k : Int) : Ret prg f_impl_isKey #[.int .i64 k] (.bool (inR k (-100) 100)) := fun h => impl_isKey.call ((within_c _ _ _).go fun h1 x1 => as_b ⟨rfl, x1⟩)
end
end Go.Sx
/- What pipes do, plain. -/
set_option linter.unusedVariables false
set_option linter.unusedSimpArgs false
namespace Go.Sx
def one32 : Nat := 1065353216
def neg32 : Nat := 3212836864
def GPipe.n (x : GPipe) : Nat := x.Right.length
def GPipe.d (x : GPipe) (b : Nat) : Nat := fsub .f32 x.Left[0]!.old b
def GPipe.t (x : GPipe) (i : Nat) : Nat := fmul .f32 x.Scatter[i]! (fsub .f32 x.Right[i]!.old x.Left[i + 1]!.old)
def GPipe.e (x : GPipe) : GFilter × Nat := x.End.step x.Right[x.n - 1]!.old
def GPipe.back (x : GPipe) : Nat := let b := fmul .f32 x.Loss x.e.2; if x.Open then fneg .f32 b else b
def GPipe.reed (x : GPipe) (d : Nat) : Nat := clamp (fadd .f32 x.Rest (fmul .f32 x.Slope d)) one32
def GPipe.rt (x : GPipe) (b : Nat) (i : Nat) : GRing := x.Right[i]!.push (kept (if i = 0 then fadd .f32 b (fmul .f32 (x.d b) (x.reed (x.d b))) else fadd .f32 x.Right[i - 1]!.old (x.t (i - 1))))
def GPipe.lf (x : GPipe) (i : Nat) : GRing := x.Left[i]!.push (kept (if i = x.n - 1 then x.back else fadd .f32 x.Left[i + 1]!.old (x.t i)))
/-- A step: the pipe behind it, and what comes out. -/
def GPipe.step (x : GPipe) (b : Nat) : GPipe × Nat := ({ x with Right := (List.range x.n).map (x.rt b), Left := (List.range x.n).map x.lf, End := x.e.1 }, x.e.2)
def GPipe.ok (x : GPipe) : Bool :=
  inR x.n 1 3 && decide (x.Left.length = x.n) && decide (x.Scatter.length + 1 = x.n) && x.Right.all GRing.okf && x.Left.all GRing.okf && ((List.range x.n).all fun i => x.Right[i]!.Samples.length == x.Left[i]!.Samples.length) &&
    (x.Scatter.all fun k => inside k neg32 one32) && x.End.ok && (x.End.Kind == 1) && fin x.Loss && fin x.Rest && fin x.Slope
def GPipe.play (x : GPipe) : List Nat → GPipe × List Nat
  | [] => (x, [])
  | a :: l => let y := x.step a; let r := y.1.play l; (r.1, y.2 :: r.2)
end Go.Sx
/- Bodies of voices: none there, or good ones. -/
set_option linter.unusedVariables false
set_option linter.unusedSimpArgs false
namespace Go.Sx
open Go.Proofs
set_option maxRecDepth 100000
set_option maxHeartbeats 1000000

section
variable {h : Heap} {q : Addr}
def GString.ok (x : GString) : Bool := x.Loop.ok && (x.Tune.ok && x.Tune.Kind == 3) && (x.Damp.ok && x.Damp.Kind == 2) && fin x.Loss
def GBow.ok (x : GBow) : Bool := x.Neck.okf && x.Bridge.okf && (x.Damp.ok && x.Damp.Kind == 1) && (fin x.Slope && fin x.Loss)
end
end Go.Sx
/- Voices: the rule's and the program's. -/
set_option linter.unusedVariables false
set_option linter.unusedSimpArgs false
namespace Go.Sx
open Go.Proofs
set_option maxRecDepth 100000
set_option maxHeartbeats 2000000

noncomputable def freeOk (v : GVoice) : Bool := same v.String z_String && same v.Pipe z_Pipe && same v.Bow z_Bow && (v.Instrument == 0) && (v.Born == 0) && !v.Gone && (v.Drive == 0)
noncomputable def bodyOk (s : GScore) (v : GVoice) : Bool :=
  if s.Instruments[v.Instrument.toNat]!.Kind = 1 then v.String.ok && same v.Pipe z_Pipe && same v.Bow z_Bow else if s.Instruments[v.Instrument.toNat]!.Kind = 2 then same v.String z_String && v.Pipe.ok && same v.Bow z_Bow else same v.String z_String && same v.Pipe z_Pipe && v.Bow.ok
noncomputable def voiceOk (s : GScore) (v : GVoice) : Bool := if v.Note = -1 then freeOk v else match startEv s.Events v.Note with | none => false | some e => (e.Instrument == v.Instrument) && (e.At == v.Born) && fin v.Drive && bodyOk s v
theorem first_cases {α : Type} [Inhabited α] (p : α → Bool) (l : List α) : (firstAt p l = -1 ∧ ∀ i, i < l.length → p l[i]! = false) ∨ ∃ n : Nat, n < l.length ∧ firstAt p l = n ∧ (∀ i, i < n → p l[i]! = false) ∧ p l[n]! = true := by
  unfold firstAt
  by_cases h : l.any p = true
  · rw [if_pos h]
    obtain ⟨x, hx, hp⟩ := List.any_eq_true.1 h
    have hlt : l.findIdx p < l.length := List.findIdx_lt_length_of_exists ⟨x, hx, hp⟩
    refine .inr ⟨l.findIdx p, hlt, rfl, fun i hi => ?_, ?_⟩
    · rw [getElem!_pos l i (by omega)]
      have := List.not_of_lt_findIdx hi
      simpa using this
    · rw [getElem!_pos l _ hlt]
      exact List.findIdx_getElem (w := hlt)
  · rw [if_neg h]
    refine .inl ⟨rfl, fun i hi => ?_⟩
    rw [getElem!_pos l i hi]
    rw [Bool.not_eq_true, List.any_eq_false] at h
    have := h _ (List.getElem_mem hi)
    simpa using this
theorem score_ev {s : GScore} (h : s.ok = true) : EvGood s.Events s.Instruments.length := by
  unfold GScore.ok at h
  rw [Bool.and_eq_true] at h
  exact evOk_iff.1 h.2
theorem start_ins {s : GScore} (h : s.ok = true) {n : Int} {e : GEvent} (he : startEv s.Events n = some e) : 0 ≤ e.Instrument ∧ e.Instrument < s.Instruments.length := by
  have G := score_ev h
  have hm := List.mem_of_find?_eq_some he
  have hp := List.find?_some he
  obtain ⟨i, hi, rfl⟩ := List.mem_iff_getElem.1 hm
  have := G.part i hi
  rw [getElem!_pos _ i hi] at this
  rw [Bool.and_eq_true] at hp
  have hk : (s.Events[i]).Kind = 2 := by have := hp.1; unfold isSt at this; simpa using this
  unfold evPart at this
  rw [if_neg (by omega)] at this
  simp only [Bool.and_eq_true, inR, decide_eq_true_eq] at this
  omega
section
variable {h : Heap}
theorem flat_Event : Flat rEvent := flat_via (flat_seq (flat_I _) (flat_seq (flat_I _) (flat_seq (flat_I _) (flat_seq (flat_I _) (flat_seq (flat_I _) (flat_F _))))))
/-- What a search for a note's start answers. -/
def StartR (h : Heap) (es : List GEvent) (n : Int) (u : Value) : Prop := ∃ cs : Array Value, u = .tuple ⟨[.agg cs, .bool (startEv es n).isSome]⟩ ∧ rEvent.rd h cs.toList ((startEv es n).getD z_Event)
theorem StartR.no {es : List GEvent} {n : Int} (e : startEv es n = none) : StartR h es n (.tuple ⟨[.agg ⟨[.int .i64 (0 : Int), .int .i64 (0 : Int), .int .i64 (0 : Int), .int .i64 (0 : Int), .int .i64 (0 : Int), .float .f32 0]⟩, .bool false]⟩) :=
  ⟨_, by rw [e]; rfl, by rw [e]; exact rEvent.look zow_Event (Mem.start h) (List.nil_sublist _)⟩
theorem StartR.yes {es : List GEvent} {n : Int} {e : GEvent} {cs : Array Value} {h0 : Heap} (he : startEv es n = some e) (R : rEvent.rd h0 cs.toList e) : StartR h es n (.tuple ⟨[.agg cs, .bool true]⟩) :=
  ⟨cs, by rw [he]; rfl, by rw [he]; exact rEvent.look (flat_Event _ _ _ R) (Mem.start h) (List.nil_sublist _)⟩
end
end Go.Sx
/- A line of a score compiled by the rule. -/
set_option linter.unusedVariables false
set_option linter.unusedSimpArgs false
namespace Go.Sx
open Go.Proofs
set_option maxRecDepth 100000
set_option maxHeartbeats 1000000

def ResW (h0 h' : Heap) (q : Addr) (F : Fr) (L : List Blk) (p : Nat) (r : CRes) (u : Value) : Prop := match r with
  | .ok (s', p') => u = .int .i64 0 ∧ p' = p + 1 ∧ Pt rWork h0 h' q F L s'.work
  | .error e => u = .int .i64 e ∧ e ≠ 0 ∧ Mem h0 h' L
section
variable {h0 h' : Heap} {q : Addr} {F : Fr} {L : List Blk} {r : CRes} {s' : GComp} {p : Nat} {e : Int}
theorem ResW.ok (E : r = .ok (s', p + 1)) (P : Pt rWork h0 h' q F L s'.work) : ResW h0 h' q F L p r (.int .i64 0) := by subst E; exact ⟨rfl, rfl, P⟩
theorem ResW.err (E : r = .error e) (M : Mem h0 h' L) (he : e ≠ 0 := by decide) : ResW h0 h' q F L p r (.int .i64 e) := by subst E; exact ⟨rfl, he, M⟩
theorem frac_open {o : Option Nat} {u : Value} (h : FracV o u) : ∃ x a, u = .tuple ⟨[.float .f32 x, .bool o.isSome]⟩ ∧ FW .f32 x a ∧ ∀ b, o = some b → a = b := by
  cases o with
  | none => obtain ⟨x, rfl, hx⟩ := h; exact ⟨x, x, rfl, hx, fun b e => by cases e⟩
  | some a => obtain ⟨x, rfl, hx⟩ := h; exact ⟨x, a, rfl, hx, fun b e => by cases e; rfl⟩
theorem none_of {α : Type} {o : Option α} (h : o.isSome = false) : o = none := by cases o with | none => rfl | some a => cases h
theorem some_of {α : Type} {o : Option α} (h : o.isSome = true) : ∃ a, o = some a := by cases o with | none => cases h | some a => exact ⟨a, rfl⟩
theorem brw {a : List UInt8} {b : ByteArray} {p q : Prop} (w : List UInt8) (e : b = mkB w) (ht : a = w → p) (hf : a ≠ w → q) : BIF (ByteArray.toList (mkB a) == ByteArray.toList b) p q := by
  rw [e, mkb_toList]
  exact brd ht hf
theorem ins_nil {cs : Array Value} {zs : List Value} (hs : cs.size = 5) (hz : zs.length = 5 := by rfl) : (⟨splice 0 5 cs zs⟩ : Array Value) = cs := by
  rw [splice_all (n := 5) hz]
end
theorem inst_ow {s : ByteArray} {k : Int} {x y z a b c : Nat} (hs : s.size ≤ maxLen) (h1 : FW .f32 x a) (h2 : FW .f32 y b) (h3 : FW .f32 z c) : rInstrument.ow [] [.string s, .int .i64 k, .float .f32 x, .float .f32 y, .float .f32 z] ⟨s, k, a, b, c⟩ :=
  ⟨[], [], [_], [_, _, _, _], rfl, rfl, ⟨rfl, rfl, hs⟩, [], [], [_], [_, _, _], rfl, rfl, ⟨rfl, rfl⟩, [], [], [_], [_, _], rfl, rfl, ⟨rfl, x, rfl, h1⟩, [], [], [_], [_], rfl, rfl, ⟨rfl, y, rfl, h2⟩, rfl, z, rfl, h3⟩
section
variable {h0 h : Heap} {q : Addr} {F : Fr} {L : List Blk} {s : GComp} {p : Nat}
theorem ins_max {n : Nat} (h : n ≤ 100) : n + 2 ≤ maxLen ∧ (n + 2) * 64 ≤ 140737488355328 := ⟨Nat.le_trans (show n + 2 ≤ 128 by omega) (by decide), by omega⟩
/-- The third number of an instrument. -/
def thirdO (kind : Int) (w : List UInt8) : Option Nat := if kind = 2 then if w = opW then some 1065353216 else if w = clW then some 0 else none else fracL w
theorem sound_eq {kind : Int} {ws : List (List UInt8)} : s.sound p kind ws = match fracL ws[2]!, fracL ws[3]!, thirdO kind ws[4]! with
  | some a, some b, some c => if nameOk (mkB ws[1]!) then s.add p ⟨mkB ws[1]!, kind, a, b, c⟩ else .error 5
  | _, _, _ => .error 5 := rfl
theorem sound_bad {kind : Int} {ws : List (List UInt8)} (h : nameOk (mkB ws[1]!) = false ∨ fracL ws[2]! = none ∨ fracL ws[3]! = none ∨ thirdO kind ws[4]! = none) : s.sound p kind ws = .error 5 := by
  rw [sound_eq]
  rcases h with h | h | h | h
  · rw [h]; split <;> rfl
  · rw [h]
  · rw [h]; cases fracL ws[2]! <;> rfl
  · rw [h]; cases fracL ws[2]! <;> cases fracL ws[3]! <;> rfl
end
end Go.Sx
