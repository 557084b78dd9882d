/- The program's order of events: the starts in a map, an event's key, the comparison of two. -/
import Derived.Test.YtnhcoeogejgidadGreatDoorLk25
set_option linter.unusedVariables false
set_option linter.unusedSimpArgs false
namespace Go.Sx
open Go.Proofs
set_option maxRecDepth 100000
set_option maxHeartbeats 1000000

theorem UM_ii : prg.underlying T_map_int64_int64 = some (.map T_int64 T_int64) := by kernel_rfl
theorem UM_ib : prg.underlying T_map_int64_bool = some (.map T_int64 T_bool) := by kernel_rfl
theorem zero_of {P : Program} {t : TypeId} {z : Value} (h : (P.info? t).bind (·.zero) = some z) (w : World) : (zeroValue t).run P w = .ok z w := by
  cases e : P.info? t with
  | none => rw [e] at h; cases h
  | some i =>
    rw [e] at h
    have h : i.zero = some z := h
    simp [zeroValue, typeInfo, e, h]
theorem zero_int64 (w : World) : (zeroValue T_int64).run prg w = .ok (.int .i64 0) w := zero_of (by kernel_rfl) w
theorem zero_bool (w : World) : (zeroValue T_bool).run prg w = .ok (.bool false) w := zero_of (by kernel_rfl) w
section
variable {h : Heap}
theorem starts_c {b : Option Addr} {l c : Nat} {es : List GEvent} (S : SlR rEvent h b l c es) : CALL prg f_impl_starts #[.slice b l c] (fun u h' => ∃ g, u = .map (some g) ∧ h.size ≤ g ∧ MapI h' g (ownM es) ∧ Ext h h') h := by
  have hm2 := S.2.2.1
  have hm3 := S.2.1
  have := maxLen_lt
  have hl := S.len
  refine impl_starts.call (make_map fun g h1 x1 hg M => ?_)
  refine loop (fun x hh => ∃ n : Nat, x = (.map (some g), b, l, c, (l : Int), (n : Int)) ∧ n ≤ l ∧ Ext h hh ∧ MapI hh g (ownM (es.take n))) (fun x => (l - x.2.2.2.2.2).toNat) ⟨0, rfl, by omega, x1, by rw [List.take_zero]; exact M⟩ ?_
  rintro x hh ⟨n, rfl, hn, X, M⟩
  refine brd (fun hc => ?_) fun hc => ⟨g, rfl, by omega, by rw [List.take_of_length_le (by omega)] at M; exact M, X⟩
  have hs := ownM_succ (es := es) (i := n) (by omega)
  refine (S.ext X).idn ev_sz (by omega) fun a Ra => Ra.lda1 rfl fun cs Rc => localR Rc rfl rfl fun g1 h2 x2 R => R.oI2 (br (fun k => ?_) fun k => ?_)
  · rw [if_pos (show isSt es[n]! = true from k)] at hs
    refine R.oI2 (R.oI2 (put_map (M.ext x2) (X.trans x2) (by omega) UM_ii U_int64 _ _ fun q h3 x3 M3 _ => ⟨⟨n + 1, by rw [wrap64_succ (by omega)], by omega, x3, by rw [hs]; exact M3⟩, by rw [wrap64_succ (by omega)]; show _ < _; simp; omega⟩))
  · rw [if_neg (by rw [show isSt es[n]! = false from k]; decide)] at hs
    exact ⟨⟨n + 1, by rw [wrap64_succ (by omega)], by omega, X.trans x2, by rw [hs]; exact M.ext x2⟩, by rw [wrap64_succ (by omega)]; show _ < _; simp; omega⟩
theorem order_c {cs : Array Value} {e : GEvent} {g : Nat} {es : List GEvent} (R : rEvent.rd h cs.toList e) (M : MapI h g (ownM es)) : CALL prg f_impl_Event_order #[.agg cs, .map (some g)] (fun u h' => u = .agg (keyV (keyM es e)) ∧ Ext h h') h := by
  have z : (⟨Z_4_int64⟩ : Array Value) = keyV [0, 0, 0, 0] := by rfl
  have fin : ∀ {h1 h2 : Heap} {g1 g3 : Nat} {late stop : Int}, Ext h h1 → Mem h1 h2 [(g3, T_4_int64, keyV [0, 0, 0, 0])] → RdP rEvent h2 ⟨g1, 0, none⟩ e → [e.At, late, e.Note, stop] = keyM es e → impl_Event_order.J7 (fun u h' => u = .agg (keyV (keyM es e)) ∧ Ext h h') ⟨g1, 0, none⟩ ⟨g3, 0, none⟩ late stop h2 := fun {h1 h2 g1 g3 late stop} X M R k => by
    unfold impl_Event_order.J7
    refine R.oI1 (R.oI (M.sta0 .here (vs := keyV [e.At, late, e.Note, stop]) rfl (keyV_one _) rfl .here fun h6 M => M.lda0 .here rfl ⟨by rw [k], X.trans M.ext⟩))
  refine impl_Event_order.call ?_
  rw [impl_Event_order.S, z]
  refine alcR R fun g1 h1 x1 R1 => (Mem.start h1).alc fun g3 h2 x2 M2 => (R1.ext x2).oI2 (br (fun k => ?_) fun k => ?_)
  · have hk : e.Kind = 1 := by simpa using k
    have hp : isSp e = true := k
    have hf := ownM_find es e.Note
    have hM := M.ext (x1.trans x2)
    cases ho : ownA es e.Note with
    | none =>
      rw [ho] at hf
      refine (R1.ext x2).oI2 (look_map hM UM_ii U_int64 zero_int64 _ ?_)
      rw [show mfind (ownM es) e.Note = none from hf]
      refine tup2 (as_i (as_b (br_f rfl (fin x1 M2 (R1.ext x2) ?_))))
      rw [keyM, lateM, hp, ho, keyL, if_pos hk]; rfl
    | some a =>
      rw [ho] at hf
      refine (R1.ext x2).oI2 (look_map hM UM_ii U_int64 zero_int64 _ ?_)
      rw [show mfind (ownM es) e.Note = some (.int .i64 a) from hf]
      refine tup2 (as_i (as_b (br_t rfl ((R1.ext x2).oI2 (brd (fun k2 => fin x1 M2 (R1.ext x2) ?_) fun k2 => fin x1 M2 (R1.ext x2) ?_)))))
      · rw [keyM, lateM, hp, ho, keyL, if_pos hk]
        show _ = [e.At, if (true && decide (a < e.At)) = true then 0 else 1, e.Note, 1]
        rw [decide_eq_true k2]; rfl
      · rw [keyM, lateM, hp, ho, keyL, if_pos hk]
        show _ = [e.At, if (true && decide (a < e.At)) = true then 0 else 1, e.Note, 1]
        rw [decide_eq_false k2]; rfl
  · have hk : ¬ e.Kind = 1 := by simpa using k
    have hp : isSp e = false := k
    refine fin x1 M2 (R1.ext x2) ?_
    rw [keyM, lateM, hp, keyL, if_neg hk]; rfl
def cmp3 (x y : Int) : Int := if x < y then -1 else if y < x then 1 else 0
noncomputable def cmpL (a b : List Int) : Int := if lt4 a b = true then -1 else @ite _ (a = b) (Classical.propDecidable _) 0 1
theorem cmpL_ge (a b : List Int) : decide (0 ≤ cmpL a b) = !lt4 a b := by
  unfold cmpL
  cases lt4 a b with
  | true => rfl
  | false =>
    rw [if_neg (by decide)]
    split <;> rfl
theorem cmp_Compare_c (x y : Int) : Ret prg f_cmp_Compare_int64 #[.int .i64 x, .int .i64 y] (.int .i64 (cmp3 x y)) := fun h => by
  have nan : ∀ (x : Int) h, CALL prg f_cmp_isNaN_int64 #[.int .i64 x] (fun u h' => u = .bool false ∧ Ext h h') h := fun x h => cmp_isNaN_int64.call ⟨by simp, Ext.refl _⟩
  refine cmp_Compare_int64.call (goX (nan x h) fun h1 x1 => as_b (goX (nan y h1) fun h2 x2 => as_b (br_f rfl (br_f rfl (brd (fun k => ⟨by rw [cmp3, if_pos k], x1.trans x2⟩) fun k => brd (fun k2 => ⟨by rw [cmp3, if_neg k, if_pos k2], x1.trans x2⟩) fun k2 => ⟨by rw [cmp3, if_neg k, if_neg k2], x1.trans x2⟩)))))
theorem Compare_c {b1 b2 : Option Addr} {l c1 c2 : Nat} {xs ys : List Int} (S1 : SlR (rI .i64) h b1 l c1 xs) (S2 : SlR (rI .i64) h b2 l c2 ys) : CALL prg f_slices_Compare_sl_int64_int64 #[.slice b1 l c1, .slice b2 l c2] (fun u h' => u = .int .i64 (cmpL xs ys) ∧ Ext h h') h := by
  have hm2 := S1.2.2.1
  have hm3 := S1.2.1
  have := maxLen_lt
  have e1 := S1.len
  have e2 := S2.len
  refine slices_Compare_sl_int64_int64.call ?_
  refine loop (fun x hh => ∃ n : Nat, x = (b1, l, c1, b2, l, c2, b1, l, c1, (l : Int), (n : Int)) ∧ n ≤ l ∧ Ext h hh ∧ ∀ i, i < n → xs[i]! = ys[i]!) (fun x => (l - x.2.2.2.2.2.2.2.2.2.2).toNat) ⟨0, rfl, by omega, Ext.refl _, fun i hi => by omega⟩ ?_
  rintro x hh ⟨n, rfl, hn, X, hs⟩
  refine brd (fun hc => ?_) fun hc => ?_
  · refine (S1.ext X).idn (by decide) (by omega) fun a Ra => Ra.oI1 (brd (fun k => by omega) fun _ => (S2.ext X).idn (by decide) (by omega) fun a' Rb => Rb.oI1 (goE X (cmp_Compare_c _ _ _) fun h2 x2 => as_i (br (fun k => ⟨?_, x2⟩) fun k => ?_)))
    · have hne : xs[n]! ≠ ys[n]! := fun e => by
        rw [cmp3, e, if_neg (by omega), if_neg (by omega)] at k; cases k
      rw [cmpL, lt4_at (n := n) (by omega) (by omega) hs hne, cmp3]
      have hab : ¬ xs = ys := fun e => hne (by rw [e])
      by_cases hlt : xs[n]! < ys[n]!
      · rw [if_pos hlt, if_pos (by rw [decide_eq_true hlt])]
      · rw [if_neg hlt, if_pos (by omega), if_neg (by rw [decide_eq_false hlt]; decide), if_neg hab]
    · have he : xs[n]! = ys[n]! := by
        unfold cmp3 at k
        by_cases h1 : xs[n]! < ys[n]!
        · rw [if_pos h1] at k; cases k
        · by_cases h2 : ys[n]! < xs[n]!
          · rw [if_neg h1, if_pos h2] at k; cases k
          · omega
      refine ⟨⟨n + 1, by rw [wrap64_succ (by omega)], by omega, x2, fun i hi => ?_⟩, by rw [wrap64_succ (by omega)]; show _ < _; simp; omega⟩
      by_cases e : i = n
      · subst e; exact he
      · exact hs i (by omega)
  · have hxy : xs = ys := lt4_same (by omega) fun i hi => hs i (by omega)
    subst hxy
    refine brd (fun k => by omega) fun _ => ⟨?_, X⟩
    rw [cmpL, lt4_irrefl, if_neg (by decide), if_pos rfl]
theorem Mem.slI {h0 : Heap} {L : List Blk} {g : Nat} {ks : List Int} (M : Mem h0 h L) (l : Look L g (keyV ks)) (hn : ks.length ≤ maxLen) : SlR (rI .i64) h (some ⟨g, 0, none⟩) ks.length ks.length ks := by
  refine ⟨rfl, Nat.le_refl _, hn, (keyV ks).toList, fun i hi => ⟨_, rfl, ?_⟩, ?_⟩
  · rw [add_none, Nat.zero_add, M.cell l, Array.getElem?_toList]
  · show rds (rI .i64) h (ks.map (.int .i64)) ks
    clear hn l
    induction ks with
    | nil => rfl
    | cons k ks ih => exact ⟨[.int .i64 k], _, rfl, rfl, ih⟩
end
end Go.Sx
/- The program's comparison of two events. -/
set_option linter.unusedVariables false
set_option linter.unusedSimpArgs false
namespace Go.Sx
open Go.Proofs
set_option maxRecDepth 100000
set_option maxHeartbeats 2000000

section
variable {h : Heap}
theorem compareEvents_c (g : Nat) : CALL prg f_impl_compareEvents #[.map (some g)] (fun u h' => ∃ gc, u = .func (.func f_impl_compareEvents_c1) #[] #[.pointer (some ⟨gc, 0, none⟩)] ∧ h.size ≤ gc ∧ cell h' ⟨gc, 0, none⟩ = some (.map (some g)) ∧ Ext h h') h :=
  impl_compareEvents.call ((Mem.start h).alc fun g1 h1 x1 M => ⟨g1, rfl, (M.at_ _ (.head _)).1, M.cell .here 0, x1⟩)
theorem cell_ext {h h' : Heap} {a : Addr} {v : Value} (e : cell h a = some v) (x : Ext h h') : cell h' a = some v := x.cell e
theorem compare_c1_c {es : List GEvent} {gc g : Nat} {ca cb : Array Value} {x y : GEvent} (hc : cell h ⟨gc, 0, none⟩ = some (.map (some g))) (M0 : MapI h g (ownM es)) (Rx : rEvent.rd h ca.toList x) (Ry : rEvent.rd h cb.toList y) :
    CALL prg f_impl_compareEvents_c1 #[.agg ca, .agg cb, .pointer (some ⟨gc, 0, none⟩)] (fun u h' => u = .int .i64 (cmpL (keyM es x) (keyM es y)) ∧ Ext h h') h := by
  have z : (⟨Z_4_int64⟩ : Array Value) = keyV [0, 0, 0, 0] := by rfl
  refine impl_compareEvents_c1.call ?_
  rw [impl_compareEvents_c1.S, z]
  refine alcR Rx fun g1 h1 x1 A => alcR (rEvent.ext x1 Ry) fun g3 h4 x4 B => ?_
  have A := A.ext x4
  have X0 := x1.trans x4
  have hcc := cell_ext hc X0
  have MM := M0.ext X0
  clear hc M0 Rx Ry
  refine A.lda1 rfl fun a5 R5 => ?_
  rw [hcc]
  refine B.lda1 rfl fun a7 R7 => ?_
  have pt : ∀ {hx : Heap} {L : List Blk} {p : Prop}, Mem h4 hx L → p → PIN h4 ⟨gc, 0, none⟩ 1 hx p := fun M H => pin M.ext (fun j hj => ⟨.map (some g), by rw [show j = 0 by omega, add0]; exact hcc⟩) H
  have pa : ∀ {hx : Heap} {L : List Blk} {p : Prop}, Mem h4 hx L → p → PIN h4 ⟨g1, 0, none⟩ 6 hx p := fun M H => A.pin0 (by decide) M.ext H
  have pb : ∀ {hx : Heap} {L : List Blk} {p : Prop}, Mem h4 hx L → p → PIN h4 ⟨g3, 0, none⟩ 6 hx p := fun M H => B.pin0 (by decide) M.ext H
  have oa : ∀ {hx : Heap} {L : List Blk} {K : Array Value → Heap → Prop}, Mem h4 hx L → (∀ h', Mem h4 h' L → K (keyV (keyM es x)) h') → CALL prg f_impl_Event_order #[.agg a5, .map (some g)] (fun q h' => asA q fun a => K a h') hx := fun M H => goM M (order_c (rEvent.ext M.ext R5) (MM.ext M.ext)) fun h' M' => as_a (H h' M')
  have ob : ∀ {hx : Heap} {L : List Blk} {K : Array Value → Heap → Prop}, Mem h4 hx L → (∀ h', Mem h4 h' L → K (keyV (keyM es y)) h') → CALL prg f_impl_Event_order #[.agg a7, .map (some g)] (fun q h' => asA q fun a => K a h') hx := fun M H => goM M (order_c (rEvent.ext M.ext R7) (MM.ext M.ext)) fun h' M' => as_a (H h' M')
  have fin : ∀ {hx : Heap} {L : List Blk} {ga gb : Nat}, Mem h4 hx L → Look L ga (keyV (keyM es x)) → Look L gb (keyV (keyM es y)) →
      CALL prg f_slices_Compare_sl_int64_int64 #[.slice (some (slP ⟨ga, 0, none⟩ 4 0 1)) (4 - 0) (4 - 0), .slice (some (slP ⟨gb, 0, none⟩ 4 0 1)) (4 - 0) (4 - 0)] (fun q h' => asI .i64 q fun n => (Value.int .i64 n = .int .i64 (cmpL (keyM es x) (keyM es y)) ∧ Ext h h')) hx := fun M l1 l2 => by
    rw [slP_zero, slP_zero]
    exact goE (X0.trans M.ext) (Compare_c (M.slI l1 (show 4 ≤ maxLen by decide)) (M.slI l2 (show 4 ≤ maxLen by decide))) fun h' x' => as_i ⟨rfl, x'⟩
  have kx : (keyM es x).length = 4 := rfl
  have ky : (keyM es y).length = 4 := rfl
  have st : ∀ {hx : Heap} {L L' : List Blk} {gq : Nat} {k : List Int} {K : Heap → Prop}, Mem h4 hx L → k.length = 4 → Look L gq (keyV [0, 0, 0, 0]) → Upd L gq (keyV k) L' → (∀ h', Mem h4 h' L' → K h') → STA 4 hx ⟨gq, 0, none⟩ (keyV k) K := fun M hk l u H => M.sta0 l (by rw [keyV_size, hk]) (keyV_one _) rfl u H
  have M := Mem.start h4
  show _ ∧ _
  (repeat' (first
    | with_reducible refine And.intro ?_ ?_
    | with_reducible refine Mem.alc (by assumption) fun _ _ _ _ => ?_
    | with_reducible refine pt (by assumption) ?_
    | with_reducible refine pb (by assumption) ?_
    | with_reducible refine pa (by assumption) ?_
    | with_reducible refine oa (by assumption) fun _ _ => ?_
    | with_reducible refine ob (by assumption) fun _ _ => ?_
    | with_reducible refine slb (by decide) (by decide) (by decide) ?_
    | with_reducible refine st (by assumption) (by first | exact kx | exact ky) (by first | exact .here | exact .there .here) (by first | exact .here | exact .there .here) fun _ _ => ?_
    | with_reducible exact fin (by assumption) (by first | exact .here | exact .there .here) (by first | exact .here | exact .there .here)))
end
end Go.Sx
/- The rule: which lists of events are good. -/
set_option linter.unusedVariables false
set_option linter.unusedSimpArgs false
namespace Go.Sx
open Go.Proofs
set_option maxRecDepth 100000
set_option maxHeartbeats 1000000

/-- How many of the first i events are of a kind, note by note. -/
def cntL (p : GEvent → Bool) (es : List GEvent) (i m : Nat) : List Int := (List.range m).map fun k : Nat => ((cntB p es i (k : Int) : Nat) : Int)
theorem cntL_len (p : GEvent → Bool) (es : List GEvent) (i m : Nat) : (cntL p es i m).length = m := by unfold cntL; simp
theorem cntL_at {p : GEvent → Bool} {es : List GEvent} {i m : Nat} {k : Int} (h1 : 0 ≤ k) (h2 : k < m) : (cntL p es i m)[k.toNat]! = (cntB p es i k : Int) := by
  have e : ((k.toNat : Nat) : Int) = k := by omega
  rw [getElem!_pos (cntL p es i m) k.toNat (by rw [cntL_len]; omega)]
  unfold cntL
  simp [e]
theorem cntL_get {p : GEvent → Bool} {es : List GEvent} {i m k : Nat} (h : k < (cntL p es i m).length) : (cntL p es i m)[k] = ((cntB p es i (k : Int) : Nat) : Int) := by
  simp [cntL]
theorem cntL_hit {p : GEvent → Bool} {es : List GEvent} {i m : Nat} (hi : i < es.length) (hp : p es[i]! = true) (h1 : 0 ≤ es[i]!.Note) (h2 : es[i]!.Note < m) : (cntL p es i m).set es[i]!.Note.toNat ((cntB p es i es[i]!.Note : Int) + 1) = cntL p es (i + 1) m := by
  apply List.ext_getElem
  · rw [List.length_set, cntL_len, cntL_len]
  intro k k1 k2
  rw [cntL_len] at k2
  rw [List.getElem_set]
  rw [cntL_get, cntL_get, cntB_succ p hi, hp, Bool.true_and]
  split
  · next e =>
    have : es[i]!.Note = (k : Int) := by omega
    rw [this]; simp
  · next e =>
    have : (es[i]!.Note == (k : Int)) = false := by rw [beq_eq_false_iff_ne]; omega
    rw [this]; simp
theorem cntL_miss {p : GEvent → Bool} {es : List GEvent} {i m : Nat} (hi : i < es.length) (hp : p es[i]! = false) : cntL p es (i + 1) m = cntL p es i m := by
  unfold cntL
  congr 1
  funext k
  rw [cntB_succ p hi, hp, Bool.false_and]; simp
theorem cntL_zero (p : GEvent → Bool) (es : List GEvent) (m : Nat) : (⟨(List.replicate m [Value.int .i64 0]).flatten⟩ : Array Value) = keyV (cntL p es 0 m) := by
  unfold keyV cntL
  congr 1
  induction m with
  | zero => rfl
  | succ m ih =>
    rw [List.replicate_succ', List.flatten_append, ih, List.range_succ]
    simp [cntB_zero]
section
variable {h0 h hb : Heap} {g n : Nat} {L L' : List Blk} {xs : List Int} {k : Int}
theorem arrAt {F : Int → Prop} (M : Mem h0 h L) (l : Look L g (keyV xs)) (h1 : 0 ≤ k) (h2 : k < n) (hn : xs.length = n) (H : F xs[k.toNat]!) : IDXS (some ⟨g, 0, none⟩) k n fun p => oI .i64 (cell h (p.add (k.toNat * 1))) F := by
  refine idxs h1 h2 ?_
  rw [Nat.mul_one, add_none, Nat.zero_add]
  exact M.oI l (keyV_get (by omega)) H
theorem arrSt {F : Heap → Prop} {v : Int} (M : Mem h0 h L) (l : Look L g (keyV xs)) (h1 : 0 ≤ k) (h2 : k < n) (hn : xs.length = n) (u : Upd L g (keyV (xs.set k.toNat v)) L') (H : ∀ h', Mem h0 h' L' → F h') : IDXS (some ⟨g, 0, none⟩) k n fun p => ST1 h (p.add (k.toNat * 1)) (.int .i64 v) F := by
  refine idxs h1 h2 ?_
  rw [Nat.mul_one, add_none, Nat.zero_add]
  exact M.st1 l (by rw [keyV_size]; omega) (by rw [keyV_set]; exact u) H
theorem J28_c {N : (Option Addr × Nat × Nat × Int) → Heap → Prop} {Post : Value → Heap → Prop} {b : Option Addr} {l c i g1 : Nat} {es : List GEvent} {k1 : List Int} (S : SlR rEvent h b l c es) (hi : i < l) (M : Mem hb h [(g1, T_4_int64, keyV k1)]) (hk : k1.length = 4)
    (no : ∀ h', Ext h h' → lt4 k1 (keyOf es es[i]!) = false → Post (.bool false) h') (yes : ∀ h', Ext h h' → lt4 k1 (keyOf es es[i]!) = true → N (b, l, c, IntKind.i64.wrap ((i : Int) + 1)) h') :
    spec_l08Events.J28 N Post b l c (i : Int) ⟨g1, 0, none⟩ h := by
  have z : (⟨Z_4_int64⟩ : Array Value) = keyV [0, 0, 0, 0] := by rfl
  have fin : ∀ {hx hy : Heap} {g2 : Nat}, Ext h hx → Mem hx hy [(g2, T_4_int64, keyV (keyOf es es[i]!))] → spec_l08Events.J29 N Post b l c (i : Int) ⟨g1, 0, none⟩ ⟨g2, 0, none⟩ hy := fun X M2 => by
    have M1 := M.grow (X.trans M2.ext)
    refine M1.lda0 .here (by rw [keyV_size]; exact hk) (M2.lda0 .here (by rw [keyV_size]; rfl) (goE (X.trans M2.ext) (l08Less_c hk rfl) fun h3 x3 => as_b (brN (fun e => no _ x3 e) fun e => yes _ x3 e)))
  unfold spec_l08Events.J28
  rw [z]
  refine S.idn ev_sz hi fun a Ra => S.idn ev_sz hi fun a' Ra' => Ra'.oI ⟨goX (l08Start_c S _) fun h3 x3 => as_i ⟨goX (l08Key_c (Ra.ext x3) _) fun h4 x4 => as_a ((Mem.start h4).alc fun g2 h5 x5 M2 => ?_), (Mem.start h3).alc fun g2 h4 x4 M2 => ?_⟩, (Mem.start h).alc fun g2 h3 x3 M2 => ?_⟩
  · exact Ra'.pinO (by decide) ((x3.trans x4).trans x5) (M2.sta0 .here rfl (keyV_one _) rfl .here fun h6 M2 => fin (x3.trans x4) M2)
  · refine Ra'.pinO (by decide) (x3.trans x4) (goM M2 (l08Key_c (Ra.ext (x3.trans M2.ext)) _) fun h5 M2 => as_a (M2.sta0 .here rfl (keyV_one _) rfl .here fun h6 M2 => fin x3 M2))
  · exact Ra'.pinO (by decide) x3 (goM M2 (l08Start_c (S.ext M2.ext) _) fun h4 M2 => as_i (goM M2 (l08Key_c (Ra.ext M2.ext) _) fun h5 M2 => as_a (M2.sta0 .here rfl (keyV_one _) rfl .here fun h6 M2 => fin (Ext.refl _) M2)))
/-- The second loop: each event's key is less than the next one's. -/
theorem B25_c {Post : Value → Heap → Prop} {b : Option Addr} {l c : Nat} {es : List GEvent} (S : SlR rEvent h b l c es) (no : ∀ h' i, Ext h h' → i + 1 < l → lt4 (keyOf es es[i]!) (keyOf es es[i + 1]!) = false → Post (.bool false) h')
    (yes : ∀ h', Ext h h' → (∀ i, i + 1 < l → lt4 (keyOf es es[i]!) (keyOf es es[i + 1]!) = true) → Post (.bool true) h') : LOOP (spec_l08Events.B25 Post) (b, l, c, (1 : Int)) h := by
  have z : (⟨Z_4_int64⟩ : Array Value) = keyV [0, 0, 0, 0] := by rfl
  have hm2 := S.2.2.1
  have hm3 := S.2.1
  have := maxLen_lt
  refine loop (fun x hh => ∃ n : Nat, x = (b, l, c, ((n + 1 : Nat) : Int)) ∧ n ≤ l ∧ Ext h hh ∧ ∀ i, i < n → i + 1 < l → lt4 (keyOf es es[i]!) (keyOf es es[i + 1]!) = true) (fun x => (l - x.2.2.2).toNat) ⟨0, rfl, by omega, Ext.refl _, fun i hi => by omega⟩ ?_
  rintro x hh ⟨n, rfl, hn, X, hd⟩
  refine brd (fun hc => ?_) fun hc => yes _ X fun i hi => hd i (by omega) hi
  have S' := S.ext X
  have e1 : IntKind.i64.wrap (((n + 1 : Nat) : Int) - 1) = (n : Int) := by rw [wrap64 (by omega) (by omega)]; omega
  rw [e1, z]
  have fin : ∀ {hx hy : Heap} {g1 : Nat}, Ext hh hx → Mem hx hy [(g1, T_4_int64, keyV (keyOf es es[n]!))] → spec_l08Events.J28 (fun x' h' => (∃ n : Nat, x' = (b, l, c, ((n + 1 : Nat) : Int)) ∧ n ≤ l ∧ Ext h h' ∧ ∀ i, i < n → i + 1 < l → lt4 (keyOf es es[i]!) (keyOf es es[i + 1]!) = true) ∧ ((l : Int) - x'.2.2.2).toNat < ((l : Int) - ((n + 1 : Nat) : Int)).toNat) Post b l c ((n + 1 : Nat) : Int) ⟨g1, 0, none⟩ hy := fun Y M1 => by
    have Z := X.trans (Y.trans M1.ext)
    refine J28_c (S.ext Z) (by omega) M1 rfl (fun h' x' e => no h' n (Z.trans x') (by omega) e) fun h' x' e => ⟨⟨n + 1, by rw [wrap64_succ (by omega)], by omega, Z.trans x', fun i hi hl => ?_⟩, by rw [wrap64_succ (by omega)]; show _ < _; simp; omega⟩
    by_cases e : i = n
    · subst e; assumption
    · exact hd i (by omega) hl
  refine S'.idn ev_sz (by omega) fun a Ra => S'.idn ev_sz (by omega) fun a' Ra' => Ra'.oI ⟨goX (l08Start_c S' _) fun h3 x3 => as_i ⟨goX (l08Key_c (Ra.ext x3) _) fun h4 x4 => as_a ((Mem.start h4).alc fun g2 h5 x5 M2 => ?_), (Mem.start h3).alc fun g2 h4 x4 M2 => ?_⟩, (Mem.start hh).alc fun g2 h3 x3 M2 => ?_⟩
  · exact Ra'.pinO (by decide) ((x3.trans x4).trans x5) (M2.sta0 .here rfl (keyV_one _) rfl .here fun h6 M2 => fin (x3.trans x4) M2)
  · refine Ra'.pinO (by decide) (x3.trans x4) (goM M2 (l08Key_c (Ra.ext (x3.trans M2.ext)) _) fun h5 M2 => as_a (M2.sta0 .here rfl (keyV_one _) rfl .here fun h6 M2 => fin x3 M2))
  · exact Ra'.pinO (by decide) x3 (goM M2 (l08Start_c (S'.ext M2.ext) _) fun h4 M2 => as_i (goM M2 (l08Key_c (Ra.ext M2.ext) _) fun h5 M2 => as_a (M2.sta0 .here rfl (keyV_one _) rfl .here fun h6 M2 => fin (Ext.refl _) M2)))
end
end Go.Sx
