/- The comparison of two events with the draws told: every draw goes up. -/
import Derived.Test.YtnhcoeogejgidabGreatDoorLk30
import Derived.Test.YtnhcoeogejgidabGreatDoorLr7
import Derived.Test.YtnhcoeogejgidabGreatDoorKM
set_option linter.unusedVariables false
set_option linter.unusedSimpArgs false
set_option linter.unusedSectionVars false
namespace Go.Sx.Md
open Go.Proofs
set_option maxRecDepth 100000
set_option maxHeartbeats 2000000
variable [Mode]
section
variable {P : Program} {f : FuncId} {args : Array Value} {v : Value} {h0 hb h : Heap} {K : Value → Heap → Prop} {L : List Blk}
theorem mono {K' : Value → Heap → Prop} (c : CALL P f args K h) (H : ∀ u h', K u h' → K' u h') : CALL P f args K' h := CALL.mono H c
theorem goM (M : Mem hb h L) (c : CALL P f args (fun u h' => u = v ∧ Ext h h') h) (H : ∀ h', Mem hb h' L → K v h') : CALL P f args K h :=
  mono c fun u h' ⟨e, x⟩ => by subst e; exact H h' (M.grow x)
theorem goX (c : CALL P f args (fun u h' => u = v ∧ Ext h h') h) (H : ∀ h', Ext h h' → K v h') : CALL P f args K h :=
  mono c fun u h' ⟨e, x⟩ => by subst e; exact H h' x
theorem goE (E : Ext h0 h) (c : CALL P f args (fun u h' => u = v ∧ Ext h h') h) (H : ∀ h', Ext h0 h' → K v h') : CALL P f args K h :=
  mono c fun u h' ⟨e, x⟩ => by subst e; exact H h' (E.trans x)
theorem semv {s : Sem Value} (H : ∀ w : World, w.heap = h → ∃ v w', s.run P w = .ok v w' ∧ Same w w' ∧ K v w'.heap) : SEMV P s K h := semn_v' H
theorem look_map {m : List (Int × Value)} {g t k e : Nat} {z : Value} (M : MapI h g m) (ht : P.underlying t = some (.map k e)) (hk : P.underlying k = some (.int .i64)) (hz : ∀ w : World, (zeroValue e).run P w = .ok z w) (n : Int)
    (H : K (.tuple #[(mfind m n).getD z, .bool (mfind m n).isSome]) h) : SEMV P (Instr.lookup t (.map (some g)) (.int .i64 n) true) K h := by
  obtain ⟨es, c, e1, e2⟩ := M
  refine semv fun w hw => ⟨.tuple #[(mfind m n).getD z, .bool (mfind m n).isSome], w, ?_, Same.refl _, by rw [hw]; exact H⟩
  have hb : w.heap[g]? = some (.map es c) := by rw [hw]; exact e1
  have hf := findNow_int n 0 e2
  have hc := MapKept.run_checkKey (P := P) (w := w) (k := .int .i64 n) hk (by exact rfl) es.isEmpty 9999
  simp only [Instr.lookup, Sem.run_bind, run_underlying ht, Result.andThen_ok, MapKept.run_getObj_map hb, Sem.run_pure]
  rw [show (10000 : Nat) = 9999 + 1 from rfl, hc]
  simp only [Result.andThen_ok]
  rw [MapKept.run_findKey hk hf]
  unfold mfind
  cases ifind m n with
  | none => simp [hz w, Result.andThen]
  | some p => simp [Result.andThen]
end
section
variable {h : Heap}
theorem order_c {cs : Array Value} {e : GEvent} {g : Nat} {es : List GEvent} (R : rEvent.rd h cs.toList e) (M : MapI h g (ownM es)) : CALL prg f_impl_Event_order #[.agg cs, .map (some g)] (fun u h' => u = .agg (keyV (keyM es e)) ∧ Ext h h') h := by
  have z : (⟨Z_4_int64⟩ : Array Value) = keyV [0, 0, 0, 0] := by rfl
  have fin : ∀ {h1 h2 : Heap} {g1 g3 : Nat} {late stop : Int}, Ext h h1 → Mem h1 h2 [(g3, T_4_int64, keyV [0, 0, 0, 0])] → RdP rEvent h2 ⟨g1, 0, none⟩ e → [e.At, late, e.Note, stop] = keyM es e → impl_Event_order.J7 (fun u h' => u = .agg (keyV (keyM es e)) ∧ Ext h h') ⟨g1, 0, none⟩ ⟨g3, 0, none⟩ late stop h2 := fun {h1 h2 g1 g3 late stop} X M R k => by
    unfold impl_Event_order.J7
    refine R.oI1 (R.oI (M.sta0 .here (vs := keyV [e.At, late, e.Note, stop]) rfl (keyV_one _) rfl .here fun h6 M => M.lda0 .here rfl ⟨by rw [k], X.trans M.ext⟩))
  refine impl_Event_order.call ?_
  rw [impl_Event_order.S, z]
  refine alcR R fun g1 h1 x1 R1 => (Mem.start h1).alc fun g3 h2 x2 M2 => (R1.ext x2).oI2 (br (fun k => ?_) fun k => ?_)
  · have hk : e.Kind = 1 := by simpa using k
    have hp : isSp e = true := k
    have hf := ownM_find es e.Note
    have hM := M.ext (x1.trans x2)
    cases ho : ownA es e.Note with
    | none =>
      rw [ho] at hf
      refine (R1.ext x2).oI2 (look_map hM UM_ii U_int64 zero_int64 _ ?_)
      rw [show mfind (ownM es) e.Note = none from hf]
      refine tup2 (as_i (as_b (br_f rfl (fin x1 M2 (R1.ext x2) ?_))))
      rw [keyM, lateM, hp, ho, keyL, if_pos hk]; rfl
    | some a =>
      rw [ho] at hf
      refine (R1.ext x2).oI2 (look_map hM UM_ii U_int64 zero_int64 _ ?_)
      rw [show mfind (ownM es) e.Note = some (.int .i64 a) from hf]
      refine tup2 (as_i (as_b (br_t rfl ((R1.ext x2).oI2 (brd (fun k2 => fin x1 M2 (R1.ext x2) ?_) fun k2 => fin x1 M2 (R1.ext x2) ?_)))))
      · rw [keyM, lateM, hp, ho, keyL, if_pos hk]
        show _ = [e.At, if (true && decide (a < e.At)) = true then 0 else 1, e.Note, 1]
        rw [decide_eq_true k2]; rfl
      · rw [keyM, lateM, hp, ho, keyL, if_pos hk]
        show _ = [e.At, if (true && decide (a < e.At)) = true then 0 else 1, e.Note, 1]
        rw [decide_eq_false k2]; rfl
  · have hk : ¬ e.Kind = 1 := by simpa using k
    have hp : isSp e = false := k
    refine fin x1 M2 (R1.ext x2) ?_
    rw [keyM, lateM, hp, keyL, if_neg hk]; rfl
theorem cmp_Compare_c (x y : Int) : ∀ h, CALL prg f_cmp_Compare_int64 #[.int .i64 x, .int .i64 y] (fun u h' => u = .int .i64 (cmp3 x y) ∧ Ext h h') h := fun h => by
  have nan : ∀ (x : Int) h, CALL prg f_cmp_isNaN_int64 #[.int .i64 x] (fun u h' => u = .bool false ∧ Ext h h') h := fun x h => cmp_isNaN_int64.call ⟨by simp, Ext.refl _⟩
  refine cmp_Compare_int64.call (goX (nan x h) fun h1 x1 => as_b (goX (nan y h1) fun h2 x2 => as_b (br_f rfl (br_f rfl (brd (fun k => ⟨by rw [cmp3, if_pos k], x1.trans x2⟩) fun k => brd (fun k2 => ⟨by rw [cmp3, if_neg k, if_pos k2], x1.trans x2⟩) fun k2 => ⟨by rw [cmp3, if_neg k, if_neg k2], x1.trans x2⟩)))))
theorem Compare_c {b1 b2 : Option Addr} {l c1 c2 : Nat} {xs ys : List Int} (S1 : SlR (rI .i64) h b1 l c1 xs) (S2 : SlR (rI .i64) h b2 l c2 ys) : CALL prg f_slices_Compare_sl_int64_int64 #[.slice b1 l c1, .slice b2 l c2] (fun u h' => u = .int .i64 (cmpL xs ys) ∧ Ext h h') h := by
  have hm2 := S1.2.2.1
  have hm3 := S1.2.1
  have := maxLen_lt
  have e1 := S1.len
  have e2 := S2.len
  refine slices_Compare_sl_int64_int64.call ?_
  refine loop (fun x hh => ∃ n : Nat, x = (b1, l, c1, b2, l, c2, b1, l, c1, (l : Int), (n : Int)) ∧ n ≤ l ∧ Ext h hh ∧ ∀ i, i < n → xs[i]! = ys[i]!) (fun x => (l - x.2.2.2.2.2.2.2.2.2.2).toNat) ⟨0, rfl, by omega, Ext.refl _, fun i hi => by omega⟩ ?_
  rintro x hh ⟨n, rfl, hn, X, hs⟩
  refine brd (fun hc => ?_) fun hc => ?_
  · refine (S1.ext X).idn (by decide) (by omega) fun a Ra => Ra.oI1 (brd (fun k => by omega) fun _ => (S2.ext X).idn (by decide) (by omega) fun a' Rb => Rb.oI1 (goE X (cmp_Compare_c _ _ _) fun h2 x2 => as_i (br (fun k => ⟨?_, x2⟩) fun k => ?_)))
    · have hne : xs[n]! ≠ ys[n]! := fun e => by
        rw [cmp3, e, if_neg (by omega), if_neg (by omega)] at k; cases k
      rw [cmpL, lt4_at (n := n) (by omega) (by omega) hs hne, cmp3]
      have hab : ¬ xs = ys := fun e => hne (by rw [e])
      by_cases hlt : xs[n]! < ys[n]!
      · rw [if_pos hlt, if_pos (by rw [decide_eq_true hlt])]
      · rw [if_neg hlt, if_pos (by omega), if_neg (by rw [decide_eq_false hlt]; decide), if_neg hab]
    · have he : xs[n]! = ys[n]! := by
        unfold cmp3 at k
        by_cases h1 : xs[n]! < ys[n]!
        · rw [if_pos h1] at k; cases k
        · by_cases h2 : ys[n]! < xs[n]!
          · rw [if_neg h1, if_pos h2] at k; cases k
          · omega
      refine ⟨⟨n + 1, by rw [wrap64_succ (by omega)], by omega, x2, fun i hi => ?_⟩, by rw [wrap64_succ (by omega)]; show _ < _; simp; omega⟩
      by_cases e : i = n
      · subst e; exact he
      · exact hs i (by omega)
  · have hxy : xs = ys := lt4_same (by omega) fun i hi => hs i (by omega)
    subst hxy
    refine brd (fun k => by omega) fun _ => ⟨?_, X⟩
    rw [cmpL, lt4_irrefl, if_neg (by decide), if_pos rfl]
theorem compare_c1_c {es : List GEvent} {gc g : Nat} {ca cb : Array Value} {x y : GEvent} (hc : cell h ⟨gc, 0, none⟩ = some (.map (some g))) (M0 : MapI h g (ownM es)) (Rx : rEvent.rd h ca.toList x) (Ry : rEvent.rd h cb.toList y) :
    CALL prg f_impl_compareEvents_c1 #[.agg ca, .agg cb, .pointer (some ⟨gc, 0, none⟩)] (fun u h' => u = .int .i64 (cmpL (keyM es x) (keyM es y)) ∧ Ext h h') h := by
  have z : (⟨Z_4_int64⟩ : Array Value) = keyV [0, 0, 0, 0] := by rfl
  refine impl_compareEvents_c1.call ?_
  rw [impl_compareEvents_c1.S, z]
  refine alcR Rx fun g1 h1 x1 A => alcR (rEvent.ext x1 Ry) fun g3 h4 x4 B => ?_
  have A := A.ext x4
  have X0 := x1.trans x4
  have hcc := cell_ext hc X0
  have MM := M0.ext X0
  clear hc M0 Rx Ry
  refine A.lda1 rfl fun a5 R5 => ?_
  rw [hcc]
  refine B.lda1 rfl fun a7 R7 => ?_
  have pt : ∀ {hx : Heap} {L : List Blk} {p : Prop}, Mem h4 hx L → p → PIN h4 ⟨gc, 0, none⟩ 1 hx p := fun M H => pin M.ext (fun j hj => ⟨.map (some g), by rw [show j = 0 by omega, add0]; exact hcc⟩) H
  have pa : ∀ {hx : Heap} {L : List Blk} {p : Prop}, Mem h4 hx L → p → PIN h4 ⟨g1, 0, none⟩ 6 hx p := fun M H => A.pin0 (by decide) M.ext H
  have pb : ∀ {hx : Heap} {L : List Blk} {p : Prop}, Mem h4 hx L → p → PIN h4 ⟨g3, 0, none⟩ 6 hx p := fun M H => B.pin0 (by decide) M.ext H
  have oa : ∀ {hx : Heap} {L : List Blk} {K : Array Value → Heap → Prop}, Mem h4 hx L → (∀ h', Mem h4 h' L → K (keyV (keyM es x)) h') → CALL prg f_impl_Event_order #[.agg a5, .map (some g)] (fun q h' => asA q fun a => K a h') hx := fun M H => goM M (order_c (rEvent.ext M.ext R5) (MM.ext M.ext)) fun h' M' => as_a (H h' M')
  have ob : ∀ {hx : Heap} {L : List Blk} {K : Array Value → Heap → Prop}, Mem h4 hx L → (∀ h', Mem h4 h' L → K (keyV (keyM es y)) h') → CALL prg f_impl_Event_order #[.agg a7, .map (some g)] (fun q h' => asA q fun a => K a h') hx := fun M H => goM M (order_c (rEvent.ext M.ext R7) (MM.ext M.ext)) fun h' M' => as_a (H h' M')
  have fin : ∀ {hx : Heap} {L : List Blk} {ga gb : Nat}, Mem h4 hx L → Look L ga (keyV (keyM es x)) → Look L gb (keyV (keyM es y)) →
      CALL prg f_slices_Compare_sl_int64_int64 #[.slice (some (slP ⟨ga, 0, none⟩ 4 0 1)) (4 - 0) (4 - 0), .slice (some (slP ⟨gb, 0, none⟩ 4 0 1)) (4 - 0) (4 - 0)] (fun q h' => asI .i64 q fun n => (Value.int .i64 n = .int .i64 (cmpL (keyM es x) (keyM es y)) ∧ Ext h h')) hx := fun M l1 l2 => by
    rw [slP_zero, slP_zero]
    exact goE (X0.trans M.ext) (Compare_c (M.slI l1 (show 4 ≤ maxLen by decide)) (M.slI l2 (show 4 ≤ maxLen by decide))) fun h' x' => as_i ⟨rfl, x'⟩
  have kx : (keyM es x).length = 4 := rfl
  have ky : (keyM es y).length = 4 := rfl
  have st : ∀ {hx : Heap} {L L' : List Blk} {gq : Nat} {k : List Int} {K : Heap → Prop}, Mem h4 hx L → k.length = 4 → Look L gq (keyV [0, 0, 0, 0]) → Upd L gq (keyV k) L' → (∀ h', Mem h4 h' L' → K h') → STA 4 hx ⟨gq, 0, none⟩ (keyV k) K := fun M hk l u H => M.sta0 l (by rw [keyV_size, hk]) (keyV_one _) rfl u H
  have M := Mem.start h4
  show _ ∧ _
  (repeat' (first
    | with_reducible refine And.intro ?_ ?_
    | with_reducible refine Mem.alc (by assumption) fun _ _ _ _ => ?_
    | with_reducible refine pt (by assumption) ?_
    | with_reducible refine pb (by assumption) ?_
    | with_reducible refine pa (by assumption) ?_
    | with_reducible refine oa (by assumption) fun _ _ => ?_
    | with_reducible refine ob (by assumption) fun _ _ => ?_
    | with_reducible refine slb (by decide) (by decide) (by decide) ?_
    | with_reducible refine st (by assumption) (by first | exact kx | exact ky) (by first | exact .here | exact .there .here) (by first | exact .here | exact .there .here) fun _ _ => ?_
    | with_reducible exact fin (by assumption) (by first | exact .here | exact .there .here) (by first | exact .here | exact .there .here)))
end
end Go.Sx.Md
