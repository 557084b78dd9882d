/- The laws' helpers that mark scores. -/
import Derived.Test.YtnhcoeogejgidabGreatDoorLmt
set_option linter.unusedVariables false
set_option linter.unusedSimpArgs false
namespace Go.Sx
open Go.Proofs
set_option maxRecDepth 100000

section
variable {h : Heap}
def n_Tuning (x : GTuning) : Nat := n_Float32S x.Degrees
def mk_Tuning (x : GTuning) (k : Nat) : GTuning := { x with Degrees := mk_Float32S x.Degrees (k) }
theorem nw_Tuning (x : GTuning) : n_Tuning x ≤ 8 * w_Tuning x := by
  have h0 := nw_Float32S x.Degrees
  have e1 : n_Tuning x = n_Float32S x.Degrees := rfl
  have e2 : w_Tuning x = w_Float32S x.Degrees := rfl
  omega
theorem mark_Tuning_c {h0 : Heap} {B L : List Blk} {cs : Array Value} {x : GTuning} (O : rTuning.ow B cs.toList x) (M : Mem h0 h (B ++ L)) (k : Nat) (hw0 : w_Tuning x ≤ 1048576) (hk : k + n_Tuning x ≤ 1073741824) :
    CALL prg f_laws_markTuning #[.agg cs, .int .i64 (k : Int)] (fun u h' => u = .int .i64 ((k + n_Tuning x : Nat) : Int) ∧ ∃ B', rTuning.ow B' cs.toList (mk_Tuning x k) ∧ Mem h0 h' (B' ++ L)) h := by
  have hw : w_Tuning x = w_Float32S x.Degrees := rfl
  have hn : n_Tuning x = n_Float32S x.Degrees := rfl
  refine laws_markTuning.call (M.alc fun g1 h1 x1 M => ?_)
  obtain ⟨Bm, Br, hB, Om, reb⟩ := ow_upd O foc_Tuning_Degrees
  obtain ⟨b, l, c, e, Om⟩ := Om
  refine o_l ((M.cell .here _).trans (cell_part e)) ?_
  refine (mark_Float32S_c (xs := x.Degrees) Om (M.cnt (W := Bm ++ (Br ++ ((g1, T_impl_Tuning, cs) :: L))) (fun p => by have := hB p; simp only [cnt_app, cnt_cons, cnt_nil] at *; omega)) (k) (by omega) (by omega)).mono ?_
  rintro _ h' ⟨rfl, B', O', M⟩
  obtain ⟨B2, O, hB2⟩ := reb B' _ ⟨b, l, c, e, O'⟩
  refine as_i ?_
  have M := M.cnt (W := (g1, T_impl_Tuning, cs) :: (B2 ++ L)) (fun p => by have := hB2 p; simp only [cnt_app, cnt_cons, cnt_nil] at *; omega)
  clear reb
  exact ⟨by congr 2 <;> (unfold n_Tuning; omega), B2, O, M.drop⟩
theorem held_Tuning_c {cs : Array Value} {x : GTuning} (k : Nat) (R0 : rTuning.rd h cs.toList (mk_Tuning x k)) (hw0 : w_Tuning x ≤ 1048576) (hk : k + n_Tuning x ≤ 1073741824) :
    CALL prg f_laws_heldTuning #[.agg cs, .int .i64 (k : Int)] (fun u h' => u = .int .i64 ((k + n_Tuning x : Nat) : Int) ∧ Ext h h') h := by
  have hw : w_Tuning x = w_Float32S x.Degrees := rfl
  have hn : n_Tuning x = n_Float32S x.Degrees := rfl
  refine laws_heldTuning.call (alcR R0 fun g1 h1 X R => ?_)
  refine R.oL2 fun b1 l1 c1 S1 => goX (held_Float32S_c (xs := x.Degrees) (k) S1 (by omega) (by omega)) fun h' x' => as_i (br_f (decide_eq_false (by omega)) ?_)
  have R := R.ext x'
  have X := X.trans x'
  exact ⟨by congr 2 <;> (unfold n_Tuning; omega), X⟩
theorem sz_pos_Instrument : 0 < rInstrument.sz := by decide
def mkE_Instrument (x : GInstrument) (k : Nat) : GInstrument := { x with Name := mtext (k), Kind := ((k + 1 : Nat) : Int), A := FloatKind.f32.nearest ((k + 2 : Nat) : Int), B := FloatKind.f32.nearest ((k + 3 : Nat) : Int), C := FloatKind.f32.nearest ((k + 4 : Nat) : Int) }
def n_InstrumentS (xs : List GInstrument) : Nat := nL (fun _ => 5) xs
def mk_InstrumentS (xs : List GInstrument) (k : Nat) : List GInstrument := mkL mkE_Instrument (fun _ => 5) xs k
theorem n_InstrumentS_eq (xs : List GInstrument) : nL (fun _ : GInstrument => 5) xs = 5 * xs.length := by
  induction xs with
  | nil => rfl
  | cons x xs ih => simp only [nL, ih, List.length_cons]; omega
theorem nw_InstrumentS (xs : List GInstrument) : n_InstrumentS xs ≤ 8 * w_InstrumentS xs := by unfold n_InstrumentS w_InstrumentS; rw [n_InstrumentS_eq]; omega
theorem mark_InstrumentS_c {h0 : Heap} {B L : List Blk} {b : Option Addr} {l c : Nat} {xs : List GInstrument} (O0 : SlO T_impl_Instrument rInstrument B b l c xs) (M0 : Mem h0 h (B ++ L)) (k : Nat) (hw0 : w_InstrumentS xs ≤ 1048576) (hk : k + n_InstrumentS xs ≤ 1073741824) :
    CALL prg f_laws_markInstrumentS #[.slice b l c, .int .i64 (k : Int)] (fun u h' => u = .int .i64 ((k + n_InstrumentS xs : Nat) : Int) ∧ ∃ B', SlO T_impl_Instrument rInstrument B' b l c (mk_InstrumentS xs k) ∧ Mem h0 h' (B' ++ L)) h := by
  have hx := O0.len
  unfold w_InstrumentS at hw0
  unfold n_InstrumentS at hk
  rw [n_InstrumentS_eq] at hk
  have hn0 : ∀ m, m ≤ l → nL (fun _ : GInstrument => 5) (xs.take m) = 5 * m := fun m hm => by rw [n_InstrumentS_eq, List.length_take]; congr 1; omega
  refine laws_markInstrumentS.call ?_
  refine loop (fun x hh => ∃ (n : Nat) (B : List Blk), x = (b, l, c, ((k + 5 * n : Nat) : Int), (n : Int)) ∧ n ≤ l ∧ SlO T_impl_Instrument rInstrument B b l c (mkL mkE_Instrument (fun _ => 5) (xs.take n) k ++ xs.drop n) ∧ Mem h0 hh (B ++ L)) (fun x => (l - x.2.2.2.2).toNat) ⟨0, B, rfl, by omega, by simpa [mkL] using O0, M0⟩ ?_
  rintro x hh ⟨n, B, rfl, hn, O, M⟩
  refine brd (fun hc => ?_) fun hc => ?_
  · obtain ⟨a0, F', L', rfl, P, hs, close⟩ := O.elem M (i := n) (by omega)
    rw [mkL_at (by omega)] at P
    have e0 : IntKind.i64.wrap (((k + 5 * n : Nat) : Int) + 1) = ((k + 5 * n + 1 : Nat) : Int) := wrap64_succ (by omega)
    have e1 : IntKind.i64.wrap (((k + 5 * n + 1 : Nat) : Int) + 1) = ((k + 5 * n + 2 : Nat) : Int) := wrap64_succ (by omega)
    have e2 : IntKind.i64.wrap (((k + 5 * n + 2 : Nat) : Int) + 1) = ((k + 5 * n + 3 : Nat) : Int) := wrap64_succ (by omega)
    have e3 : IntKind.i64.wrap (((k + 5 * n + 3 : Nat) : Int) + 1) = ((k + 5 * n + 4 : Nat) : Int) := wrap64_succ (by omega)
    have e4 : IntKind.i64.wrap (((k + 5 * n + 4 : Nat) : Int) + 1) = ((k + 5 * n + 5 : Nat) : Int) := wrap64_succ (by omega)
    simp only [e0, e1, e2, e3, e4, Int.toNat_natCast]
    rw [show n * 5 = n * rInstrument.sz from rfl]
    refine goX (markText_c (k + 5 * n) (by omega) _) fun h' x' => as_s ?_
    have P := P.grow x'
    refine idxs (by omega) (by omega) (P.stS1 (mtext_size _) fun h' P => ?_)
    refine idxs (by omega) (by omega) (P.stI fun h' P => ?_)
    refine idxs (by omega) (by omega) (P.stF (fw_nearest _ _) fun h' P => ?_)
    refine idxs (by omega) (by omega) (P.stF (fw_nearest _ _) fun h' P => ?_)
    refine idxs (by omega) (by omega) (P.stF (fw_nearest _ _) fun h' P => ?_)
    obtain ⟨B', O', M'⟩ := close _ _ _ P
    have e : mkE_Instrument xs[n]! (k + nL (fun _ => 5) (xs.take n)) = mkE_Instrument xs[n]! (k + 5 * n) := by rw [hn0 n (by omega)]
    have st := mkL_step (mk := mkE_Instrument) (n := fun _ => 5) (k := k) (xs := xs) (i := n) (by omega)
    rw [e] at st
    have O' : SlO T_impl_Instrument rInstrument B' (some a0) l c ((mkL mkE_Instrument (fun _ => 5) (xs.take n) k ++ xs.drop n).set n (mkE_Instrument xs[n]! (k + 5 * n))) := O'
    rw [st] at O'
    rw [wrap64_succ (by omega)]
    exact ⟨⟨n + 1, B', by rw [show k + 5 * n + 5 = k + 5 * (n + 1) by omega], by omega, O', M'⟩, by show _ < _; simp; omega⟩
  · obtain rfl : n = l := by omega
    have e : xs.take n = xs := by rw [← hx]; exact List.take_length
    have e2 : xs.drop n = [] := List.drop_of_length_le (by omega)
    rw [e, e2, List.append_nil] at O
    exact ⟨by rw [n_InstrumentS, n_InstrumentS_eq, hx], B, O, M⟩
theorem held_InstrumentS_c {b : Option Addr} {l c : Nat} {xs : List GInstrument} (k : Nat) (S : SlR rInstrument h b l c (mk_InstrumentS xs k)) (hw0 : w_InstrumentS xs ≤ 1048576) (hk : k + n_InstrumentS xs ≤ 1073741824) :
    CALL prg f_laws_heldInstrumentS #[.slice b l c, .int .i64 (k : Int)] (fun u h' => u = .int .i64 ((k + n_InstrumentS xs : Nat) : Int) ∧ Ext h h') h := by
  have hx : xs.length = l := by have := S.len; rwa [mk_InstrumentS, mkL_len] at this
  unfold w_InstrumentS at hw0
  unfold n_InstrumentS at hk
  rw [n_InstrumentS_eq] at hk
  have hn0 : ∀ m, m ≤ l → nL (fun _ : GInstrument => 5) (xs.take m) = 5 * m := fun m hm => by rw [n_InstrumentS_eq, List.length_take]; congr 1; omega
  refine laws_heldInstrumentS.call ?_
  refine loop (fun x hh => ∃ n : Nat, x = (b, l, c, ((k + 5 * n : Nat) : Int), (n : Int)) ∧ n ≤ l ∧ Ext h hh) (fun x => (l - x.2.2.2.2).toNat) ⟨0, rfl, by omega, Ext.refl _⟩ ?_
  rintro x hh ⟨n, rfl, hn, X⟩
  refine brd (fun hc => ?_) fun hc => ?_
  · have hm : (mk_InstrumentS xs k)[n]! = mkE_Instrument xs[n]! (k + 5 * n) := by unfold mk_InstrumentS; rw [mkL_get (by omega), hn0 n (by omega)]
    have e0 : IntKind.i64.wrap (((k + 5 * n : Nat) : Int) + 1) = ((k + 5 * n + 1 : Nat) : Int) := wrap64_succ (by omega)
    have e1 : IntKind.i64.wrap (((k + 5 * n + 1 : Nat) : Int) + 1) = ((k + 5 * n + 2 : Nat) : Int) := wrap64_succ (by omega)
    have e2 : IntKind.i64.wrap (((k + 5 * n + 2 : Nat) : Int) + 1) = ((k + 5 * n + 3 : Nat) : Int) := wrap64_succ (by omega)
    have e3 : IntKind.i64.wrap (((k + 5 * n + 3 : Nat) : Int) + 1) = ((k + 5 * n + 4 : Nat) : Int) := wrap64_succ (by omega)
    have e4 : IntKind.i64.wrap (((k + 5 * n + 4 : Nat) : Int) + 1) = ((k + 5 * n + 5 : Nat) : Int) := wrap64_succ (by omega)
    simp only [e0, e1, e2, e3, e4]
    refine (S.ext X).idx sz_pos_Instrument (by omega) (by omega) fun a Ra => ?_
    rw [Int.toNat_natCast, hm] at Ra
    refine Ra.oS1 fun hs => goX (markText_c (k + 5 * n) (by omega) _) fun h' x' => as_s (Ra.pin0 (by decide) x' (br_f (by simp [mkE_Instrument]) ?_))
    have X := X.trans x'
    refine (S.ext X).idx sz_pos_Instrument (by omega) (by omega) fun a Ra => ?_
    rw [Int.toNat_natCast, hm] at Ra
    refine Ra.oI (br_f (bne_self_eq_false _) ?_)
    refine (S.ext X).idx sz_pos_Instrument (by omega) (by omega) fun a Ra => ?_
    rw [Int.toNat_natCast, hm] at Ra
    refine Ra.oF fun y hy => ?_
    have hy : FW .f32 y (FloatKind.f32.nearest ((k + 5 * n + 2 : Nat) : Int)) := hy
    obtain rfl := hy.eq (nearest_not_nan _ _)
    refine br_f (order_eq (nearest_not_nan _ _)) ?_
    refine (S.ext X).idx sz_pos_Instrument (by omega) (by omega) fun a Ra => ?_
    rw [Int.toNat_natCast, hm] at Ra
    refine Ra.oF fun y hy => ?_
    have hy : FW .f32 y (FloatKind.f32.nearest ((k + 5 * n + 3 : Nat) : Int)) := hy
    obtain rfl := hy.eq (nearest_not_nan _ _)
    refine br_f (order_eq (nearest_not_nan _ _)) ?_
    refine (S.ext X).idx sz_pos_Instrument (by omega) (by omega) fun a Ra => ?_
    rw [Int.toNat_natCast, hm] at Ra
    refine Ra.oF fun y hy => ?_
    have hy : FW .f32 y (FloatKind.f32.nearest ((k + 5 * n + 4 : Nat) : Int)) := hy
    obtain rfl := hy.eq (nearest_not_nan _ _)
    refine br_f (order_eq (nearest_not_nan _ _)) ?_
    rw [wrap64_succ (by omega)]
    exact ⟨⟨n + 1, by rw [show k + 5 * n + 5 = k + 5 * (n + 1) by omega], by omega, X⟩, by show _ < _; simp; omega⟩
  · obtain rfl : n = l := by omega
    exact ⟨by rw [n_InstrumentS, n_InstrumentS_eq, hx], X⟩
def mkE_Event (x : GEvent) (k : Nat) : GEvent := { x with At := ((k : Nat) : Int), Kind := ((k + 1 : Nat) : Int), Note := ((k + 2 : Nat) : Int), Instrument := ((k + 3 : Nat) : Int), Key := ((k + 4 : Nat) : Int), Force := FloatKind.f32.nearest ((k + 5 : Nat) : Int) }
def n_EventS (xs : List GEvent) : Nat := nL (fun _ => 6) xs
def mk_EventS (xs : List GEvent) (k : Nat) : List GEvent := mkL mkE_Event (fun _ => 6) xs k
theorem n_EventS_eq (xs : List GEvent) : nL (fun _ : GEvent => 6) xs = 6 * xs.length := by
  induction xs with
  | nil => rfl
  | cons x xs ih => simp only [nL, ih, List.length_cons]; omega
theorem nw_EventS (xs : List GEvent) : n_EventS xs ≤ 8 * w_EventS xs := by unfold n_EventS w_EventS; rw [n_EventS_eq]; omega
theorem mark_EventS_c {h0 : Heap} {B L : List Blk} {b : Option Addr} {l c : Nat} {xs : List GEvent} (O0 : SlO T_impl_Event rEvent B b l c xs) (M0 : Mem h0 h (B ++ L)) (k : Nat) (hw0 : w_EventS xs ≤ 1048576) (hk : k + n_EventS xs ≤ 1073741824) :
    CALL prg f_laws_markEventS #[.slice b l c, .int .i64 (k : Int)] (fun u h' => u = .int .i64 ((k + n_EventS xs : Nat) : Int) ∧ ∃ B', SlO T_impl_Event rEvent B' b l c (mk_EventS xs k) ∧ Mem h0 h' (B' ++ L)) h := by
  have hx := O0.len
  unfold w_EventS at hw0
  unfold n_EventS at hk
  rw [n_EventS_eq] at hk
  have hn0 : ∀ m, m ≤ l → nL (fun _ : GEvent => 6) (xs.take m) = 6 * m := fun m hm => by rw [n_EventS_eq, List.length_take]; congr 1; omega
  refine laws_markEventS.call ?_
  refine loop (fun x hh => ∃ (n : Nat) (B : List Blk), x = (b, l, c, ((k + 6 * n : Nat) : Int), (n : Int)) ∧ n ≤ l ∧ SlO T_impl_Event rEvent B b l c (mkL mkE_Event (fun _ => 6) (xs.take n) k ++ xs.drop n) ∧ Mem h0 hh (B ++ L)) (fun x => (l - x.2.2.2.2).toNat) ⟨0, B, rfl, by omega, by simpa [mkL] using O0, M0⟩ ?_
  rintro x hh ⟨n, B, rfl, hn, O, M⟩
  refine brd (fun hc => ?_) fun hc => ?_
  · obtain ⟨a0, F', L', rfl, P, hs, close⟩ := O.elem M (i := n) (by omega)
    rw [mkL_at (by omega)] at P
    have e0 : IntKind.i64.wrap (((k + 6 * n : Nat) : Int) + 1) = ((k + 6 * n + 1 : Nat) : Int) := wrap64_succ (by omega)
    have e1 : IntKind.i64.wrap (((k + 6 * n + 1 : Nat) : Int) + 1) = ((k + 6 * n + 2 : Nat) : Int) := wrap64_succ (by omega)
    have e2 : IntKind.i64.wrap (((k + 6 * n + 2 : Nat) : Int) + 1) = ((k + 6 * n + 3 : Nat) : Int) := wrap64_succ (by omega)
    have e3 : IntKind.i64.wrap (((k + 6 * n + 3 : Nat) : Int) + 1) = ((k + 6 * n + 4 : Nat) : Int) := wrap64_succ (by omega)
    have e4 : IntKind.i64.wrap (((k + 6 * n + 4 : Nat) : Int) + 1) = ((k + 6 * n + 5 : Nat) : Int) := wrap64_succ (by omega)
    have e5 : IntKind.i64.wrap (((k + 6 * n + 5 : Nat) : Int) + 1) = ((k + 6 * n + 6 : Nat) : Int) := wrap64_succ (by omega)
    simp only [e0, e1, e2, e3, e4, e5, Int.toNat_natCast]
    rw [show n * 6 = n * rEvent.sz from rfl]
    refine idxs (by omega) (by omega) (P.stI1 fun h' P => ?_)
    refine idxs (by omega) (by omega) (P.stI fun h' P => ?_)
    refine idxs (by omega) (by omega) (P.stI fun h' P => ?_)
    refine idxs (by omega) (by omega) (P.stI fun h' P => ?_)
    refine idxs (by omega) (by omega) (P.stI fun h' P => ?_)
    refine idxs (by omega) (by omega) (P.stF (fw_nearest _ _) fun h' P => ?_)
    obtain ⟨B', O', M'⟩ := close _ _ _ P
    have e : mkE_Event xs[n]! (k + nL (fun _ => 6) (xs.take n)) = mkE_Event xs[n]! (k + 6 * n) := by rw [hn0 n (by omega)]
    have st := mkL_step (mk := mkE_Event) (n := fun _ => 6) (k := k) (xs := xs) (i := n) (by omega)
    rw [e] at st
    have O' : SlO T_impl_Event rEvent B' (some a0) l c ((mkL mkE_Event (fun _ => 6) (xs.take n) k ++ xs.drop n).set n (mkE_Event xs[n]! (k + 6 * n))) := O'
    rw [st] at O'
    rw [wrap64_succ (by omega)]
    exact ⟨⟨n + 1, B', by rw [show k + 6 * n + 6 = k + 6 * (n + 1) by omega], by omega, O', M'⟩, by show _ < _; simp; omega⟩
  · obtain rfl : n = l := by omega
    have e : xs.take n = xs := by rw [← hx]; exact List.take_length
    have e2 : xs.drop n = [] := List.drop_of_length_le (by omega)
    rw [e, e2, List.append_nil] at O
    exact ⟨by rw [n_EventS, n_EventS_eq, hx], B, O, M⟩
theorem held_EventS_c {b : Option Addr} {l c : Nat} {xs : List GEvent} (k : Nat) (S : SlR rEvent h b l c (mk_EventS xs k)) (hw0 : w_EventS xs ≤ 1048576) (hk : k + n_EventS xs ≤ 1073741824) :
    CALL prg f_laws_heldEventS #[.slice b l c, .int .i64 (k : Int)] (fun u h' => u = .int .i64 ((k + n_EventS xs : Nat) : Int) ∧ Ext h h') h := by
  have hx : xs.length = l := by have := S.len; rwa [mk_EventS, mkL_len] at this
  unfold w_EventS at hw0
  unfold n_EventS at hk
  rw [n_EventS_eq] at hk
  have hn0 : ∀ m, m ≤ l → nL (fun _ : GEvent => 6) (xs.take m) = 6 * m := fun m hm => by rw [n_EventS_eq, List.length_take]; congr 1; omega
  refine laws_heldEventS.call ?_
  refine loop (fun x hh => ∃ n : Nat, x = (b, l, c, ((k + 6 * n : Nat) : Int), (n : Int)) ∧ n ≤ l ∧ Ext h hh) (fun x => (l - x.2.2.2.2).toNat) ⟨0, rfl, by omega, Ext.refl _⟩ ?_
  rintro x hh ⟨n, rfl, hn, X⟩
  refine brd (fun hc => ?_) fun hc => ?_
  · have hm : (mk_EventS xs k)[n]! = mkE_Event xs[n]! (k + 6 * n) := by unfold mk_EventS; rw [mkL_get (by omega), hn0 n (by omega)]
    have e0 : IntKind.i64.wrap (((k + 6 * n : Nat) : Int) + 1) = ((k + 6 * n + 1 : Nat) : Int) := wrap64_succ (by omega)
    have e1 : IntKind.i64.wrap (((k + 6 * n + 1 : Nat) : Int) + 1) = ((k + 6 * n + 2 : Nat) : Int) := wrap64_succ (by omega)
    have e2 : IntKind.i64.wrap (((k + 6 * n + 2 : Nat) : Int) + 1) = ((k + 6 * n + 3 : Nat) : Int) := wrap64_succ (by omega)
    have e3 : IntKind.i64.wrap (((k + 6 * n + 3 : Nat) : Int) + 1) = ((k + 6 * n + 4 : Nat) : Int) := wrap64_succ (by omega)
    have e4 : IntKind.i64.wrap (((k + 6 * n + 4 : Nat) : Int) + 1) = ((k + 6 * n + 5 : Nat) : Int) := wrap64_succ (by omega)
    have e5 : IntKind.i64.wrap (((k + 6 * n + 5 : Nat) : Int) + 1) = ((k + 6 * n + 6 : Nat) : Int) := wrap64_succ (by omega)
    simp only [e0, e1, e2, e3, e4, e5]
    refine (S.ext X).idx sz_pos_Event (by omega) (by omega) fun a Ra => ?_
    rw [Int.toNat_natCast, hm] at Ra
    refine Ra.oI1 (br_f (bne_self_eq_false _) ?_)
    refine (S.ext X).idx sz_pos_Event (by omega) (by omega) fun a Ra => ?_
    rw [Int.toNat_natCast, hm] at Ra
    refine Ra.oI (br_f (bne_self_eq_false _) ?_)
    refine (S.ext X).idx sz_pos_Event (by omega) (by omega) fun a Ra => ?_
    rw [Int.toNat_natCast, hm] at Ra
    refine Ra.oI (br_f (bne_self_eq_false _) ?_)
    refine (S.ext X).idx sz_pos_Event (by omega) (by omega) fun a Ra => ?_
    rw [Int.toNat_natCast, hm] at Ra
    refine Ra.oI (br_f (bne_self_eq_false _) ?_)
    refine (S.ext X).idx sz_pos_Event (by omega) (by omega) fun a Ra => ?_
    rw [Int.toNat_natCast, hm] at Ra
    refine Ra.oI (br_f (bne_self_eq_false _) ?_)
    refine (S.ext X).idx sz_pos_Event (by omega) (by omega) fun a Ra => ?_
    rw [Int.toNat_natCast, hm] at Ra
    refine Ra.oF fun y hy => ?_
    have hy : FW .f32 y (FloatKind.f32.nearest ((k + 6 * n + 5 : Nat) : Int)) := hy
    obtain rfl := hy.eq (nearest_not_nan _ _)
    refine br_f (order_eq (nearest_not_nan _ _)) ?_
    rw [wrap64_succ (by omega)]
    exact ⟨⟨n + 1, by rw [show k + 6 * n + 6 = k + 6 * (n + 1) by omega], by omega, X⟩, by show _ < _; simp; omega⟩
  · obtain rfl : n = l := by omega
    exact ⟨by rw [n_EventS, n_EventS_eq, hx], X⟩
def n_Score (x : GScore) : Nat := n_Tuning x.Tuning + n_InstrumentS x.Instruments + n_EventS x.Events
def mk_Score (x : GScore) (k : Nat) : GScore := { x with Tuning := mk_Tuning x.Tuning (k), Instruments := mk_InstrumentS x.Instruments (k + n_Tuning x.Tuning), Events := mk_EventS x.Events (k + n_Tuning x.Tuning + n_InstrumentS x.Instruments) }
theorem nw_Score (x : GScore) : n_Score x ≤ 8 * w_Score x := by
  have h0 := nw_Tuning x.Tuning
  have h1 := nw_InstrumentS x.Instruments
  have h2 := nw_EventS x.Events
  have e1 : n_Score x = n_Tuning x.Tuning + n_InstrumentS x.Instruments + n_EventS x.Events := rfl
  have e2 : w_Score x = w_Tuning x.Tuning + w_InstrumentS x.Instruments + w_EventS x.Events := rfl
  omega
theorem mark_Score_c {h0 : Heap} {B L : List Blk} {cs : Array Value} {x : GScore} (O : rScore.ow B cs.toList x) (M : Mem h0 h (B ++ L)) (k : Nat) (hw0 : w_Score x ≤ 1048576) (hk : k + n_Score x ≤ 1073741824) :
    CALL prg f_laws_markScore #[.agg cs, .int .i64 (k : Int)] (fun u h' => u = .int .i64 ((k + n_Score x : Nat) : Int) ∧ ∃ B', rScore.ow B' cs.toList (mk_Score x k) ∧ Mem h0 h' (B' ++ L)) h := by
  have hw : w_Score x = w_Tuning x.Tuning + w_InstrumentS x.Instruments + w_EventS x.Events := rfl
  have hn : n_Score x = n_Tuning x.Tuning + n_InstrumentS x.Instruments + n_EventS x.Events := rfl
  refine laws_markScore.call (M.alc fun g1 h1 x1 M => ?_)
  obtain ⟨Bm, Br, hB, Om, reb⟩ := ow_upd O foc_Score_Tuning
  refine M.lda .here (by have := osz O rfl; rw [this]; decide) ?_
  rw [← ext_part] at Om
  refine (mark_Tuning_c (x := x.Tuning) Om (M.cnt (W := Bm ++ (Br ++ ((g1, T_impl_Score, cs) :: L))) (fun p => by have := hB p; simp only [cnt_app, cnt_cons, cnt_nil] at *; omega)) (k) (by omega) (by omega)).mono ?_
  rintro _ h' ⟨rfl, B', O', M⟩
  obtain ⟨B2, O, hB2⟩ := reb B' _ (by rw [← ext_part]; exact O')
  refine as_i ?_
  have M := M.cnt (W := (g1, T_impl_Score, cs) :: (B2 ++ L)) (fun p => by have := hB2 p; simp only [cnt_app, cnt_cons, cnt_nil] at *; omega)
  clear reb
  obtain ⟨Bm, Br, hB, Om, reb⟩ := ow_upd O foc_Score_Instruments
  obtain ⟨b, l, c, e, Om⟩ := Om
  refine o_l ((M.cell .here _).trans (cell_part e)) ?_
  refine (mark_InstrumentS_c (xs := x.Instruments) Om (M.cnt (W := Bm ++ (Br ++ ((g1, T_impl_Score, cs) :: L))) (fun p => by have := hB p; simp only [cnt_app, cnt_cons, cnt_nil] at *; omega)) (k + n_Tuning x.Tuning) (by omega) (by omega)).mono ?_
  rintro _ h' ⟨rfl, B', O', M⟩
  obtain ⟨B2, O, hB2⟩ := reb B' _ ⟨b, l, c, e, O'⟩
  refine as_i ?_
  have M := M.cnt (W := (g1, T_impl_Score, cs) :: (B2 ++ L)) (fun p => by have := hB2 p; simp only [cnt_app, cnt_cons, cnt_nil] at *; omega)
  clear reb
  obtain ⟨Bm, Br, hB, Om, reb⟩ := ow_upd O foc_Score_Events
  obtain ⟨b, l, c, e, Om⟩ := Om
  refine o_l ((M.cell .here _).trans (cell_part e)) ?_
  refine (mark_EventS_c (xs := x.Events) Om (M.cnt (W := Bm ++ (Br ++ ((g1, T_impl_Score, cs) :: L))) (fun p => by have := hB p; simp only [cnt_app, cnt_cons, cnt_nil] at *; omega)) (k + n_Tuning x.Tuning + n_InstrumentS x.Instruments) (by omega) (by omega)).mono ?_
  rintro _ h' ⟨rfl, B', O', M⟩
  obtain ⟨B2, O, hB2⟩ := reb B' _ ⟨b, l, c, e, O'⟩
  refine as_i ?_
  have M := M.cnt (W := (g1, T_impl_Score, cs) :: (B2 ++ L)) (fun p => by have := hB2 p; simp only [cnt_app, cnt_cons, cnt_nil] at *; omega)
  clear reb
  exact ⟨by congr 2 <;> (unfold n_Score; omega), B2, O, M.drop⟩
theorem held_Score_c {cs : Array Value} {x : GScore} (k : Nat) (R0 : rScore.rd h cs.toList (mk_Score x k)) (hw0 : w_Score x ≤ 1048576) (hk : k + n_Score x ≤ 1073741824) :
    CALL prg f_laws_heldScore #[.agg cs, .int .i64 (k : Int)] (fun u h' => u = .int .i64 ((k + n_Score x : Nat) : Int) ∧ Ext h h') h := by
  have hw : w_Score x = w_Tuning x.Tuning + w_InstrumentS x.Instruments + w_EventS x.Events := rfl
  have hn : n_Score x = n_Tuning x.Tuning + n_InstrumentS x.Instruments + n_EventS x.Events := rfl
  refine laws_heldScore.call (alcR R0 fun g1 h1 X R => ?_)
  refine R.lda2 foc_Score_Tuning rfl fun c1 R1 => goX (held_Tuning_c (x := x.Tuning) (k) R1 (by omega) (by omega)) fun h' x' => as_i (br_f (decide_eq_false (by omega)) ?_)
  have R := R.ext x'
  have X := X.trans x'
  refine R.oL2 fun b1 l1 c1 S1 => goX (held_InstrumentS_c (xs := x.Instruments) (k + n_Tuning x.Tuning) S1 (by omega) (by omega)) fun h' x' => as_i (br_f (decide_eq_false (by omega)) ?_)
  have R := R.ext x'
  have X := X.trans x'
  refine R.oL2 fun b1 l1 c1 S1 => goX (held_EventS_c (xs := x.Events) (k + n_Tuning x.Tuning + n_InstrumentS x.Instruments) S1 (by omega) (by omega)) fun h' x' => as_i (br_f (decide_eq_false (by omega)) ?_)
  have R := R.ext x'
  have X := X.trans x'
  exact ⟨by congr 2 <;> (unfold n_Score; omega), X⟩
end
end Go.Sx
