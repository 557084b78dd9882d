/- The laws' helpers over scores, strings, bows, voices and players: what they compute. -/
import Derived.Test.YtnhcoeogejgidadGreatDoorLr3
import Derived.Test.YtnhcoeogejgidadGreatDoorH4
import Derived.Test.YtnhcoeogejgidadGreatDoorLr7
set_option linter.unusedVariables false
set_option linter.unusedSimpArgs false
namespace Go.Sx
open Go.Proofs
set_option maxRecDepth 100000

section
variable {h : Heap}
theorem eq_Tuning_c {ca cb : Array Value} {x : GTuning} (Ra : rTuning.rd h ca.toList x) (Rb : rTuning.rd h cb.toList x) : CALL prg f_laws_eqTuning #[.agg ca, .agg cb] (fun u h' => u = .bool true ∧ Ext h h') h := by
  refine laws_eqTuning.call (alcR Ra fun g1 h1 x1 A => alcR (rTuning.ext x1 Rb) fun g2 h2 x2 B => ?_)
  have A := A.ext x2
  have X := x1.trans x2
  refine A.oF2 fun y hy => ffc_wide hy fun r1 k1 => B.oF2 fun z hz => ffc_wide hz fun r2 k2 => goX (sameW_c k1 k2 _) fun h' x' => as_b (br_f rfl ?_)
  have A := A.ext x'
  have B := B.ext x'
  have X := X.trans x'
  refine A.oF2 fun y hy => ffc_wide hy fun r1 k1 => B.oF2 fun z hz => ffc_wide hz fun r2 k2 => goX (sameW_c k1 k2 _) fun h' x' => as_b (br_f rfl ?_)
  have A := A.ext x'
  have B := B.ext x'
  have X := X.trans x'
  refine A.oL2 fun b1 l1 c1 S1 => B.oL2 fun b2 l2 c2 S2 => goX (eq_Float32S_c S1 S2) fun h' x' => as_b (br_f rfl ?_)
  have A := A.ext x'
  have B := B.ext x'
  have X := X.trans x'
  exact ⟨rfl, X⟩
def w_Tuning (x : GTuning) : Nat := w_Float32S x.Degrees
theorem sz_Tuning_c {cs : Array Value} {x : GTuning} (R0 : rTuning.rd h cs.toList x) (left : Nat) (hl : left ≤ 1048576) : CALL prg f_laws_szTuning #[.agg cs, .int .i64 (left : Int)] (fun u h' => u = .int .i64 (subW left (w_Tuning x)) ∧ Ext h h') h := by
  have hw : w_Tuning x = w_Float32S x.Degrees := rfl
  refine laws_szTuning.call (alcR R0 fun g1 h1 X R => ?_)
  refine R.oL2 fun b1 l1 c1 S1 => goX (sz_Float32S_c S1 (left) (by omega)) fun h' x' => as_i (sz_bif (fun hc => ⟨by rw [subW_neg (by omega)], X.trans x'⟩) fun hc => ?_)
  rw [subW_pos hc]
  have R := R.ext x'
  have X := X.trans x'
  exact ⟨by rw [subW_pos (by omega)]; congr 2 <;> omega, X⟩
theorem to_Tuning_c {cs : Array Value} {x : GTuning} (R0 : rTuning.rd h cs.toList x) (hw0 : w_Tuning x ≤ 1048576) : CALL prg f_laws_toTuning #[.agg cs] (fun u h' => NewR rTuning h h' u x) h := by
  have hw : w_Tuning x = w_Float32S x.Degrees := rfl
  refine laws_toTuning.call ((Mem.start h).alc fun g1 h1 x1 M => M.alc fun g2 h2 x2 M => M.alc fun g3 h3 x3 M => ?_)
  have P : Pt rTuning h h3 ⟨g3, 0, none⟩ ⟨g3, T_impl_Tuning, [], []⟩ [(g2, T_impl_Tuning, ⟨Z_impl_Tuning⟩), (g1, T_laws_Tuning, cs)] z_Tuning := Pt.new (r := rTuning) zow_Tuning M
  have R : RdP rTuning _ ⟨g1, 0, none⟩ x := P.mem.rdp (.there .here) (rTuning.ext P.ext R0)
  refine R.oF2 fun y hy => P.stFg hy fun h' P => ?_
  have R : RdP rTuning _ ⟨g1, 0, none⟩ x := P.mem.rdp (.there .here) (rTuning.ext P.ext R0)
  refine R.oF2 fun y hy => P.stFg hy fun h' P => ?_
  have R : RdP rTuning _ ⟨g1, 0, none⟩ x := P.mem.rdp (.there .here) (rTuning.ext P.ext R0)
  refine R.oL2 fun b l c S => (to_Float32S_c S (by have := S.len; omega)).mono ?_
  rintro _ h' ⟨b', c', B, rfl, O, N⟩
  refine as_l ((P.join N).stLg O fun h' P => ?_)
  obtain ⟨c', B, M, O⟩ := P.out
  refine M.lda0 .here (osz O rfl) ?_
  have M := M.cnt (W := (g2, T_impl_Tuning, ⟨Z_impl_Tuning⟩) :: B) (fun p => by simp only [cnt_app, cnt_cons, cnt_nil] at *; omega)
  refine M.sta0 .here (osz O rfl) (rTuning.oone O) rfl .here fun h3 M => M.lda0 .here (osz O rfl) ?_
  exact ⟨_, B, rfl, O, M.drop⟩
theorem eq_Instrument_c {ca cb : Array Value} {x : GInstrument} (Ra : rInstrument.rd h ca.toList x) (Rb : rInstrument.rd h cb.toList x) : CALL prg f_laws_eqInstrument #[.agg ca, .agg cb] (fun u h' => u = .bool true ∧ Ext h h') h := by
  refine laws_eqInstrument.call (alcR Ra fun g1 h1 x1 A => alcR (rInstrument.ext x1 Rb) fun g2 h2 x2 B => ?_)
  have A := A.ext x2
  have X := x1.trans x2
  refine A.oS2 fun _ => B.oS2 fun _ => br_f (by simp) ?_
  refine A.oI2 (B.oI2 (br_f (by simp) ?_))
  refine A.oF2 fun y hy => ffc_wide hy fun r1 k1 => B.oF2 fun z hz => ffc_wide hz fun r2 k2 => goX (sameW_c k1 k2 _) fun h' x' => as_b (br_f rfl ?_)
  have A := A.ext x'
  have B := B.ext x'
  have X := X.trans x'
  refine A.oF2 fun y hy => ffc_wide hy fun r1 k1 => B.oF2 fun z hz => ffc_wide hz fun r2 k2 => goX (sameW_c k1 k2 _) fun h' x' => as_b (br_f rfl ?_)
  have A := A.ext x'
  have B := B.ext x'
  have X := X.trans x'
  refine A.oF2 fun y hy => ffc_wide hy fun r1 k1 => B.oF2 fun z hz => ffc_wide hz fun r2 k2 => goX (sameW_c k1 k2 _) fun h' x' => as_b (br_f rfl ?_)
  have A := A.ext x'
  have B := B.ext x'
  have X := X.trans x'
  exact ⟨rfl, X⟩
def w_Instrument (x : GInstrument) : Nat := x.Name.size
theorem sz_Instrument_c {cs : Array Value} {x : GInstrument} (R0 : rInstrument.rd h cs.toList x) (left : Nat) (hl : left ≤ 1048576) : CALL prg f_laws_szInstrument #[.agg cs, .int .i64 (left : Int)] (fun u h' => u = .int .i64 (subW left (w_Instrument x)) ∧ Ext h h') h := by
  have hm := maxLen_lt
  refine laws_szInstrument.call (alcR R0 fun g1 h1 X R => R.oS2 fun hs => ?_)
  have hw : w_Instrument x = x.Name.size := rfl
  rw [wrap64 (n := (left : Int) - (x.Name.size : Int)) (by omega) (by omega)]
  refine brd (fun hc => ⟨by rw [subW_neg (by omega)], X⟩) fun hc => ⟨by rw [subW_pos (by omega)]; congr 1; omega, X⟩
theorem to_Instrument_c {cs : Array Value} {x : GInstrument} (R0 : rInstrument.rd h cs.toList x) : CALL prg f_laws_toInstrument #[.agg cs] (fun u h' => NewR rInstrument h h' u x) h := by
  refine laws_toInstrument.call ((Mem.start h).alc fun g1 h1 x1 M => M.alc fun g2 h2 x2 M => M.alc fun g3 h3 x3 M => ?_)
  have P : Pt rInstrument h h3 ⟨g3, 0, none⟩ ⟨g3, T_impl_Instrument, [], []⟩ [(g2, T_impl_Instrument, ⟨Z_impl_Instrument⟩), (g1, T_laws_Instrument, cs)] z_Instrument := Pt.new (r := rInstrument) zow_Instrument M
  have R : RdP rInstrument _ ⟨g1, 0, none⟩ x := P.mem.rdp (.there .here) (rInstrument.ext P.ext R0)
  refine R.oS2 fun hs => P.stS2 hs fun h' P => ?_
  have R : RdP rInstrument _ ⟨g1, 0, none⟩ x := P.mem.rdp (.there .here) (rInstrument.ext P.ext R0)
  refine R.oI2 (P.stI2 fun h' P => ?_)
  have R : RdP rInstrument _ ⟨g1, 0, none⟩ x := P.mem.rdp (.there .here) (rInstrument.ext P.ext R0)
  refine R.oF2 fun y hy => P.stFg hy fun h' P => ?_
  have R : RdP rInstrument _ ⟨g1, 0, none⟩ x := P.mem.rdp (.there .here) (rInstrument.ext P.ext R0)
  refine R.oF2 fun y hy => P.stFg hy fun h' P => ?_
  have R : RdP rInstrument _ ⟨g1, 0, none⟩ x := P.mem.rdp (.there .here) (rInstrument.ext P.ext R0)
  refine R.oF2 fun y hy => P.stFg hy fun h' P => ?_
  obtain ⟨c', B, M, O⟩ := P.out
  refine M.lda0 .here (osz O rfl) ?_
  have M := M.cnt (W := (g2, T_impl_Instrument, ⟨Z_impl_Instrument⟩) :: B) (fun p => by simp only [cnt_app, cnt_cons, cnt_nil] at *; omega)
  refine M.sta0 .here (osz O rfl) (rInstrument.oone O) rfl .here fun h3 M => M.lda0 .here (osz O rfl) ?_
  exact ⟨_, B, rfl, O, M.drop⟩
theorem szp_Instrument : 0 < rInstrument.sz := by decide
def w_InstrumentS (xs : List GInstrument) : Nat := xs.length + nL w_Instrument xs
theorem sz_InstrumentS_c {b : Option Addr} {l c : Nat} {xs : List GInstrument} (S : SlR rInstrument h b l c xs) (left : Nat) (hl : left ≤ 1048576) : CALL prg f_laws_szInstrumentS #[.slice b l c, .int .i64 (left : Int)] (fun u h' => u = .int .i64 (subW left (w_InstrumentS xs)) ∧ Ext h h') h := by
  have hx := S.len
  have h2 := S.2.1
  have h3 := S.2.2.1
  have hw : w_InstrumentS xs = xs.length + nL w_Instrument xs := rfl
  have := maxLen_lt
  refine laws_szInstrumentS.call ?_
  unfold laws_szInstrumentS.S
  rw [wrap64 (n := (left : Int) - (l : Int)) (by omega) (by omega)]
  refine brd (fun hc => ⟨by rw [subW_neg (by omega)], Ext.refl _⟩) fun hc => ?_
  refine loop (fun x hh => ∃ m : Nat, x = (b, l, c, ((left - l - nL w_Instrument (xs.take m) : Nat) : Int), (m : Int)) ∧ m ≤ l ∧ Ext h hh ∧ nL w_Instrument (xs.take m) ≤ left - l) (fun x => (l - x.2.2.2.2).toNat) ⟨0, by rw [show ((left : Int) - (l : Int)) = ((left - l : Nat) : Int) by omega]; rfl, by omega, Ext.refl _, Nat.zero_le _⟩ ?_
  rintro x hh ⟨m, rfl, hn, X, hm⟩
  refine brd (fun hc => ?_) fun hc => ?_
  · have h4 := nL_snoc (n := w_Instrument) (xs := xs) (i := m) (by omega)
    have h5 := nL_take_le (n := w_Instrument) xs (m + 1)
    refine (S.ext X).idx szp_Instrument (by omega) (by omega) fun a Ra => Ra.lda1 rfl fun c1 R1 => goX (sz_Instrument_c R1 _ (by omega)) fun h' x' => as_i (sz_bif (fun hb => ⟨by rw [Int.toNat_natCast] at hb; rw [subW_neg (by omega)], X.trans x'⟩) fun hb => ?_)
    rw [subW_pos hb, wrap64_succ (by omega)]
    rw [Int.toNat_natCast] at hb ⊢
    exact ⟨⟨m + 1, by rw [h4, Nat.sub_sub], by omega, X.trans x', by omega⟩, by show _ < _; simp; omega⟩
  · obtain rfl : m = l := by omega
    have e : xs.take m = xs := by rw [← hx]; exact List.take_length
    rw [e] at hm ⊢
    exact ⟨by rw [subW_pos (by omega), hw, hx, Nat.sub_sub], X⟩
theorem to_InstrumentS_c {b : Option Addr} {l c : Nat} {xs : List GInstrument} (S : SlR rInstrument h b l c xs) (hl0 : w_InstrumentS xs ≤ 1048576) : CALL prg f_laws_toInstrumentS #[.slice b l c] (fun u h' => ∃ b' c' B, u = .slice b' l c' ∧ SlO T_impl_Instrument rInstrument B b' l c' xs ∧ Mem h h' B) h := by
  have hxl := S.len
  have hw : w_InstrumentS xs = xs.length + nL w_Instrument xs := rfl
  have hl : l ≤ 1048576 := by omega
  refine laws_toInstrumentS.call ?_
  refine make_sl (r := rInstrument) (z := z_Instrument) (zc := Z_impl_Instrument) zow_Instrument rfl rfl (by decide) (Mem.start h) (by show 40 * l ≤ 2 ^ 48; omega) (Nat.le_trans hl (by decide)) fun g h1 x1 M0 O0 => ?_
  refine loop (fun x hh => ∃ (n : Nat) (B : List Blk), x = (b, l, c, some ⟨g, 0, none⟩, l, l, (n : Int)) ∧ n ≤ l ∧ SlO T_impl_Instrument rInstrument B (some ⟨g, 0, none⟩) l l (xs.take n ++ List.replicate (l - n) z_Instrument) ∧ Mem h hh (B ++ [])) (fun x => (l - x.2.2.2.2.2.2).toNat) ⟨0, _, rfl, by omega, O0, M0⟩ ?_
  rintro x hh ⟨n, B, rfl, hn, O, M⟩
  refine brd (fun hc => ?_) fun hc => ?_
  · have h5 : w_Instrument xs[n]! ≤ nL w_Instrument xs := nL_mem (by omega)
    refine (S.ext M.ext).idx szp_Instrument (by omega) (by omega) fun a Ra => Ra.lda1 rfl fun c1 R1 => NewR.go M (to_Instrument_c R1) fun h' c2 B2 M2 O2 ho => as_a ?_
    obtain ⟨a0, F', C, e, op, close⟩ := O.elem2 (i := n) (by omega)
    cases e
    have P := (op _ _ B2 (M2.cnt (fun p => by simp only [cnt_app, cnt_cons, cnt_nil] at *; omega))).cnt (W := B2 ++ (C ++ [])) (fun p => by simp only [cnt_app, cnt_cons, cnt_nil] at *; omega)
    refine idxs (by omega) (by omega) ?_
    rw [Int.toNat_natCast] at O2
    rw [Int.toNat_natCast, show n * 5 = n * rInstrument.sz from rfl]
    refine (add0 ((⟨g, 0, none⟩ : Addr).add (n * rInstrument.sz))) ▸ P.sts (Foc.here rInstrument) rfl O2 fun h'' P => ?_
    obtain ⟨B', O', M'⟩ := close _ _ _ _ P
    have e : (xs.take n ++ List.replicate (l - n) z_Instrument).set n xs[n]! = xs.take (n + 1) ++ List.replicate (l - (n + 1)) z_Instrument := by rw [getElem!_pos xs n (by omega)]; exact copy_step hxl (by omega)
    rw [e] at O'
    rw [wrap64_succ (by omega)]
    exact ⟨⟨n + 1, B', rfl, by omega, O', M'⟩, by show _ < _; simp; omega⟩
  · obtain rfl : n = l := by omega
    rw [show xs.take n ++ List.replicate (n - n) z_Instrument = xs by rw [← hxl]; simp] at O
    rw [List.append_nil] at M
    exact ⟨_, _, B, rfl, O, M⟩
theorem eq_InstrumentS_c {b1 b2 : Option Addr} {l1 c1 l2 c2 : Nat} {xs : List GInstrument} (S1 : SlR rInstrument h b1 l1 c1 xs) (S2 : SlR rInstrument h b2 l2 c2 xs) : CALL prg f_laws_eqInstrumentS #[.slice b1 l1 c1, .slice b2 l2 c2] (fun u h' => u = .bool true ∧ Ext h h') h := by
  have e1 := S1.len
  have e2 := S2.len
  have h2 := S1.2.1
  have h3 := S1.2.2.1
  have := maxLen_lt
  obtain rfl : l1 = l2 := by omega
  refine laws_eqInstrumentS.call (br_f (by simp) ?_)
  refine loop (fun x hh => ∃ n : Nat, x = (b1, l1, c1, b2, l1, c2, (n : Int)) ∧ n ≤ l1 ∧ Ext h hh) (fun x => (l1 - x.2.2.2.2.2.2).toNat) ⟨0, rfl, by omega, Ext.refl _⟩ ?_
  rintro x hh ⟨n, rfl, hn, X⟩
  refine brd (fun hc => ?_) fun hc => ⟨rfl, X⟩
  refine (S1.ext X).idx szp_Instrument (by omega) (by omega) fun a Ra => Ra.lda1 rfl fun ca R1 => (S2.ext X).idx szp_Instrument (by omega) (by omega) fun a' Rb => Rb.lda1 rfl fun cb R2 => goX (eq_Instrument_c R1 R2) fun h' x' => as_b (br_f rfl ?_)
  rw [wrap64_succ (by omega)]
  exact ⟨⟨n + 1, rfl, by omega, X.trans x'⟩, by show _ < _; simp; omega⟩
theorem eq_Event_c {ca cb : Array Value} {x : GEvent} (Ra : rEvent.rd h ca.toList x) (Rb : rEvent.rd h cb.toList x) : CALL prg f_laws_eqEvent #[.agg ca, .agg cb] (fun u h' => u = .bool true ∧ Ext h h') h := by
  refine laws_eqEvent.call (alcR Ra fun g1 h1 x1 A => alcR (rEvent.ext x1 Rb) fun g2 h2 x2 B => ?_)
  have A := A.ext x2
  have X := x1.trans x2
  refine A.oI2 (B.oI2 (br_f (by simp) ?_))
  refine A.oI2 (B.oI2 (br_f (by simp) ?_))
  refine A.oI2 (B.oI2 (br_f (by simp) ?_))
  refine A.oI2 (B.oI2 (br_f (by simp) ?_))
  refine A.oI2 (B.oI2 (br_f (by simp) ?_))
  refine A.oF2 fun y hy => ffc_wide hy fun r1 k1 => B.oF2 fun z hz => ffc_wide hz fun r2 k2 => goX (sameW_c k1 k2 _) fun h' x' => as_b (br_f rfl ?_)
  have A := A.ext x'
  have B := B.ext x'
  have X := X.trans x'
  exact ⟨rfl, X⟩
theorem to_Event_c {cs : Array Value} {x : GEvent} (R0 : rEvent.rd h cs.toList x) : CALL prg f_laws_toEvent #[.agg cs] (fun u h' => NewR rEvent h h' u x) h := by
  refine laws_toEvent.call ((Mem.start h).alc fun g1 h1 x1 M => M.alc fun g2 h2 x2 M => M.alc fun g3 h3 x3 M => ?_)
  have P : Pt rEvent h h3 ⟨g3, 0, none⟩ ⟨g3, T_impl_Event, [], []⟩ [(g2, T_impl_Event, ⟨Z_impl_Event⟩), (g1, T_laws_Event, cs)] z_Event := Pt.new (r := rEvent) zow_Event M
  have R : RdP rEvent _ ⟨g1, 0, none⟩ x := P.mem.rdp (.there .here) (rEvent.ext P.ext R0)
  refine R.oI2 (P.stI2 fun h' P => ?_)
  have R : RdP rEvent _ ⟨g1, 0, none⟩ x := P.mem.rdp (.there .here) (rEvent.ext P.ext R0)
  refine R.oI2 (P.stI2 fun h' P => ?_)
  have R : RdP rEvent _ ⟨g1, 0, none⟩ x := P.mem.rdp (.there .here) (rEvent.ext P.ext R0)
  refine R.oI2 (P.stI2 fun h' P => ?_)
  have R : RdP rEvent _ ⟨g1, 0, none⟩ x := P.mem.rdp (.there .here) (rEvent.ext P.ext R0)
  refine R.oI2 (P.stI2 fun h' P => ?_)
  have R : RdP rEvent _ ⟨g1, 0, none⟩ x := P.mem.rdp (.there .here) (rEvent.ext P.ext R0)
  refine R.oI2 (P.stI2 fun h' P => ?_)
  have R : RdP rEvent _ ⟨g1, 0, none⟩ x := P.mem.rdp (.there .here) (rEvent.ext P.ext R0)
  refine R.oF2 fun y hy => P.stFg hy fun h' P => ?_
  obtain ⟨c', B, M, O⟩ := P.out
  refine M.lda0 .here (osz O rfl) ?_
  have M := M.cnt (W := (g2, T_impl_Event, ⟨Z_impl_Event⟩) :: B) (fun p => by simp only [cnt_app, cnt_cons, cnt_nil] at *; omega)
  refine M.sta0 .here (osz O rfl) (rEvent.oone O) rfl .here fun h3 M => M.lda0 .here (osz O rfl) ?_
  exact ⟨_, B, rfl, O, M.drop⟩
theorem sz_pos_Event : 0 < rEvent.sz := by decide
def w_EventS (xs : List GEvent) : Nat := xs.length
theorem sz_EventS_c {b : Option Addr} {l c : Nat} {xs : List GEvent} (S : SlR rEvent h b l c xs) (left : Nat) (hl : left ≤ 1048576) : CALL prg f_laws_szEventS #[.slice b l c, .int .i64 (left : Int)] (fun u h' => u = .int .i64 (subW left (w_EventS xs)) ∧ Ext h h') h := by
  have h1 : w_EventS xs = l := S.len
  have h2 := S.2.1
  have h3 := S.2.2.1
  have := maxLen_lt
  refine laws_szEventS.call ?_
  unfold laws_szEventS.S
  rw [wrap64 (n := (left : Int) - (l : Int)) (by omega) (by omega), h1]
  refine brd (fun hc => ⟨by rw [subW_neg (by omega)], Ext.refl _⟩) fun hc => ⟨by rw [subW_pos (by omega)]; congr 1; omega, Ext.refl _⟩
theorem to_EventS_c {b : Option Addr} {l c : Nat} {xs : List GEvent} (S : SlR rEvent h b l c xs) (hl0 : w_EventS xs ≤ 1048576) : CALL prg f_laws_toEventS #[.slice b l c] (fun u h' => ∃ b' c' B, u = .slice b' l c' ∧ SlO T_impl_Event rEvent B b' l c' xs ∧ Mem h h' B) h := by
  have hxl := S.len
  have hl : l ≤ 1048576 := by unfold w_EventS at hl0; omega
  refine laws_toEventS.call ?_
  refine make_sl (r := rEvent) (z := z_Event) (zc := Z_impl_Event) zow_Event rfl rfl (by decide) (Mem.start h) (by show 48 * l ≤ 2 ^ 48; omega) (Nat.le_trans hl (by decide)) fun g h1 x1 M0 O0 => ?_
  refine loop (fun x hh => ∃ (n : Nat) (B : List Blk), x = (b, l, c, some ⟨g, 0, none⟩, l, l, (n : Int)) ∧ n ≤ l ∧ SlO T_impl_Event rEvent B (some ⟨g, 0, none⟩) l l (xs.take n ++ List.replicate (l - n) z_Event) ∧ Mem h hh (B ++ [])) (fun x => (l - x.2.2.2.2.2.2).toNat) ⟨0, _, rfl, by omega, O0, M0⟩ ?_
  rintro x hh ⟨n, B, rfl, hn, O, M⟩
  refine brd (fun hc => ?_) fun hc => ?_
  · refine (S.ext M.ext).idx sz_pos_Event (by omega) (by omega) fun a Ra => Ra.lda1 rfl fun c1 R1 => NewR.go M (to_Event_c R1) fun h' c2 B2 M2 O2 ho => as_a ?_
    obtain ⟨a0, F', C, e, op, close⟩ := O.elem2 (i := n) (by omega)
    cases e
    have P := (op _ _ B2 (M2.cnt (fun p => by simp only [cnt_app, cnt_cons, cnt_nil] at *; omega))).cnt (W := B2 ++ (C ++ [])) (fun p => by simp only [cnt_app, cnt_cons, cnt_nil] at *; omega)
    refine idxs (by omega) (by omega) ?_
    rw [Int.toNat_natCast] at O2
    rw [Int.toNat_natCast, show n * 6 = n * rEvent.sz from rfl]
    refine (add0 ((⟨g, 0, none⟩ : Addr).add (n * rEvent.sz))) ▸ P.sts (Foc.here rEvent) rfl O2 fun h'' P => ?_
    obtain ⟨B', O', M'⟩ := close _ _ _ _ P
    have e : (xs.take n ++ List.replicate (l - n) z_Event).set n xs[n]! = xs.take (n + 1) ++ List.replicate (l - (n + 1)) z_Event := by rw [getElem!_pos xs n (by omega)]; exact copy_step hxl (by omega)
    rw [e] at O'
    rw [wrap64_succ (by omega)]
    exact ⟨⟨n + 1, B', rfl, by omega, O', M'⟩, by show _ < _; simp; omega⟩
  · obtain rfl : n = l := by omega
    rw [show xs.take n ++ List.replicate (n - n) z_Event = xs by rw [← hxl]; simp] at O
    rw [List.append_nil] at M
    exact ⟨_, _, B, rfl, O, M⟩
theorem eq_EventS_c {b1 b2 : Option Addr} {l1 c1 l2 c2 : Nat} {xs : List GEvent} (S1 : SlR rEvent h b1 l1 c1 xs) (S2 : SlR rEvent h b2 l2 c2 xs) : CALL prg f_laws_eqEventS #[.slice b1 l1 c1, .slice b2 l2 c2] (fun u h' => u = .bool true ∧ Ext h h') h := by
  have e1 := S1.len
  have e2 := S2.len
  have h2 := S1.2.1
  have h3 := S1.2.2.1
  have := maxLen_lt
  obtain rfl : l1 = l2 := by omega
  refine laws_eqEventS.call (br_f (by simp) ?_)
  refine loop (fun x hh => ∃ n : Nat, x = (b1, l1, c1, b2, l1, c2, (n : Int)) ∧ n ≤ l1 ∧ Ext h hh) (fun x => (l1 - x.2.2.2.2.2.2).toNat) ⟨0, rfl, by omega, Ext.refl _⟩ ?_
  rintro x hh ⟨n, rfl, hn, X⟩
  refine brd (fun hc => ?_) fun hc => ⟨rfl, X⟩
  refine (S1.ext X).idx sz_pos_Event (by omega) (by omega) fun a Ra => Ra.lda1 rfl fun ca R1 => (S2.ext X).idx sz_pos_Event (by omega) (by omega) fun a' Rb => Rb.lda1 rfl fun cb R2 => goX (eq_Event_c R1 R2) fun h' x' => as_b (br_f rfl ?_)
  rw [wrap64_succ (by omega)]
  exact ⟨⟨n + 1, rfl, by omega, X.trans x'⟩, by show _ < _; simp; omega⟩
theorem eq_Score_c {ca cb : Array Value} {x : GScore} (Ra : rScore.rd h ca.toList x) (Rb : rScore.rd h cb.toList x) : CALL prg f_laws_eqScore #[.agg ca, .agg cb] (fun u h' => u = .bool true ∧ Ext h h') h := by
  refine laws_eqScore.call (alcR Ra fun g1 h1 x1 A => alcR (rScore.ext x1 Rb) fun g2 h2 x2 B => ?_)
  have A := A.ext x2
  have X := x1.trans x2
  refine A.oF2 fun y hy => ffc_wide hy fun r1 k1 => B.oF2 fun z hz => ffc_wide hz fun r2 k2 => goX (sameW_c k1 k2 _) fun h' x' => as_b (br_f rfl ?_)
  have A := A.ext x'
  have B := B.ext x'
  have X := X.trans x'
  refine A.lda2 foc_Score_Tuning rfl fun c1 R1 => B.lda2 foc_Score_Tuning rfl fun c2 R2 => goX (eq_Tuning_c R1 R2) fun h' x' => as_b (br_f rfl ?_)
  have A := A.ext x'
  have B := B.ext x'
  have X := X.trans x'
  refine A.oL2 fun b1 l1 c1 S1 => B.oL2 fun b2 l2 c2 S2 => goX (eq_InstrumentS_c S1 S2) fun h' x' => as_b (br_f rfl ?_)
  have A := A.ext x'
  have B := B.ext x'
  have X := X.trans x'
  refine A.oL2 fun b1 l1 c1 S1 => B.oL2 fun b2 l2 c2 S2 => goX (eq_EventS_c S1 S2) fun h' x' => as_b (br_f rfl ?_)
  have A := A.ext x'
  have B := B.ext x'
  have X := X.trans x'
  exact ⟨rfl, X⟩
def w_Score (x : GScore) : Nat := w_Tuning x.Tuning + w_InstrumentS x.Instruments + w_EventS x.Events
theorem sz_Score_c {cs : Array Value} {x : GScore} (R0 : rScore.rd h cs.toList x) (left : Nat) (hl : left ≤ 1048576) : CALL prg f_laws_szScore #[.agg cs, .int .i64 (left : Int)] (fun u h' => u = .int .i64 (subW left (w_Score x)) ∧ Ext h h') h := by
  have hw : w_Score x = w_Tuning x.Tuning + w_InstrumentS x.Instruments + w_EventS x.Events := rfl
  refine laws_szScore.call (alcR R0 fun g1 h1 X R => ?_)
  refine R.lda2 foc_Score_Tuning rfl fun c1 R1 => goX (sz_Tuning_c R1 (left) (by omega)) fun h' x' => as_i (sz_bif (fun hc => ⟨by rw [subW_neg (by omega)], X.trans x'⟩) fun hc => ?_)
  rw [subW_pos hc]
  have R := R.ext x'
  have X := X.trans x'
  refine R.oL2 fun b1 l1 c1 S1 => goX (sz_InstrumentS_c S1 (left - w_Tuning x.Tuning) (by omega)) fun h' x' => as_i (sz_bif (fun hc => ⟨by rw [subW_neg (by omega)], X.trans x'⟩) fun hc => ?_)
  rw [subW_pos hc]
  have R := R.ext x'
  have X := X.trans x'
  refine R.oL2 fun b1 l1 c1 S1 => goX (sz_EventS_c S1 (left - w_Tuning x.Tuning - w_InstrumentS x.Instruments) (by omega)) fun h' x' => as_i (sz_bif (fun hc => ⟨by rw [subW_neg (by omega)], X.trans x'⟩) fun hc => ?_)
  rw [subW_pos hc]
  have R := R.ext x'
  have X := X.trans x'
  exact ⟨by rw [subW_pos (by omega)]; congr 2 <;> omega, X⟩
theorem to_Score_c {cs : Array Value} {x : GScore} (R0 : rScore.rd h cs.toList x) (hw0 : w_Score x ≤ 1048576) : CALL prg f_laws_toScore #[.agg cs] (fun u h' => NewR rScore h h' u x) h := by
  have hw : w_Score x = w_Tuning x.Tuning + w_InstrumentS x.Instruments + w_EventS x.Events := rfl
  refine laws_toScore.call ((Mem.start h).alc fun g1 h1 x1 M => M.alc fun g2 h2 x2 M => M.alc fun g3 h3 x3 M => ?_)
  have P : Pt rScore h h3 ⟨g3, 0, none⟩ ⟨g3, T_impl_Score, [], []⟩ [(g2, T_impl_Score, ⟨Z_impl_Score⟩), (g1, T_laws_Score, cs)] z_Score := Pt.new (r := rScore) zow_Score M
  have R : RdP rScore _ ⟨g1, 0, none⟩ x := P.mem.rdp (.there .here) (rScore.ext P.ext R0)
  refine R.oF2 fun y hy => P.stFg hy fun h' P => ?_
  have R : RdP rScore _ ⟨g1, 0, none⟩ x := P.mem.rdp (.there .here) (rScore.ext P.ext R0)
  refine R.lda2 foc_Score_Tuning rfl fun c1 R1 => NewR.pt P (to_Tuning_c R1 (by omega)) fun h' c2 B P O ho => as_a (P.stsg foc_Score_Tuning rfl O fun h' P => ?_)
  have R : RdP rScore _ ⟨g1, 0, none⟩ x := P.mem.rdp (.there .here) (rScore.ext P.ext R0)
  refine R.oL2 fun b l c S => (to_InstrumentS_c S (by have := S.len; omega)).mono ?_
  rintro _ h' ⟨b', c', B, rfl, O, N⟩
  refine as_l ((P.join N).stLg O fun h' P => ?_)
  have R : RdP rScore _ ⟨g1, 0, none⟩ x := P.mem.rdp (.there .here) (rScore.ext P.ext R0)
  refine R.oL2 fun b l c S => (to_EventS_c S (by have := S.len; omega)).mono ?_
  rintro _ h' ⟨b', c', B, rfl, O, N⟩
  refine as_l ((P.join N).stLg O fun h' P => ?_)
  obtain ⟨c', B, M, O⟩ := P.out
  refine M.lda0 .here (osz O rfl) ?_
  have M := M.cnt (W := (g2, T_impl_Score, ⟨Z_impl_Score⟩) :: B) (fun p => by simp only [cnt_app, cnt_cons, cnt_nil] at *; omega)
  refine M.sta0 .here (osz O rfl) (rScore.oone O) rfl .here fun h3 M => M.lda0 .here (osz O rfl) ?_
  exact ⟨_, B, rfl, O, M.drop⟩
theorem eq_String_c {ca cb : Array Value} {x : GString} (Ra : rString.rd h ca.toList x) (Rb : rString.rd h cb.toList x) : CALL prg f_laws_eqString #[.agg ca, .agg cb] (fun u h' => u = .bool true ∧ Ext h h') h := by
  refine laws_eqString.call (alcR Ra fun g1 h1 x1 A => alcR (rString.ext x1 Rb) fun g2 h2 x2 B => ?_)
  have A := A.ext x2
  have X := x1.trans x2
  refine A.lda2 foc_String_Loop rfl fun c1 R1 => B.lda2 foc_String_Loop rfl fun c2 R2 => goX (eq_Ring_c R1 R2) fun h' x' => as_b (br_f rfl ?_)
  have A := A.ext x'
  have B := B.ext x'
  have X := X.trans x'
  refine A.lda2 foc_String_Tune rfl fun c1 R1 => B.lda2 foc_String_Tune rfl fun c2 R2 => goX (eq_Filter_c R1 R2) fun h' x' => as_b (br_f rfl ?_)
  have A := A.ext x'
  have B := B.ext x'
  have X := X.trans x'
  refine A.lda2 foc_String_Damp rfl fun c1 R1 => B.lda2 foc_String_Damp rfl fun c2 R2 => goX (eq_Filter_c R1 R2) fun h' x' => as_b (br_f rfl ?_)
  have A := A.ext x'
  have B := B.ext x'
  have X := X.trans x'
  refine A.oF2 fun y hy => ffc_wide hy fun r1 k1 => B.oF2 fun z hz => ffc_wide hz fun r2 k2 => goX (sameW_c k1 k2 _) fun h' x' => as_b (br_f rfl ?_)
  have A := A.ext x'
  have B := B.ext x'
  have X := X.trans x'
  exact ⟨rfl, X⟩
def w_String (x : GString) : Nat := w_Ring x.Loop
theorem sz_String_c {cs : Array Value} {x : GString} (R0 : rString.rd h cs.toList x) (left : Nat) (hl : left ≤ 1048576) : CALL prg f_laws_szString #[.agg cs, .int .i64 (left : Int)] (fun u h' => u = .int .i64 (subW left (w_String x)) ∧ Ext h h') h := by
  have hw : w_String x = w_Ring x.Loop := rfl
  refine laws_szString.call (alcR R0 fun g1 h1 X R => ?_)
  refine R.lda2 foc_String_Loop rfl fun c1 R1 => goX (sz_Ring_c R1 (left) (by omega)) fun h' x' => as_i (sz_bif (fun hc => ⟨by rw [subW_neg (by omega)], X.trans x'⟩) fun hc => ?_)
  rw [subW_pos hc]
  have R := R.ext x'
  have X := X.trans x'
  exact ⟨by rw [subW_pos (by omega)]; congr 2 <;> omega, X⟩
theorem to_String_c {cs : Array Value} {x : GString} (R0 : rString.rd h cs.toList x) (hw0 : w_String x ≤ 1048576) : CALL prg f_laws_toString #[.agg cs] (fun u h' => NewR rString h h' u x) h := by
  have hw : w_String x = w_Ring x.Loop := rfl
  refine laws_toString.call ((Mem.start h).alc fun g1 h1 x1 M => M.alc fun g2 h2 x2 M => M.alc fun g3 h3 x3 M => ?_)
  have P : Pt rString h h3 ⟨g3, 0, none⟩ ⟨g3, T_impl_String, [], []⟩ [(g2, T_impl_String, ⟨Z_impl_String⟩), (g1, T_laws_String, cs)] z_String := Pt.new (r := rString) zow_String M
  have R : RdP rString _ ⟨g1, 0, none⟩ x := P.mem.rdp (.there .here) (rString.ext P.ext R0)
  refine R.lda2 foc_String_Loop rfl fun c1 R1 => NewR.pt P (to_Ring_c R1 (by omega)) fun h' c2 B P O ho => as_a (P.stsg foc_String_Loop rfl O fun h' P => ?_)
  have R : RdP rString _ ⟨g1, 0, none⟩ x := P.mem.rdp (.there .here) (rString.ext P.ext R0)
  refine R.lda2 foc_String_Tune rfl fun c1 R1 => NewR.pt P (to_Filter_c R1) fun h' c2 B P O ho => as_a (P.stsg foc_String_Tune rfl O fun h' P => ?_)
  have R : RdP rString _ ⟨g1, 0, none⟩ x := P.mem.rdp (.there .here) (rString.ext P.ext R0)
  refine R.lda2 foc_String_Damp rfl fun c1 R1 => NewR.pt P (to_Filter_c R1) fun h' c2 B P O ho => as_a (P.stsg foc_String_Damp rfl O fun h' P => ?_)
  have R : RdP rString _ ⟨g1, 0, none⟩ x := P.mem.rdp (.there .here) (rString.ext P.ext R0)
  refine R.oF2 fun y hy => P.stFg hy fun h' P => ?_
  obtain ⟨c', B, M, O⟩ := P.out
  refine M.lda0 .here (osz O rfl) ?_
  have M := M.cnt (W := (g2, T_impl_String, ⟨Z_impl_String⟩) :: B) (fun p => by simp only [cnt_app, cnt_cons, cnt_nil] at *; omega)
  refine M.sta0 .here (osz O rfl) (rString.oone O) rfl .here fun h3 M => M.lda0 .here (osz O rfl) ?_
  exact ⟨_, B, rfl, O, M.drop⟩
theorem eq_Bow_c {ca cb : Array Value} {x : GBow} (Ra : rBow.rd h ca.toList x) (Rb : rBow.rd h cb.toList x) : CALL prg f_laws_eqBow #[.agg ca, .agg cb] (fun u h' => u = .bool true ∧ Ext h h') h := by
  refine laws_eqBow.call (alcR Ra fun g1 h1 x1 A => alcR (rBow.ext x1 Rb) fun g2 h2 x2 B => ?_)
  have A := A.ext x2
  have X := x1.trans x2
  refine A.lda2 foc_Bow_Neck rfl fun c1 R1 => B.lda2 foc_Bow_Neck rfl fun c2 R2 => goX (eq_Ring_c R1 R2) fun h' x' => as_b (br_f rfl ?_)
  have A := A.ext x'
  have B := B.ext x'
  have X := X.trans x'
  refine A.lda2 foc_Bow_Bridge rfl fun c1 R1 => B.lda2 foc_Bow_Bridge rfl fun c2 R2 => goX (eq_Ring_c R1 R2) fun h' x' => as_b (br_f rfl ?_)
  have A := A.ext x'
  have B := B.ext x'
  have X := X.trans x'
  refine A.lda2 foc_Bow_Damp rfl fun c1 R1 => B.lda2 foc_Bow_Damp rfl fun c2 R2 => goX (eq_Filter_c R1 R2) fun h' x' => as_b (br_f rfl ?_)
  have A := A.ext x'
  have B := B.ext x'
  have X := X.trans x'
  refine A.oF2 fun y hy => ffc_wide hy fun r1 k1 => B.oF2 fun z hz => ffc_wide hz fun r2 k2 => goX (sameW_c k1 k2 _) fun h' x' => as_b (br_f rfl ?_)
  have A := A.ext x'
  have B := B.ext x'
  have X := X.trans x'
  refine A.oF2 fun y hy => ffc_wide hy fun r1 k1 => B.oF2 fun z hz => ffc_wide hz fun r2 k2 => goX (sameW_c k1 k2 _) fun h' x' => as_b (br_f rfl ?_)
  have A := A.ext x'
  have B := B.ext x'
  have X := X.trans x'
  exact ⟨rfl, X⟩
def w_Bow (x : GBow) : Nat := w_Ring x.Neck + w_Ring x.Bridge
theorem sz_Bow_c {cs : Array Value} {x : GBow} (R0 : rBow.rd h cs.toList x) (left : Nat) (hl : left ≤ 1048576) : CALL prg f_laws_szBow #[.agg cs, .int .i64 (left : Int)] (fun u h' => u = .int .i64 (subW left (w_Bow x)) ∧ Ext h h') h := by
  have hw : w_Bow x = w_Ring x.Neck + w_Ring x.Bridge := rfl
  refine laws_szBow.call (alcR R0 fun g1 h1 X R => ?_)
  refine R.lda2 foc_Bow_Neck rfl fun c1 R1 => goX (sz_Ring_c R1 (left) (by omega)) fun h' x' => as_i (sz_bif (fun hc => ⟨by rw [subW_neg (by omega)], X.trans x'⟩) fun hc => ?_)
  rw [subW_pos hc]
  have R := R.ext x'
  have X := X.trans x'
  refine R.lda2 foc_Bow_Bridge rfl fun c1 R1 => goX (sz_Ring_c R1 (left - w_Ring x.Neck) (by omega)) fun h' x' => as_i (sz_bif (fun hc => ⟨by rw [subW_neg (by omega)], X.trans x'⟩) fun hc => ?_)
  rw [subW_pos hc]
  have R := R.ext x'
  have X := X.trans x'
  exact ⟨by rw [subW_pos (by omega)]; congr 2 <;> omega, X⟩
theorem to_Bow_c {cs : Array Value} {x : GBow} (R0 : rBow.rd h cs.toList x) (hw0 : w_Bow x ≤ 1048576) : CALL prg f_laws_toBow #[.agg cs] (fun u h' => NewR rBow h h' u x) h := by
  have hw : w_Bow x = w_Ring x.Neck + w_Ring x.Bridge := rfl
  refine laws_toBow.call ((Mem.start h).alc fun g1 h1 x1 M => M.alc fun g2 h2 x2 M => M.alc fun g3 h3 x3 M => ?_)
  have P : Pt rBow h h3 ⟨g3, 0, none⟩ ⟨g3, T_impl_Bow, [], []⟩ [(g2, T_impl_Bow, ⟨Z_impl_Bow⟩), (g1, T_laws_Bow, cs)] z_Bow := Pt.new (r := rBow) zow_Bow M
  have R : RdP rBow _ ⟨g1, 0, none⟩ x := P.mem.rdp (.there .here) (rBow.ext P.ext R0)
  refine R.lda2 foc_Bow_Neck rfl fun c1 R1 => NewR.pt P (to_Ring_c R1 (by omega)) fun h' c2 B P O ho => as_a (P.stsg foc_Bow_Neck rfl O fun h' P => ?_)
  have R : RdP rBow _ ⟨g1, 0, none⟩ x := P.mem.rdp (.there .here) (rBow.ext P.ext R0)
  refine R.lda2 foc_Bow_Bridge rfl fun c1 R1 => NewR.pt P (to_Ring_c R1 (by omega)) fun h' c2 B P O ho => as_a (P.stsg foc_Bow_Bridge rfl O fun h' P => ?_)
  have R : RdP rBow _ ⟨g1, 0, none⟩ x := P.mem.rdp (.there .here) (rBow.ext P.ext R0)
  refine R.lda2 foc_Bow_Damp rfl fun c1 R1 => NewR.pt P (to_Filter_c R1) fun h' c2 B P O ho => as_a (P.stsg foc_Bow_Damp rfl O fun h' P => ?_)
  have R : RdP rBow _ ⟨g1, 0, none⟩ x := P.mem.rdp (.there .here) (rBow.ext P.ext R0)
  refine R.oF2 fun y hy => P.stFg hy fun h' P => ?_
  have R : RdP rBow _ ⟨g1, 0, none⟩ x := P.mem.rdp (.there .here) (rBow.ext P.ext R0)
  refine R.oF2 fun y hy => P.stFg hy fun h' P => ?_
  obtain ⟨c', B, M, O⟩ := P.out
  refine M.lda0 .here (osz O rfl) ?_
  have M := M.cnt (W := (g2, T_impl_Bow, ⟨Z_impl_Bow⟩) :: B) (fun p => by simp only [cnt_app, cnt_cons, cnt_nil] at *; omega)
  refine M.sta0 .here (osz O rfl) (rBow.oone O) rfl .here fun h3 M => M.lda0 .here (osz O rfl) ?_
  exact ⟨_, B, rfl, O, M.drop⟩
theorem eq_Voice_c {ca cb : Array Value} {x : GVoice} (Ra : rVoice.rd h ca.toList x) (Rb : rVoice.rd h cb.toList x) : CALL prg f_laws_eqVoice #[.agg ca, .agg cb] (fun u h' => u = .bool true ∧ Ext h h') h := by
  refine laws_eqVoice.call (alcR Ra fun g1 h1 x1 A => alcR (rVoice.ext x1 Rb) fun g2 h2 x2 B => ?_)
  have A := A.ext x2
  have X := x1.trans x2
  refine A.oI2 (B.oI2 (br_f (by simp) ?_))
  refine A.oI2 (B.oI2 (br_f (by simp) ?_))
  refine A.oI2 (B.oI2 (br_f (by simp) ?_))
  refine A.oB2 (B.oB2 (br_f (by simp) ?_))
  refine A.oF2 fun y hy => ffc_wide hy fun r1 k1 => B.oF2 fun z hz => ffc_wide hz fun r2 k2 => goX (sameW_c k1 k2 _) fun h' x' => as_b (br_f rfl ?_)
  have A := A.ext x'
  have B := B.ext x'
  have X := X.trans x'
  refine A.lda2 foc_Voice_String rfl fun c1 R1 => B.lda2 foc_Voice_String rfl fun c2 R2 => goX (eq_String_c R1 R2) fun h' x' => as_b (br_f rfl ?_)
  have A := A.ext x'
  have B := B.ext x'
  have X := X.trans x'
  refine A.lda2 foc_Voice_Pipe rfl fun c1 R1 => B.lda2 foc_Voice_Pipe rfl fun c2 R2 => goX (eq_Pipe_c R1 R2) fun h' x' => as_b (br_f rfl ?_)
  have A := A.ext x'
  have B := B.ext x'
  have X := X.trans x'
  refine A.lda2 foc_Voice_Bow rfl fun c1 R1 => B.lda2 foc_Voice_Bow rfl fun c2 R2 => goX (eq_Bow_c R1 R2) fun h' x' => as_b (br_f rfl ?_)
  have A := A.ext x'
  have B := B.ext x'
  have X := X.trans x'
  exact ⟨rfl, X⟩
def w_Voice (x : GVoice) : Nat := w_String x.String + w_Pipe x.Pipe + w_Bow x.Bow
theorem sz_Voice_c {cs : Array Value} {x : GVoice} (R0 : rVoice.rd h cs.toList x) (left : Nat) (hl : left ≤ 1048576) : CALL prg f_laws_szVoice #[.agg cs, .int .i64 (left : Int)] (fun u h' => u = .int .i64 (subW left (w_Voice x)) ∧ Ext h h') h := by
  have hw : w_Voice x = w_String x.String + w_Pipe x.Pipe + w_Bow x.Bow := rfl
  refine laws_szVoice.call (alcR R0 fun g1 h1 X R => ?_)
  refine R.lda2 foc_Voice_String rfl fun c1 R1 => goX (sz_String_c R1 (left) (by omega)) fun h' x' => as_i (sz_bif (fun hc => ⟨by rw [subW_neg (by omega)], X.trans x'⟩) fun hc => ?_)
  rw [subW_pos hc]
  have R := R.ext x'
  have X := X.trans x'
  refine R.lda2 foc_Voice_Pipe rfl fun c1 R1 => goX (sz_Pipe_c R1 (left - w_String x.String) (by omega)) fun h' x' => as_i (sz_bif (fun hc => ⟨by rw [subW_neg (by omega)], X.trans x'⟩) fun hc => ?_)
  rw [subW_pos hc]
  have R := R.ext x'
  have X := X.trans x'
  refine R.lda2 foc_Voice_Bow rfl fun c1 R1 => goX (sz_Bow_c R1 (left - w_String x.String - w_Pipe x.Pipe) (by omega)) fun h' x' => as_i (sz_bif (fun hc => ⟨by rw [subW_neg (by omega)], X.trans x'⟩) fun hc => ?_)
  rw [subW_pos hc]
  have R := R.ext x'
  have X := X.trans x'
  exact ⟨by rw [subW_pos (by omega)]; congr 2 <;> omega, X⟩
theorem to_Voice_c {cs : Array Value} {x : GVoice} (R0 : rVoice.rd h cs.toList x) (hw0 : w_Voice x ≤ 1048576) : CALL prg f_laws_toVoice #[.agg cs] (fun u h' => NewR rVoice h h' u x) h := by
  have hw : w_Voice x = w_String x.String + w_Pipe x.Pipe + w_Bow x.Bow := rfl
  refine laws_toVoice.call ((Mem.start h).alc fun g1 h1 x1 M => M.alc fun g2 h2 x2 M => M.alc fun g3 h3 x3 M => ?_)
  have P : Pt rVoice h h3 ⟨g3, 0, none⟩ ⟨g3, T_impl_Voice, [], []⟩ [(g2, T_impl_Voice, ⟨Z_impl_Voice⟩), (g1, T_laws_Voice, cs)] z_Voice := Pt.new (r := rVoice) zow_Voice M
  have R : RdP rVoice _ ⟨g1, 0, none⟩ x := P.mem.rdp (.there .here) (rVoice.ext P.ext R0)
  refine R.oI2 (P.stI2 fun h' P => ?_)
  have R : RdP rVoice _ ⟨g1, 0, none⟩ x := P.mem.rdp (.there .here) (rVoice.ext P.ext R0)
  refine R.oI2 (P.stI2 fun h' P => ?_)
  have R : RdP rVoice _ ⟨g1, 0, none⟩ x := P.mem.rdp (.there .here) (rVoice.ext P.ext R0)
  refine R.oI2 (P.stI2 fun h' P => ?_)
  have R : RdP rVoice _ ⟨g1, 0, none⟩ x := P.mem.rdp (.there .here) (rVoice.ext P.ext R0)
  refine R.oB2 (P.stB2 fun h' P => ?_)
  have R : RdP rVoice _ ⟨g1, 0, none⟩ x := P.mem.rdp (.there .here) (rVoice.ext P.ext R0)
  refine R.oF2 fun y hy => P.stFg hy fun h' P => ?_
  have R : RdP rVoice _ ⟨g1, 0, none⟩ x := P.mem.rdp (.there .here) (rVoice.ext P.ext R0)
  refine R.lda2 foc_Voice_String rfl fun c1 R1 => NewR.pt P (to_String_c R1 (by omega)) fun h' c2 B P O ho => as_a (P.stsg foc_Voice_String rfl O fun h' P => ?_)
  have R : RdP rVoice _ ⟨g1, 0, none⟩ x := P.mem.rdp (.there .here) (rVoice.ext P.ext R0)
  refine R.lda2 foc_Voice_Pipe rfl fun c1 R1 => NewR.pt P (to_Pipe_c R1 (by omega)) fun h' c2 B P O ho => as_a (P.stsg foc_Voice_Pipe rfl O fun h' P => ?_)
  have R : RdP rVoice _ ⟨g1, 0, none⟩ x := P.mem.rdp (.there .here) (rVoice.ext P.ext R0)
  refine R.lda2 foc_Voice_Bow rfl fun c1 R1 => NewR.pt P (to_Bow_c R1 (by omega)) fun h' c2 B P O ho => as_a (P.stsg foc_Voice_Bow rfl O fun h' P => ?_)
  obtain ⟨c', B, M, O⟩ := P.out
  refine M.lda0 .here (osz O rfl) ?_
  have M := M.cnt (W := (g2, T_impl_Voice, ⟨Z_impl_Voice⟩) :: B) (fun p => by simp only [cnt_app, cnt_cons, cnt_nil] at *; omega)
  refine M.sta0 .here (osz O rfl) (rVoice.oone O) rfl .here fun h3 M => M.lda0 .here (osz O rfl) ?_
  exact ⟨_, B, rfl, O, M.drop⟩
theorem szp_Voice : 0 < rVoice.sz := by decide
def w_VoiceS (xs : List GVoice) : Nat := xs.length + nL w_Voice xs
theorem sz_VoiceS_c {b : Option Addr} {l c : Nat} {xs : List GVoice} (S : SlR rVoice h b l c xs) (left : Nat) (hl : left ≤ 1048576) : CALL prg f_laws_szVoiceS #[.slice b l c, .int .i64 (left : Int)] (fun u h' => u = .int .i64 (subW left (w_VoiceS xs)) ∧ Ext h h') h := by
  have hx := S.len
  have h2 := S.2.1
  have h3 := S.2.2.1
  have hw : w_VoiceS xs = xs.length + nL w_Voice xs := rfl
  have := maxLen_lt
  refine laws_szVoiceS.call ?_
  unfold laws_szVoiceS.S
  rw [wrap64 (n := (left : Int) - (l : Int)) (by omega) (by omega)]
  refine brd (fun hc => ⟨by rw [subW_neg (by omega)], Ext.refl _⟩) fun hc => ?_
  refine loop (fun x hh => ∃ m : Nat, x = (b, l, c, ((left - l - nL w_Voice (xs.take m) : Nat) : Int), (m : Int)) ∧ m ≤ l ∧ Ext h hh ∧ nL w_Voice (xs.take m) ≤ left - l) (fun x => (l - x.2.2.2.2).toNat) ⟨0, by rw [show ((left : Int) - (l : Int)) = ((left - l : Nat) : Int) by omega]; rfl, by omega, Ext.refl _, Nat.zero_le _⟩ ?_
  rintro x hh ⟨m, rfl, hn, X, hm⟩
  refine brd (fun hc => ?_) fun hc => ?_
  · have h4 := nL_snoc (n := w_Voice) (xs := xs) (i := m) (by omega)
    have h5 := nL_take_le (n := w_Voice) xs (m + 1)
    refine (S.ext X).idx szp_Voice (by omega) (by omega) fun a Ra => Ra.lda1 rfl fun c1 R1 => goX (sz_Voice_c R1 _ (by omega)) fun h' x' => as_i (sz_bif (fun hb => ⟨by rw [Int.toNat_natCast] at hb; rw [subW_neg (by omega)], X.trans x'⟩) fun hb => ?_)
    rw [subW_pos hb, wrap64_succ (by omega)]
    rw [Int.toNat_natCast] at hb ⊢
    exact ⟨⟨m + 1, by rw [h4, Nat.sub_sub], by omega, X.trans x', by omega⟩, by show _ < _; simp; omega⟩
  · obtain rfl : m = l := by omega
    have e : xs.take m = xs := by rw [← hx]; exact List.take_length
    rw [e] at hm ⊢
    exact ⟨by rw [subW_pos (by omega), hw, hx, Nat.sub_sub], X⟩
theorem to_VoiceS_c {b : Option Addr} {l c : Nat} {xs : List GVoice} (S : SlR rVoice h b l c xs) (hl0 : w_VoiceS xs ≤ 1048576) : CALL prg f_laws_toVoiceS #[.slice b l c] (fun u h' => ∃ b' c' B, u = .slice b' l c' ∧ SlO T_impl_Voice rVoice B b' l c' xs ∧ Mem h h' B) h := by
  have hxl := S.len
  have hw : w_VoiceS xs = xs.length + nL w_Voice xs := rfl
  have hl : l ≤ 1048576 := by omega
  refine laws_toVoiceS.call ?_
  refine make_sl (r := rVoice) (z := z_Voice) (zc := Z_impl_Voice) zow_Voice rfl rfl (by decide) (Mem.start h) (by show 360 * l ≤ 2 ^ 48; omega) (Nat.le_trans hl (by decide)) fun g h1 x1 M0 O0 => ?_
  refine loop (fun x hh => ∃ (n : Nat) (B : List Blk), x = (b, l, c, some ⟨g, 0, none⟩, l, l, (n : Int)) ∧ n ≤ l ∧ SlO T_impl_Voice rVoice B (some ⟨g, 0, none⟩) l l (xs.take n ++ List.replicate (l - n) z_Voice) ∧ Mem h hh (B ++ [])) (fun x => (l - x.2.2.2.2.2.2).toNat) ⟨0, _, rfl, by omega, O0, M0⟩ ?_
  rintro x hh ⟨n, B, rfl, hn, O, M⟩
  refine brd (fun hc => ?_) fun hc => ?_
  · have h5 : w_Voice xs[n]! ≤ nL w_Voice xs := nL_mem (by omega)
    refine (S.ext M.ext).idx szp_Voice (by omega) (by omega) fun a Ra => Ra.lda1 rfl fun c1 R1 => NewR.go M (to_Voice_c R1 (by rw [Int.toNat_natCast]; omega)) fun h' c2 B2 M2 O2 ho => as_a ?_
    obtain ⟨a0, F', C, e, op, close⟩ := O.elem2 (i := n) (by omega)
    cases e
    have P := (op _ _ B2 (M2.cnt (fun p => by simp only [cnt_app, cnt_cons, cnt_nil] at *; omega))).cnt (W := B2 ++ (C ++ [])) (fun p => by simp only [cnt_app, cnt_cons, cnt_nil] at *; omega)
    refine idxs (by omega) (by omega) ?_
    rw [Int.toNat_natCast] at O2
    rw [Int.toNat_natCast, show n * 45 = n * rVoice.sz from rfl]
    refine (add0 ((⟨g, 0, none⟩ : Addr).add (n * rVoice.sz))) ▸ P.sts (Foc.here rVoice) rfl O2 fun h'' P => ?_
    obtain ⟨B', O', M'⟩ := close _ _ _ _ P
    have e : (xs.take n ++ List.replicate (l - n) z_Voice).set n xs[n]! = xs.take (n + 1) ++ List.replicate (l - (n + 1)) z_Voice := by rw [getElem!_pos xs n (by omega)]; exact copy_step hxl (by omega)
    rw [e] at O'
    rw [wrap64_succ (by omega)]
    exact ⟨⟨n + 1, B', rfl, by omega, O', M'⟩, by show _ < _; simp; omega⟩
  · obtain rfl : n = l := by omega
    rw [show xs.take n ++ List.replicate (n - n) z_Voice = xs by rw [← hxl]; simp] at O
    rw [List.append_nil] at M
    exact ⟨_, _, B, rfl, O, M⟩
theorem eq_VoiceS_c {b1 b2 : Option Addr} {l1 c1 l2 c2 : Nat} {xs : List GVoice} (S1 : SlR rVoice h b1 l1 c1 xs) (S2 : SlR rVoice h b2 l2 c2 xs) : CALL prg f_laws_eqVoiceS #[.slice b1 l1 c1, .slice b2 l2 c2] (fun u h' => u = .bool true ∧ Ext h h') h := by
  have e1 := S1.len
  have e2 := S2.len
  have h2 := S1.2.1
  have h3 := S1.2.2.1
  have := maxLen_lt
  obtain rfl : l1 = l2 := by omega
  refine laws_eqVoiceS.call (br_f (by simp) ?_)
  refine loop (fun x hh => ∃ n : Nat, x = (b1, l1, c1, b2, l1, c2, (n : Int)) ∧ n ≤ l1 ∧ Ext h hh) (fun x => (l1 - x.2.2.2.2.2.2).toNat) ⟨0, rfl, by omega, Ext.refl _⟩ ?_
  rintro x hh ⟨n, rfl, hn, X⟩
  refine brd (fun hc => ?_) fun hc => ⟨rfl, X⟩
  refine (S1.ext X).idx szp_Voice (by omega) (by omega) fun a Ra => Ra.lda1 rfl fun ca R1 => (S2.ext X).idx szp_Voice (by omega) (by omega) fun a' Rb => Rb.lda1 rfl fun cb R2 => goX (eq_Voice_c R1 R2) fun h' x' => as_b (br_f rfl ?_)
  rw [wrap64_succ (by omega)]
  exact ⟨⟨n + 1, rfl, by omega, X.trans x'⟩, by show _ < _; simp; omega⟩
theorem eq_Player_c {ca cb : Array Value} {x : GPlayer} (Ra : rPlayer.rd h ca.toList x) (Rb : rPlayer.rd h cb.toList x) : CALL prg f_laws_eqPlayer #[.agg ca, .agg cb] (fun u h' => u = .bool true ∧ Ext h h') h := by
  refine laws_eqPlayer.call (alcR Ra fun g1 h1 x1 A => alcR (rPlayer.ext x1 Rb) fun g2 h2 x2 B => ?_)
  have A := A.ext x2
  have X := x1.trans x2
  refine A.lda2 foc_Player_Score rfl fun c1 R1 => B.lda2 foc_Player_Score rfl fun c2 R2 => goX (eq_Score_c R1 R2) fun h' x' => as_b (br_f rfl ?_)
  have A := A.ext x'
  have B := B.ext x'
  have X := X.trans x'
  refine A.oL2 fun b1 l1 c1 S1 => B.oL2 fun b2 l2 c2 S2 => goX (eq_VoiceS_c S1 S2) fun h' x' => as_b (br_f rfl ?_)
  have A := A.ext x'
  have B := B.ext x'
  have X := X.trans x'
  refine A.oI2 (B.oI2 (br_f (by simp) ?_))
  refine A.oI2 (B.oI2 (br_f (by simp) ?_))
  refine A.oI2 (B.oI2 (br_f (by simp) ?_))
  exact ⟨rfl, X⟩
def w_Player (x : GPlayer) : Nat := w_Score x.Score + w_VoiceS x.Voices
theorem sz_Player_c {cs : Array Value} {x : GPlayer} (R0 : rPlayer.rd h cs.toList x) (left : Nat) (hl : left ≤ 1048576) : CALL prg f_laws_szPlayer #[.agg cs, .int .i64 (left : Int)] (fun u h' => u = .int .i64 (subW left (w_Player x)) ∧ Ext h h') h := by
  have hw : w_Player x = w_Score x.Score + w_VoiceS x.Voices := rfl
  refine laws_szPlayer.call (alcR R0 fun g1 h1 X R => ?_)
  refine R.lda2 foc_Player_Score rfl fun c1 R1 => goX (sz_Score_c R1 (left) (by omega)) fun h' x' => as_i (sz_bif (fun hc => ⟨by rw [subW_neg (by omega)], X.trans x'⟩) fun hc => ?_)
  rw [subW_pos hc]
  have R := R.ext x'
  have X := X.trans x'
  refine R.oL2 fun b1 l1 c1 S1 => goX (sz_VoiceS_c S1 (left - w_Score x.Score) (by omega)) fun h' x' => as_i (sz_bif (fun hc => ⟨by rw [subW_neg (by omega)], X.trans x'⟩) fun hc => ?_)
  rw [subW_pos hc]
  have R := R.ext x'
  have X := X.trans x'
  exact ⟨by rw [subW_pos (by omega)]; congr 2 <;> omega, X⟩
theorem to_Player_c {cs : Array Value} {x : GPlayer} (R0 : rPlayer.rd h cs.toList x) (hw0 : w_Player x ≤ 1048576) : CALL prg f_laws_toPlayer #[.agg cs] (fun u h' => NewR rPlayer h h' u x) h := by
  have hw : w_Player x = w_Score x.Score + w_VoiceS x.Voices := rfl
  refine laws_toPlayer.call ((Mem.start h).alc fun g1 h1 x1 M => M.alc fun g2 h2 x2 M => M.alc fun g3 h3 x3 M => ?_)
  have P : Pt rPlayer h h3 ⟨g3, 0, none⟩ ⟨g3, T_impl_Player, [], []⟩ [(g2, T_impl_Player, ⟨Z_impl_Player⟩), (g1, T_laws_Player, cs)] z_Player := Pt.new (r := rPlayer) zow_Player M
  have R : RdP rPlayer _ ⟨g1, 0, none⟩ x := P.mem.rdp (.there .here) (rPlayer.ext P.ext R0)
  refine R.lda2 foc_Player_Score rfl fun c1 R1 => NewR.pt P (to_Score_c R1 (by omega)) fun h' c2 B P O ho => as_a (P.stsg foc_Player_Score rfl O fun h' P => ?_)
  have R : RdP rPlayer _ ⟨g1, 0, none⟩ x := P.mem.rdp (.there .here) (rPlayer.ext P.ext R0)
  refine R.oL2 fun b l c S => (to_VoiceS_c S (by have := S.len; omega)).mono ?_
  rintro _ h' ⟨b', c', B, rfl, O, N⟩
  refine as_l ((P.join N).stLg O fun h' P => ?_)
  have R : RdP rPlayer _ ⟨g1, 0, none⟩ x := P.mem.rdp (.there .here) (rPlayer.ext P.ext R0)
  refine R.oI2 (P.stI2 fun h' P => ?_)
  have R : RdP rPlayer _ ⟨g1, 0, none⟩ x := P.mem.rdp (.there .here) (rPlayer.ext P.ext R0)
  refine R.oI2 (P.stI2 fun h' P => ?_)
  have R : RdP rPlayer _ ⟨g1, 0, none⟩ x := P.mem.rdp (.there .here) (rPlayer.ext P.ext R0)
  refine R.oI2 (P.stI2 fun h' P => ?_)
  obtain ⟨c', B, M, O⟩ := P.out
  refine M.lda0 .here (osz O rfl) ?_
  have M := M.cnt (W := (g2, T_impl_Player, ⟨Z_impl_Player⟩) :: B) (fun p => by simp only [cnt_app, cnt_cons, cnt_nil] at *; omega)
  refine M.sta0 .here (osz O rfl) (rPlayer.oone O) rfl .here fun h3 M => M.lda0 .here (osz O rfl) ?_
  exact ⟨_, B, rfl, O, M.drop⟩
end
end Go.Sx
