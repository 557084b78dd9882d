/- The laws' helpers over rooms: what they compute. -/
import Derived.Test.YtdhhfilfcpljoaaGreatLh1
import Derived.Test.YtdhhfilfcpljoaaGreatH2
set_option linter.unusedVariables false
set_option linter.unusedSimpArgs false
namespace Go.Sx
open Go.Proofs
set_option maxRecDepth 100000

section
variable {h : Heap}
theorem eq_Tap_c {ca cb : Array Value} {x : GTap} (Ra : rTap.rd h ca.toList x) (Rb : rTap.rd h cb.toList x) : CALL prg f_laws_eqTap #[.agg ca, .agg cb] (fun u h' => u = .bool true ∧ Ext h h') h := by
  refine laws_eqTap.call (alcR Ra fun g1 h1 x1 A => alcR (rTap.ext x1 Rb) fun g2 h2 x2 B => ?_)
  have A := A.ext x2
  have X := x1.trans x2
  refine A.oI2 (B.oI2 (br_f (by simp) ?_))
  refine A.oF2 fun y hy => ffc_wide hy fun r1 k1 => B.oF2 fun z hz => ffc_wide hz fun r2 k2 => goX (sameW_c k1 k2 _) fun h' x' => as_b (br_f rfl ?_)
  have A := A.ext x'
  have B := B.ext x'
  have X := X.trans x'
  exact ⟨rfl, X⟩
theorem to_Tap_c {cs : Array Value} {x : GTap} (R0 : rTap.rd h cs.toList x) : CALL prg f_laws_toTap #[.agg cs] (fun u h' => NewR rTap h h' u x) h := by
  refine laws_toTap.call ((Mem.start h).alc fun g1 h1 x1 M => M.alc fun g2 h2 x2 M => M.alc fun g3 h3 x3 M => ?_)
  have P : Pt rTap h h3 ⟨g3, 0, none⟩ ⟨g3, T_impl_Tap, [], []⟩ [(g2, T_impl_Tap, ⟨Z_impl_Tap⟩), (g1, T_laws_Tap, cs)] z_Tap := Pt.new (r := rTap) zow_Tap M
  have R : RdP rTap _ ⟨g1, 0, none⟩ x := P.mem.rdp (.there .here) (rTap.ext P.ext R0)
  refine R.oI2 (P.stI2 fun h' P => ?_)
  have R : RdP rTap _ ⟨g1, 0, none⟩ x := P.mem.rdp (.there .here) (rTap.ext P.ext R0)
  refine R.oF2 fun y hy => P.stFg hy fun h' P => ?_
  obtain ⟨c', B, M, O⟩ := P.out
  refine M.lda0 .here (osz O rfl) ?_
  have M := M.cnt (W := (g2, T_impl_Tap, ⟨Z_impl_Tap⟩) :: B) (fun p => by simp only [cnt_app, cnt_cons, cnt_nil] at *; omega)
  refine M.sta0 .here (osz O rfl) (rTap.oone O) rfl .here fun h3 M => M.lda0 .here (osz O rfl) ?_
  exact ⟨_, B, rfl, O, M.drop⟩
theorem sz_pos_Tap : 0 < rTap.sz := by decide
def mkE_Tap (x : GTap) (k : Nat) : GTap := { x with Back := ((k : Nat) : Int), Gain := FloatKind.f32.nearest ((k + 1 : Nat) : Int) }
def w_TapS (xs : List GTap) : Nat := xs.length
def n_TapS (xs : List GTap) : Nat := nL (fun _ => 2) xs
def mk_TapS (xs : List GTap) (k : Nat) : List GTap := mkL mkE_Tap (fun _ => 2) xs k
theorem n_TapS_eq (xs : List GTap) : nL (fun _ : GTap => 2) xs = 2 * xs.length := by
  induction xs with
  | nil => rfl
  | cons x xs ih => simp only [nL, ih, List.length_cons]; omega
theorem nw_TapS (xs : List GTap) : n_TapS xs ≤ 8 * w_TapS xs := by unfold n_TapS w_TapS; rw [n_TapS_eq]; omega
theorem sz_TapS_c {b : Option Addr} {l c : Nat} {xs : List GTap} (S : SlR rTap h b l c xs) (left : Nat) (hl : left ≤ 1048576) : CALL prg f_laws_szTapS #[.slice b l c, .int .i64 (left : Int)] (fun u h' => u = .int .i64 (subW left (w_TapS xs)) ∧ Ext h h') h := by
  have h1 : w_TapS xs = l := S.len
  have h2 := S.2.1
  have h3 := S.2.2.1
  have := maxLen_lt
  refine laws_szTapS.call ?_
  unfold laws_szTapS.S
  rw [wrap64 (n := (left : Int) - (l : Int)) (by omega) (by omega), h1]
  refine brd (fun hc => ⟨by rw [subW_neg (by omega)], Ext.refl _⟩) fun hc => ⟨by rw [subW_pos (by omega)]; congr 1; omega, Ext.refl _⟩
theorem to_TapS_c {b : Option Addr} {l c : Nat} {xs : List GTap} (S : SlR rTap h b l c xs) (hl0 : w_TapS xs ≤ 1048576) : CALL prg f_laws_toTapS #[.slice b l c] (fun u h' => ∃ b' c' B, u = .slice b' l c' ∧ SlO T_impl_Tap rTap B b' l c' xs ∧ Mem h h' B) h := by
  have hxl := S.len
  have hl : l ≤ 1048576 := by unfold w_TapS at hl0; omega
  refine laws_toTapS.call ?_
  refine make_sl (r := rTap) (z := z_Tap) (zc := Z_impl_Tap) zow_Tap rfl rfl (by decide) (Mem.start h) (by show 16 * l ≤ 2 ^ 48; omega) (Nat.le_trans hl (by decide)) fun g h1 x1 M0 O0 => ?_
  refine loop (fun x hh => ∃ (n : Nat) (B : List Blk), x = (b, l, c, some ⟨g, 0, none⟩, l, l, (n : Int)) ∧ n ≤ l ∧ SlO T_impl_Tap rTap B (some ⟨g, 0, none⟩) l l (xs.take n ++ List.replicate (l - n) z_Tap) ∧ Mem h hh (B ++ [])) (fun x => (l - x.2.2.2.2.2.2).toNat) ⟨0, _, rfl, by omega, O0, M0⟩ ?_
  rintro x hh ⟨n, B, rfl, hn, O, M⟩
  refine brd (fun hc => ?_) fun hc => ?_
  · refine (S.ext M.ext).idx sz_pos_Tap (by omega) (by omega) fun a Ra => Ra.lda1 rfl fun c1 R1 => NewR.go M (to_Tap_c R1) fun h' c2 B2 M2 O2 ho => as_a ?_
    obtain ⟨a0, F', C, e, op, close⟩ := O.elem2 (i := n) (by omega)
    cases e
    have P := (op _ _ B2 (M2.cnt (fun p => by simp only [cnt_app, cnt_cons, cnt_nil] at *; omega))).cnt (W := B2 ++ (C ++ [])) (fun p => by simp only [cnt_app, cnt_cons, cnt_nil] at *; omega)
    refine idxs (by omega) (by omega) ?_
    rw [Int.toNat_natCast] at O2
    rw [Int.toNat_natCast, show n * 2 = n * rTap.sz from rfl]
    refine (add0 ((⟨g, 0, none⟩ : Addr).add (n * rTap.sz))) ▸ P.sts (Foc.here rTap) rfl O2 fun h'' P => ?_
    obtain ⟨B', O', M'⟩ := close _ _ _ _ P
    have e : (xs.take n ++ List.replicate (l - n) z_Tap).set n xs[n]! = xs.take (n + 1) ++ List.replicate (l - (n + 1)) z_Tap := by rw [getElem!_pos xs n (by omega)]; exact copy_step hxl (by omega)
    rw [e] at O'
    rw [wrap64_succ (by omega)]
    exact ⟨⟨n + 1, B', rfl, by omega, O', M'⟩, by show _ < _; simp; omega⟩
  · obtain rfl : n = l := by omega
    rw [show xs.take n ++ List.replicate (n - n) z_Tap = xs by rw [← hxl]; simp] at O
    rw [List.append_nil] at M
    exact ⟨_, _, B, rfl, O, M⟩
theorem eq_TapS_c {b1 b2 : Option Addr} {l1 c1 l2 c2 : Nat} {xs : List GTap} (S1 : SlR rTap h b1 l1 c1 xs) (S2 : SlR rTap h b2 l2 c2 xs) : CALL prg f_laws_eqTapS #[.slice b1 l1 c1, .slice b2 l2 c2] (fun u h' => u = .bool true ∧ Ext h h') h := by
  have e1 := S1.len
  have e2 := S2.len
  have h2 := S1.2.1
  have h3 := S1.2.2.1
  have := maxLen_lt
  obtain rfl : l1 = l2 := by omega
  refine laws_eqTapS.call (br_f (by simp) ?_)
  refine loop (fun x hh => ∃ n : Nat, x = (b1, l1, c1, b2, l1, c2, (n : Int)) ∧ n ≤ l1 ∧ Ext h hh) (fun x => (l1 - x.2.2.2.2.2.2).toNat) ⟨0, rfl, by omega, Ext.refl _⟩ ?_
  rintro x hh ⟨n, rfl, hn, X⟩
  refine brd (fun hc => ?_) fun hc => ⟨rfl, X⟩
  refine (S1.ext X).idx sz_pos_Tap (by omega) (by omega) fun a Ra => Ra.lda1 rfl fun ca R1 => (S2.ext X).idx sz_pos_Tap (by omega) (by omega) fun a' Rb => Rb.lda1 rfl fun cb R2 => goX (eq_Tap_c R1 R2) fun h' x' => as_b (br_f rfl ?_)
  rw [wrap64_succ (by omega)]
  exact ⟨⟨n + 1, rfl, by omega, X.trans x'⟩, by show _ < _; simp; omega⟩
theorem mark_TapS_c {h0 : Heap} {B L : List Blk} {b : Option Addr} {l c : Nat} {xs : List GTap} (O0 : SlO T_impl_Tap rTap B b l c xs) (M0 : Mem h0 h (B ++ L)) (k : Nat) (hw0 : w_TapS xs ≤ 1048576) (hk : k + n_TapS xs ≤ 1073741824) :
    CALL prg f_laws_markTapS #[.slice b l c, .int .i64 (k : Int)] (fun u h' => u = .int .i64 ((k + n_TapS xs : Nat) : Int) ∧ ∃ B', SlO T_impl_Tap rTap B' b l c (mk_TapS xs k) ∧ Mem h0 h' (B' ++ L)) h := by
  have hx := O0.len
  unfold w_TapS at hw0
  unfold n_TapS at hk
  rw [n_TapS_eq] at hk
  have hn0 : ∀ m, m ≤ l → nL (fun _ : GTap => 2) (xs.take m) = 2 * m := fun m hm => by rw [n_TapS_eq, List.length_take]; congr 1; omega
  refine laws_markTapS.call ?_
  refine loop (fun x hh => ∃ (n : Nat) (B : List Blk), x = (b, l, c, ((k + 2 * n : Nat) : Int), (n : Int)) ∧ n ≤ l ∧ SlO T_impl_Tap rTap B b l c (mkL mkE_Tap (fun _ => 2) (xs.take n) k ++ xs.drop n) ∧ Mem h0 hh (B ++ L)) (fun x => (l - x.2.2.2.2).toNat) ⟨0, B, rfl, by omega, by simpa [mkL] using O0, M0⟩ ?_
  rintro x hh ⟨n, B, rfl, hn, O, M⟩
  refine brd (fun hc => ?_) fun hc => ?_
  · obtain ⟨a0, F', L', rfl, P, hs, close⟩ := O.elem M (i := n) (by omega)
    rw [mkL_at (by omega)] at P
    have e0 : IntKind.i64.wrap (((k + 2 * n : Nat) : Int) + 1) = ((k + 2 * n + 1 : Nat) : Int) := wrap64_succ (by omega)
    have e1 : IntKind.i64.wrap (((k + 2 * n + 1 : Nat) : Int) + 1) = ((k + 2 * n + 2 : Nat) : Int) := wrap64_succ (by omega)
    simp only [e0, e1, Int.toNat_natCast]
    rw [show n * 2 = n * rTap.sz from rfl]
    refine idxs (by omega) (by omega) (P.stI1 fun h' P => ?_)
    refine idxs (by omega) (by omega) (P.stF (fw_nearest _ _) fun h' P => ?_)
    obtain ⟨B', O', M'⟩ := close _ _ _ P
    have e : mkE_Tap xs[n]! (k + nL (fun _ => 2) (xs.take n)) = mkE_Tap xs[n]! (k + 2 * n) := by rw [hn0 n (by omega)]
    have st := mkL_step (mk := mkE_Tap) (n := fun _ => 2) (k := k) (xs := xs) (i := n) (by omega)
    rw [e] at st
    have O' : SlO T_impl_Tap rTap B' (some a0) l c ((mkL mkE_Tap (fun _ => 2) (xs.take n) k ++ xs.drop n).set n (mkE_Tap xs[n]! (k + 2 * n))) := O'
    rw [st] at O'
    rw [wrap64_succ (by omega)]
    exact ⟨⟨n + 1, B', by rw [show k + 2 * n + 2 = k + 2 * (n + 1) by omega], by omega, O', M'⟩, by show _ < _; simp; omega⟩
  · obtain rfl : n = l := by omega
    have e : xs.take n = xs := by rw [← hx]; exact List.take_length
    have e2 : xs.drop n = [] := List.drop_of_length_le (by omega)
    rw [e, e2, List.append_nil] at O
    exact ⟨by rw [n_TapS, n_TapS_eq, hx], B, O, M⟩
theorem held_TapS_c {b : Option Addr} {l c : Nat} {xs : List GTap} (k : Nat) (S : SlR rTap h b l c (mk_TapS xs k)) (hw0 : w_TapS xs ≤ 1048576) (hk : k + n_TapS xs ≤ 1073741824) :
    CALL prg f_laws_heldTapS #[.slice b l c, .int .i64 (k : Int)] (fun u h' => u = .int .i64 ((k + n_TapS xs : Nat) : Int) ∧ Ext h h') h := by
  have hx : xs.length = l := by have := S.len; rwa [mk_TapS, mkL_len] at this
  unfold w_TapS at hw0
  unfold n_TapS at hk
  rw [n_TapS_eq] at hk
  have hn0 : ∀ m, m ≤ l → nL (fun _ : GTap => 2) (xs.take m) = 2 * m := fun m hm => by rw [n_TapS_eq, List.length_take]; congr 1; omega
  refine laws_heldTapS.call ?_
  refine loop (fun x hh => ∃ n : Nat, x = (b, l, c, ((k + 2 * n : Nat) : Int), (n : Int)) ∧ n ≤ l ∧ hh = h) (fun x => (l - x.2.2.2.2).toNat) ⟨0, rfl, by omega, rfl⟩ ?_
  rintro x hh ⟨n, rfl, hn, rfl⟩
  refine brd (fun hc => ?_) fun hc => ?_
  · have hm : (mk_TapS xs k)[n]! = mkE_Tap xs[n]! (k + 2 * n) := by unfold mk_TapS; rw [mkL_get (by omega), hn0 n (by omega)]
    have e0 : IntKind.i64.wrap (((k + 2 * n : Nat) : Int) + 1) = ((k + 2 * n + 1 : Nat) : Int) := wrap64_succ (by omega)
    have e1 : IntKind.i64.wrap (((k + 2 * n + 1 : Nat) : Int) + 1) = ((k + 2 * n + 2 : Nat) : Int) := wrap64_succ (by omega)
    simp only [e0, e1]
    refine S.idx sz_pos_Tap (by omega) (by omega) fun a Ra => ?_
    rw [Int.toNat_natCast, hm] at Ra
    refine Ra.oI1 (br_f (bne_self_eq_false _) ?_)
    refine S.idx sz_pos_Tap (by omega) (by omega) fun a Ra => ?_
    rw [Int.toNat_natCast, hm] at Ra
    refine Ra.oF fun y hy => ?_
    have hy : FW .f32 y (FloatKind.f32.nearest ((k + 2 * n + 1 : Nat) : Int)) := hy
    obtain rfl := hy.eq (nearest_not_nan _ _)
    refine br_f (order_eq (nearest_not_nan _ _)) ?_
    rw [wrap64_succ (by omega)]
    exact ⟨⟨n + 1, by rw [show k + 2 * n + 2 = k + 2 * (n + 1) by omega], by omega, by first | rfl | trivial⟩, by show _ < _; simp; omega⟩
  · obtain rfl : n = l := by omega
    exact ⟨by rw [n_TapS, n_TapS_eq, hx], Ext.refl _⟩
theorem eq_Comb_c {ca cb : Array Value} {x : GComb} (Ra : rComb.rd h ca.toList x) (Rb : rComb.rd h cb.toList x) : CALL prg f_laws_eqComb #[.agg ca, .agg cb] (fun u h' => u = .bool true ∧ Ext h h') h := by
  refine laws_eqComb.call (alcR Ra fun g1 h1 x1 A => alcR (rComb.ext x1 Rb) fun g2 h2 x2 B => ?_)
  have A := A.ext x2
  have X := x1.trans x2
  refine A.lda2 foc_Comb_Ring rfl fun c1 R1 => B.lda2 foc_Comb_Ring rfl fun c2 R2 => goX (eq_Ring_c R1 R2) fun h' x' => as_b (br_f rfl ?_)
  have A := A.ext x'
  have B := B.ext x'
  have X := X.trans x'
  refine A.oF2 fun y hy => ffc_wide hy fun r1 k1 => B.oF2 fun z hz => ffc_wide hz fun r2 k2 => goX (sameW_c k1 k2 _) fun h' x' => as_b (br_f rfl ?_)
  have A := A.ext x'
  have B := B.ext x'
  have X := X.trans x'
  exact ⟨rfl, X⟩
def w_Comb (x : GComb) : Nat := w_Ring x.Ring
theorem sz_Comb_c {cs : Array Value} {x : GComb} (R0 : rComb.rd h cs.toList x) (left : Nat) (hl : left ≤ 1048576) : CALL prg f_laws_szComb #[.agg cs, .int .i64 (left : Int)] (fun u h' => u = .int .i64 (subW left (w_Comb x)) ∧ Ext h h') h := by
  have hw : w_Comb x = w_Ring x.Ring := rfl
  refine laws_szComb.call (alcR R0 fun g1 h1 X R => ?_)
  refine R.lda2 foc_Comb_Ring rfl fun c1 R1 => goX (sz_Ring_c R1 (left) (by omega)) fun h' x' => as_i (sz_bif (fun hc => ⟨by rw [subW_neg (by omega)], X.trans x'⟩) fun hc => ?_)
  rw [subW_pos hc]
  have R := R.ext x'
  have X := X.trans x'
  exact ⟨by rw [subW_pos (by omega)]; congr 2 <;> omega, X⟩
theorem to_Comb_c {cs : Array Value} {x : GComb} (R0 : rComb.rd h cs.toList x) (hw0 : w_Comb x ≤ 1048576) : CALL prg f_laws_toComb #[.agg cs] (fun u h' => NewR rComb h h' u x) h := by
  have hw : w_Comb x = w_Ring x.Ring := rfl
  refine laws_toComb.call ((Mem.start h).alc fun g1 h1 x1 M => M.alc fun g2 h2 x2 M => M.alc fun g3 h3 x3 M => ?_)
  have P : Pt rComb h h3 ⟨g3, 0, none⟩ ⟨g3, T_impl_Comb, [], []⟩ [(g2, T_impl_Comb, ⟨Z_impl_Comb⟩), (g1, T_laws_Comb, cs)] z_Comb := Pt.new (r := rComb) zow_Comb M
  have R : RdP rComb _ ⟨g1, 0, none⟩ x := P.mem.rdp (.there .here) (rComb.ext P.ext R0)
  refine R.lda2 foc_Comb_Ring rfl fun c1 R1 => NewR.pt P (to_Ring_c R1 (by omega)) fun h' c2 B P O ho => as_a (P.stsg foc_Comb_Ring rfl O fun h' P => ?_)
  have R : RdP rComb _ ⟨g1, 0, none⟩ x := P.mem.rdp (.there .here) (rComb.ext P.ext R0)
  refine R.oF2 fun y hy => P.stFg hy fun h' P => ?_
  obtain ⟨c', B, M, O⟩ := P.out
  refine M.lda0 .here (osz O rfl) ?_
  have M := M.cnt (W := (g2, T_impl_Comb, ⟨Z_impl_Comb⟩) :: B) (fun p => by simp only [cnt_app, cnt_cons, cnt_nil] at *; omega)
  refine M.sta0 .here (osz O rfl) (rComb.oone O) rfl .here fun h3 M => M.lda0 .here (osz O rfl) ?_
  exact ⟨_, B, rfl, O, M.drop⟩
def n_Comb (x : GComb) : Nat := n_Ring x.Ring
def mk_Comb (x : GComb) (k : Nat) : GComb := { x with Ring := mk_Ring x.Ring (k) }
theorem nw_Comb (x : GComb) : n_Comb x ≤ 8 * w_Comb x := by
  have h0 := nw_Ring x.Ring
  have e1 : n_Comb x = n_Ring x.Ring := rfl
  have e2 : w_Comb x = w_Ring x.Ring := rfl
  omega
theorem mark_Comb_c {h0 : Heap} {B L : List Blk} {cs : Array Value} {x : GComb} (O : rComb.ow B cs.toList x) (M : Mem h0 h (B ++ L)) (k : Nat) (hw0 : w_Comb x ≤ 1048576) (hk : k + n_Comb x ≤ 1073741824) :
    CALL prg f_laws_markComb #[.agg cs, .int .i64 (k : Int)] (fun u h' => u = .int .i64 ((k + n_Comb x : Nat) : Int) ∧ ∃ B', rComb.ow B' cs.toList (mk_Comb x k) ∧ Mem h0 h' (B' ++ L)) h := by
  have hw : w_Comb x = w_Ring x.Ring := rfl
  have hn : n_Comb x = n_Ring x.Ring := rfl
  refine laws_markComb.call (M.alc fun g1 h1 x1 M => ?_)
  obtain ⟨Bm, Br, hB, Om, reb⟩ := ow_upd O foc_Comb_Ring
  refine M.lda .here (by have := osz O rfl; rw [this]; decide) ?_
  rw [← ext_part] at Om
  refine (mark_Ring_c (x := x.Ring) Om (M.cnt (W := Bm ++ (Br ++ ((g1, T_impl_Comb, cs) :: L))) (fun p => by have := hB p; simp only [cnt_app, cnt_cons, cnt_nil] at *; omega)) (k) (by omega) (by omega)).mono ?_
  rintro _ h' ⟨rfl, B', O', M⟩
  obtain ⟨B2, O, hB2⟩ := reb B' _ (by rw [← ext_part]; exact O')
  refine as_i ?_
  have M := M.cnt (W := (g1, T_impl_Comb, cs) :: (B2 ++ L)) (fun p => by have := hB2 p; simp only [cnt_app, cnt_cons, cnt_nil] at *; omega)
  clear reb
  exact ⟨by congr 2 <;> (unfold n_Comb; omega), B2, O, M.drop⟩
theorem held_Comb_c {cs : Array Value} {x : GComb} (k : Nat) (R0 : rComb.rd h cs.toList (mk_Comb x k)) (hw0 : w_Comb x ≤ 1048576) (hk : k + n_Comb x ≤ 1073741824) :
    CALL prg f_laws_heldComb #[.agg cs, .int .i64 (k : Int)] (fun u h' => u = .int .i64 ((k + n_Comb x : Nat) : Int) ∧ Ext h h') h := by
  have hw : w_Comb x = w_Ring x.Ring := rfl
  have hn : n_Comb x = n_Ring x.Ring := rfl
  refine laws_heldComb.call (alcR R0 fun g1 h1 X R => ?_)
  refine R.lda2 foc_Comb_Ring rfl fun c1 R1 => goX (held_Ring_c (x := x.Ring) (k) R1 (by omega) (by omega)) fun h' x' => as_i (br_f (decide_eq_false (by omega)) ?_)
  have R := R.ext x'
  have X := X.trans x'
  exact ⟨by congr 2 <;> (unfold n_Comb; omega), X⟩
def w_CombA2 (xs : List GComb) : Nat := nL w_Comb xs
def n_CombA2 (xs : List GComb) : Nat := nL n_Comb xs
def mk_CombA2 (xs : List GComb) (k : Nat) : List GComb := mkL mk_Comb n_Comb xs k
theorem nw_CombA2 (xs : List GComb) : n_CombA2 xs ≤ 8 * w_CombA2 xs := nL_le nw_Comb xs
theorem zow_CombA2 : (rArr 2 rComb).ow [] [Value.slice none 0 0, Value.int .i64 (0 : Int), Value.float .f32 0, Value.slice none 0 0, Value.int .i64 (0 : Int), Value.float .f32 0] (List.replicate 2 z_Comb) := ⟨rfl, ⟨[], [], [Value.slice none 0 0, Value.int .i64 (0 : Int), Value.float .f32 0], [Value.slice none 0 0, Value.int .i64 (0 : Int), Value.float .f32 0], rfl, rfl, zow_Comb, ⟨[], [], [Value.slice none 0 0, Value.int .i64 (0 : Int), Value.float .f32 0], [], rfl, rfl, zow_Comb, ⟨rfl, rfl⟩⟩⟩⟩
theorem eq_CombA2_c {ca cb : Array Value} {xs : List GComb} (Ra : (rArr 2 rComb).rd h ca.toList xs) (Rb : (rArr 2 rComb).rd h cb.toList xs) : CALL prg f_laws_eqCombA2 #[.agg ca, .agg cb] (fun u h' => u = .bool true ∧ Ext h h') h := by
  refine laws_eqCombA2.call (alcR Ra fun g1 h1 x1 A => alcR ((rArr 2 rComb).ext x1 Rb) fun g2 h2 x2 B => ?_)
  have A := A.ext x2
  refine loop (fun x hh => ∃ m : Nat, x = (⟨g1, 0, none⟩, ⟨g2, 0, none⟩, (m : Int)) ∧ m ≤ 2 ∧ Ext h2 hh) (fun x => (2 - x.2.2).toNat) ⟨0, rfl, by omega, Ext.refl _⟩ ?_
  rintro x hh ⟨m, rfl, hn, X⟩
  refine brd (fun hc => ?_) fun hc => ⟨rfl, (x1.trans x2).trans X⟩
  refine idx (by omega) (by omega) (((A.ext X).elem (i := m) (by omega)).lda1 rfl fun c1 R1 => idx (by omega) (by omega) (((B.ext X).elem (i := m) (by omega)).lda1 rfl fun c2 R2 => goX (eq_Comb_c R1 R2) fun h' x' => as_b (br_f rfl ?_)))
  rw [wrap64_succ (by omega)]
  exact ⟨⟨m + 1, rfl, by omega, X.trans x'⟩, by show _ < _; simp; omega⟩
theorem to_CombA2_c {cs : Array Value} {xs : List GComb} (R0 : (rArr 2 rComb).rd h cs.toList xs) (hw0 : w_CombA2 xs ≤ 1048576) : CALL prg f_laws_toCombA2 #[.agg cs] (fun u h' => NewR (rArr 2 rComb) h h' u xs) h := by
  have hl : xs.length = 2 := R0.1
  refine laws_toCombA2.call ((Mem.start h).alc fun g1 h1 x1 M => M.alc fun g2 h2 x2 M => M.alc fun g3 h3 x3 M => ?_)
  refine loop (fun x hh => ∃ m : Nat, x = (⟨g1, 0, none⟩, ⟨g2, 0, none⟩, ⟨g3, 0, none⟩, (m : Int)) ∧ m ≤ 2 ∧ Pt (rArr 2 rComb) h hh ⟨g3, 0, none⟩ ⟨g3, T_2_impl_Comb, [], []⟩ [(g2, T_2_impl_Comb, ⟨Z_2_impl_Comb⟩), (g1, T_2_laws_Comb, cs)] (xs.take m ++ List.replicate (2 - m) z_Comb)) (fun x => (2 - x.2.2.2).toNat) ⟨0, rfl, by omega, Pt.new (r := (rArr 2 rComb)) zow_CombA2 M⟩ ?_
  rintro x hh ⟨m, rfl, hn, P⟩
  refine brd (fun hc => ?_) fun hc => ?_
  · have R : RdP (rArr 2 rComb) hh ⟨g1, 0, none⟩ xs := P.mem.rdp (.there .here) ((rArr 2 rComb).ext P.ext R0)
    refine idx (by omega) (by omega) ((R.elem (i := m) (by omega)).lda1 rfl fun c1 R1 => NewR.pt P (to_Comb_c R1 (by have : w_Comb xs[m]! ≤ w_CombA2 xs := nL_mem (by omega); omega)) fun h' c2 B P O ho => as_a (idx (by omega) (by omega) ?_))
    refine P.sts (Foc.arr rComb m (by omega)) rfl O fun h' P' => ?_
    rw [wrap64_succ (by omega)]
    refine ⟨⟨m + 1, rfl, by omega, ?_⟩, by show _ < _; simp; omega⟩
    have e : (xs.take m ++ List.replicate (2 - m) z_Comb).set m xs[m]! = xs.take (m + 1) ++ List.replicate (2 - (m + 1)) z_Comb := by rw [getElem!_pos xs m (by omega)]; exact copy_step hl (by omega)
    rw [e] at P'
    exact P'
  · obtain rfl : m = 2 := by omega
    rw [show xs.take 2 ++ List.replicate (2 - 2) z_Comb = xs by rw [← hl]; simp] at P
    obtain ⟨cs', B, M, O⟩ := P.out
    refine M.lda0 .here (osz O rfl) ?_
    have M := M.cnt (W := (g2, T_2_impl_Comb, ⟨Z_2_impl_Comb⟩) :: B) (fun p => by simp only [cnt_app, cnt_cons, cnt_nil] at *; omega)
    refine M.sta0 .here (osz O rfl) ((rArr 2 rComb).oone O) rfl .here fun h3 M => M.lda0 .here (osz O rfl) ?_
    exact ⟨_, B, rfl, O, M.drop⟩

theorem sz_CombA2_c {cs : Array Value} {xs : List GComb} (R0 : (rArr 2 rComb).rd h cs.toList xs) (left : Nat) (hl : left ≤ 1048576) : CALL prg f_laws_szCombA2 #[.agg cs, .int .i64 (left : Int)] (fun u h' => u = .int .i64 (subW left (w_CombA2 xs)) ∧ Ext h h') h := by
  have hx : xs.length = 2 := R0.1
  refine laws_szCombA2.call (alcR R0 fun g1 h1 x1 R => ?_)
  refine loop (fun x hh => ∃ m : Nat, x = (((left - nL w_Comb (xs.take m) : Nat) : Int), ⟨g1, 0, none⟩, (m : Int)) ∧ m ≤ 2 ∧ Ext h1 hh ∧ nL w_Comb (xs.take m) ≤ left) (fun x => (2 - x.2.2).toNat) ⟨0, rfl, by omega, Ext.refl _, Nat.zero_le _⟩ ?_
  rintro x hh ⟨m, rfl, hn, X, hm⟩
  refine brd (fun hc => ?_) fun hc => ?_
  · have h4 := nL_snoc (n := w_Comb) (xs := xs) (i := m) (by omega)
    have h5 := nL_take_le (n := w_Comb) xs (m + 1)
    refine idx (by omega) (by omega) (((R.ext X).elem (i := m) (by omega)).lda1 rfl fun c1 R1 => goX (sz_Comb_c R1 _ (by omega)) fun h' x' => as_i (sz_bif (fun hb => ⟨by rw [subW_neg (by show left < nL w_Comb xs; omega)], x1.trans (X.trans x')⟩) fun hb => ?_))
    rw [subW_pos hb, wrap64_succ (by omega)]
    exact ⟨⟨m + 1, by rw [h4, Nat.sub_sub], by omega, X.trans x', by omega⟩, by show _ < _; simp; omega⟩
  · obtain rfl : m = 2 := by omega
    have e : xs.take 2 = xs := by rw [← hx]; exact List.take_length
    rw [e] at hm ⊢
    exact ⟨by show Value.int .i64 _ = .int .i64 (subW left (nL w_Comb xs)); rw [subW_pos hm], x1.trans X⟩
theorem mark_CombA2_c {h0 : Heap} {B L : List Blk} {cs : Array Value} {xs : List GComb} (O0 : (rArr 2 rComb).ow B cs.toList xs) (M0 : Mem h0 h (B ++ L)) (k : Nat) (hw0 : w_CombA2 xs ≤ 1048576) (hk : k + n_CombA2 xs ≤ 1073741824) :
    CALL prg f_laws_markCombA2 #[.agg cs, .int .i64 (k : Int)] (fun u h' => u = .int .i64 ((k + n_CombA2 xs : Nat) : Int) ∧ ∃ B', (rArr 2 rComb).ow B' cs.toList (mk_CombA2 xs k) ∧ Mem h0 h' (B' ++ L)) h := by
  have hx : xs.length = 2 := O0.1
  have hcs : cs.size = 6 := osz O0 rfl
  have hnw := nw_CombA2 xs
  refine laws_markCombA2.call (M0.alc fun g1 h1 x1 M1 => ?_)
  refine loop (fun x hh => ∃ (m : Nat) (B : List Blk), x = (((k + nL n_Comb (xs.take m) : Nat) : Int), ⟨g1, 0, none⟩, (m : Int)) ∧ m ≤ 2 ∧ (rArr 2 rComb).ow B cs.toList (mkL mk_Comb n_Comb (xs.take m) k ++ xs.drop m) ∧ Mem h0 hh ((g1, T_2_impl_Comb, cs) :: (B ++ L))) (fun x => (2 - x.2.2).toNat) ⟨0, B, rfl, by omega, by simpa [mkL] using O0, M1⟩ ?_
  rintro x hh ⟨m, B, rfl, hn, O, M⟩
  refine brd (fun hc => ?_) fun hc => ?_
  · have h4 := nL_snoc (n := n_Comb) (xs := xs) (i := m) (by omega)
    have h5 : nL n_Comb (xs.take (m + 1)) ≤ n_CombA2 xs := nL_take_le xs (m + 1)
    have h6 : w_Comb xs[m]! ≤ w_CombA2 xs := nL_mem (by omega)
    obtain ⟨Bm, Br, hB, Om, reb⟩ := ow_upd O (Foc.arr rComb m (by omega))
    rw [mkL_at (by omega)] at Om
    refine idx (by omega) (by omega) ?_
    rw [add_none, Nat.zero_add, Int.toNat_natCast]
    refine M.lda .here (by omega) ?_
    rw [show m * rComb.sz = m * 3 from rfl, show rComb.sz = 3 from rfl, ← ext_part] at Om
    refine (mark_Comb_c Om (M.cnt (W := Bm ++ (Br ++ ((g1, T_2_impl_Comb, cs) :: L))) (fun p => by have := hB p; simp only [cnt_app, cnt_cons, cnt_nil] at *; omega)) (k + nL n_Comb (xs.take m)) (by omega) (by omega)).mono ?_
    rintro _ h' ⟨rfl, B', O', M⟩
    obtain ⟨B2, O, hB2⟩ := reb B' _ (by rw [show m * rComb.sz = m * 3 from rfl, show rComb.sz = 3 from rfl, ← ext_part]; exact O')
    rw [mkL_step (by omega)] at O
    refine as_i ?_
    rw [wrap64_succ (by omega)]
    exact ⟨⟨m + 1, B2, by rw [h4, Nat.add_assoc], by omega, O, M.cnt (fun p => by have := hB2 p; simp only [cnt_app, cnt_cons, cnt_nil] at *; omega)⟩, by show _ < _; simp; omega⟩
  · obtain rfl : m = 2 := by omega
    have e : xs.take 2 = xs := by rw [← hx]; exact List.take_length
    have e2 : xs.drop 2 = [] := List.drop_of_length_le (by omega)
    rw [e, e2, List.append_nil] at O
    rw [e]
    exact ⟨rfl, B, O, M.drop⟩
theorem held_CombA2_c {cs : Array Value} {xs : List GComb} (k : Nat) (R0 : (rArr 2 rComb).rd h cs.toList (mk_CombA2 xs k)) (hw0 : w_CombA2 xs ≤ 1048576) (hk : k + n_CombA2 xs ≤ 1073741824) :
    CALL prg f_laws_heldCombA2 #[.agg cs, .int .i64 (k : Int)] (fun u h' => u = .int .i64 ((k + n_CombA2 xs : Nat) : Int) ∧ Ext h h') h := by
  have hx : xs.length = 2 := by have := R0.1; rwa [mk_CombA2, mkL_len] at this
  have hnw := nw_CombA2 xs
  refine laws_heldCombA2.call (alcR R0 fun g1 h1 x1 R => ?_)
  refine loop (fun x hh => ∃ (m : Nat), x = (((k + nL n_Comb (xs.take m) : Nat) : Int), ⟨g1, 0, none⟩, (m : Int)) ∧ m ≤ 2 ∧ Ext h1 hh) (fun x => (2 - x.2.2).toNat) ⟨0, rfl, by omega, Ext.refl _⟩ ?_
  rintro x hh ⟨m, rfl, hn, X⟩
  refine brd (fun hc => ?_) fun hc => ?_
  · have h4 := nL_snoc (n := n_Comb) (xs := xs) (i := m) (by omega)
    have h5 : nL n_Comb (xs.take (m + 1)) ≤ n_CombA2 xs := nL_take_le xs (m + 1)
    have h6 : w_Comb xs[m]! ≤ w_CombA2 xs := nL_mem (by omega)
    have Re := (R.ext X).elem (i := m) (by omega)
    unfold mk_CombA2 at Re
    rw [mkL_get (by omega)] at Re
    refine idx (by omega) (by omega) (Re.lda1 rfl fun c1 R1 => goX (held_Comb_c _ R1 (by omega) (by omega)) fun h' x' => as_i (br_f (decide_eq_false (by omega)) ?_))
    rw [wrap64_succ (by omega)]
    exact ⟨⟨m + 1, by rw [h4, Nat.add_assoc], by omega, X.trans x'⟩, by show _ < _; simp; omega⟩
  · obtain rfl : m = 2 := by omega
    have e : xs.take 2 = xs := by rw [← hx]; exact List.take_length
    rw [e]
    exact ⟨rfl, x1.trans X⟩

def w_RingA4 (xs : List GRing) : Nat := nL w_Ring xs
def n_RingA4 (xs : List GRing) : Nat := nL n_Ring xs
def mk_RingA4 (xs : List GRing) (k : Nat) : List GRing := mkL mk_Ring n_Ring xs k
theorem nw_RingA4 (xs : List GRing) : n_RingA4 xs ≤ 8 * w_RingA4 xs := nL_le nw_Ring xs
theorem zow_RingA4 : (rArr 4 rRing).ow [] [Value.slice none 0 0, Value.int .i64 (0 : Int), Value.slice none 0 0, Value.int .i64 (0 : Int), Value.slice none 0 0, Value.int .i64 (0 : Int), Value.slice none 0 0, Value.int .i64 (0 : Int)] (List.replicate 4 z_Ring) := ⟨rfl, ⟨[], [], [Value.slice none 0 0, Value.int .i64 (0 : Int)], [Value.slice none 0 0, Value.int .i64 (0 : Int), Value.slice none 0 0, Value.int .i64 (0 : Int), Value.slice none 0 0, Value.int .i64 (0 : Int)], rfl, rfl, zow_Ring, ⟨[], [], [Value.slice none 0 0, Value.int .i64 (0 : Int)], [Value.slice none 0 0, Value.int .i64 (0 : Int), Value.slice none 0 0, Value.int .i64 (0 : Int)], rfl, rfl, zow_Ring, ⟨[], [], [Value.slice none 0 0, Value.int .i64 (0 : Int)], [Value.slice none 0 0, Value.int .i64 (0 : Int)], rfl, rfl, zow_Ring, ⟨[], [], [Value.slice none 0 0, Value.int .i64 (0 : Int)], [], rfl, rfl, zow_Ring, ⟨rfl, rfl⟩⟩⟩⟩⟩⟩
theorem eq_RingA4_c {ca cb : Array Value} {xs : List GRing} (Ra : (rArr 4 rRing).rd h ca.toList xs) (Rb : (rArr 4 rRing).rd h cb.toList xs) : CALL prg f_laws_eqRingA4 #[.agg ca, .agg cb] (fun u h' => u = .bool true ∧ Ext h h') h := by
  refine laws_eqRingA4.call (alcR Ra fun g1 h1 x1 A => alcR ((rArr 4 rRing).ext x1 Rb) fun g2 h2 x2 B => ?_)
  have A := A.ext x2
  refine loop (fun x hh => ∃ m : Nat, x = (⟨g1, 0, none⟩, ⟨g2, 0, none⟩, (m : Int)) ∧ m ≤ 4 ∧ Ext h2 hh) (fun x => (4 - x.2.2).toNat) ⟨0, rfl, by omega, Ext.refl _⟩ ?_
  rintro x hh ⟨m, rfl, hn, X⟩
  refine brd (fun hc => ?_) fun hc => ⟨rfl, (x1.trans x2).trans X⟩
  refine idx (by omega) (by omega) (((A.ext X).elem (i := m) (by omega)).lda1 rfl fun c1 R1 => idx (by omega) (by omega) (((B.ext X).elem (i := m) (by omega)).lda1 rfl fun c2 R2 => goX (eq_Ring_c R1 R2) fun h' x' => as_b (br_f rfl ?_)))
  rw [wrap64_succ (by omega)]
  exact ⟨⟨m + 1, rfl, by omega, X.trans x'⟩, by show _ < _; simp; omega⟩
theorem to_RingA4_c {cs : Array Value} {xs : List GRing} (R0 : (rArr 4 rRing).rd h cs.toList xs) (hw0 : w_RingA4 xs ≤ 1048576) : CALL prg f_laws_toRingA4 #[.agg cs] (fun u h' => NewR (rArr 4 rRing) h h' u xs) h := by
  have hl : xs.length = 4 := R0.1
  refine laws_toRingA4.call ((Mem.start h).alc fun g1 h1 x1 M => M.alc fun g2 h2 x2 M => M.alc fun g3 h3 x3 M => ?_)
  refine loop (fun x hh => ∃ m : Nat, x = (⟨g1, 0, none⟩, ⟨g2, 0, none⟩, ⟨g3, 0, none⟩, (m : Int)) ∧ m ≤ 4 ∧ Pt (rArr 4 rRing) h hh ⟨g3, 0, none⟩ ⟨g3, T_4_impl_Ring, [], []⟩ [(g2, T_4_impl_Ring, ⟨Z_4_impl_Ring⟩), (g1, T_4_laws_Ring, cs)] (xs.take m ++ List.replicate (4 - m) z_Ring)) (fun x => (4 - x.2.2.2).toNat) ⟨0, rfl, by omega, Pt.new (r := (rArr 4 rRing)) zow_RingA4 M⟩ ?_
  rintro x hh ⟨m, rfl, hn, P⟩
  refine brd (fun hc => ?_) fun hc => ?_
  · have R : RdP (rArr 4 rRing) hh ⟨g1, 0, none⟩ xs := P.mem.rdp (.there .here) ((rArr 4 rRing).ext P.ext R0)
    refine idx (by omega) (by omega) ((R.elem (i := m) (by omega)).lda1 rfl fun c1 R1 => NewR.pt P (to_Ring_c R1 (by have : w_Ring xs[m]! ≤ w_RingA4 xs := nL_mem (by omega); omega)) fun h' c2 B P O ho => as_a (idx (by omega) (by omega) ?_))
    refine P.sts (Foc.arr rRing m (by omega)) rfl O fun h' P' => ?_
    rw [wrap64_succ (by omega)]
    refine ⟨⟨m + 1, rfl, by omega, ?_⟩, by show _ < _; simp; omega⟩
    have e : (xs.take m ++ List.replicate (4 - m) z_Ring).set m xs[m]! = xs.take (m + 1) ++ List.replicate (4 - (m + 1)) z_Ring := by rw [getElem!_pos xs m (by omega)]; exact copy_step hl (by omega)
    rw [e] at P'
    exact P'
  · obtain rfl : m = 4 := by omega
    rw [show xs.take 4 ++ List.replicate (4 - 4) z_Ring = xs by rw [← hl]; simp] at P
    obtain ⟨cs', B, M, O⟩ := P.out
    refine M.lda0 .here (osz O rfl) ?_
    have M := M.cnt (W := (g2, T_4_impl_Ring, ⟨Z_4_impl_Ring⟩) :: B) (fun p => by simp only [cnt_app, cnt_cons, cnt_nil] at *; omega)
    refine M.sta0 .here (osz O rfl) ((rArr 4 rRing).oone O) rfl .here fun h3 M => M.lda0 .here (osz O rfl) ?_
    exact ⟨_, B, rfl, O, M.drop⟩

theorem sz_RingA4_c {cs : Array Value} {xs : List GRing} (R0 : (rArr 4 rRing).rd h cs.toList xs) (left : Nat) (hl : left ≤ 1048576) : CALL prg f_laws_szRingA4 #[.agg cs, .int .i64 (left : Int)] (fun u h' => u = .int .i64 (subW left (w_RingA4 xs)) ∧ Ext h h') h := by
  have hx : xs.length = 4 := R0.1
  refine laws_szRingA4.call (alcR R0 fun g1 h1 x1 R => ?_)
  refine loop (fun x hh => ∃ m : Nat, x = (((left - nL w_Ring (xs.take m) : Nat) : Int), ⟨g1, 0, none⟩, (m : Int)) ∧ m ≤ 4 ∧ Ext h1 hh ∧ nL w_Ring (xs.take m) ≤ left) (fun x => (4 - x.2.2).toNat) ⟨0, rfl, by omega, Ext.refl _, Nat.zero_le _⟩ ?_
  rintro x hh ⟨m, rfl, hn, X, hm⟩
  refine brd (fun hc => ?_) fun hc => ?_
  · have h4 := nL_snoc (n := w_Ring) (xs := xs) (i := m) (by omega)
    have h5 := nL_take_le (n := w_Ring) xs (m + 1)
    refine idx (by omega) (by omega) (((R.ext X).elem (i := m) (by omega)).lda1 rfl fun c1 R1 => goX (sz_Ring_c R1 _ (by omega)) fun h' x' => as_i (sz_bif (fun hb => ⟨by rw [subW_neg (by show left < nL w_Ring xs; omega)], x1.trans (X.trans x')⟩) fun hb => ?_))
    rw [subW_pos hb, wrap64_succ (by omega)]
    exact ⟨⟨m + 1, by rw [h4, Nat.sub_sub], by omega, X.trans x', by omega⟩, by show _ < _; simp; omega⟩
  · obtain rfl : m = 4 := by omega
    have e : xs.take 4 = xs := by rw [← hx]; exact List.take_length
    rw [e] at hm ⊢
    exact ⟨by show Value.int .i64 _ = .int .i64 (subW left (nL w_Ring xs)); rw [subW_pos hm], x1.trans X⟩
theorem mark_RingA4_c {h0 : Heap} {B L : List Blk} {cs : Array Value} {xs : List GRing} (O0 : (rArr 4 rRing).ow B cs.toList xs) (M0 : Mem h0 h (B ++ L)) (k : Nat) (hw0 : w_RingA4 xs ≤ 1048576) (hk : k + n_RingA4 xs ≤ 1073741824) :
    CALL prg f_laws_markRingA4 #[.agg cs, .int .i64 (k : Int)] (fun u h' => u = .int .i64 ((k + n_RingA4 xs : Nat) : Int) ∧ ∃ B', (rArr 4 rRing).ow B' cs.toList (mk_RingA4 xs k) ∧ Mem h0 h' (B' ++ L)) h := by
  have hx : xs.length = 4 := O0.1
  have hcs : cs.size = 8 := osz O0 rfl
  have hnw := nw_RingA4 xs
  refine laws_markRingA4.call (M0.alc fun g1 h1 x1 M1 => ?_)
  refine loop (fun x hh => ∃ (m : Nat) (B : List Blk), x = (((k + nL n_Ring (xs.take m) : Nat) : Int), ⟨g1, 0, none⟩, (m : Int)) ∧ m ≤ 4 ∧ (rArr 4 rRing).ow B cs.toList (mkL mk_Ring n_Ring (xs.take m) k ++ xs.drop m) ∧ Mem h0 hh ((g1, T_4_impl_Ring, cs) :: (B ++ L))) (fun x => (4 - x.2.2).toNat) ⟨0, B, rfl, by omega, by simpa [mkL] using O0, M1⟩ ?_
  rintro x hh ⟨m, B, rfl, hn, O, M⟩
  refine brd (fun hc => ?_) fun hc => ?_
  · have h4 := nL_snoc (n := n_Ring) (xs := xs) (i := m) (by omega)
    have h5 : nL n_Ring (xs.take (m + 1)) ≤ n_RingA4 xs := nL_take_le xs (m + 1)
    have h6 : w_Ring xs[m]! ≤ w_RingA4 xs := nL_mem (by omega)
    obtain ⟨Bm, Br, hB, Om, reb⟩ := ow_upd O (Foc.arr rRing m (by omega))
    rw [mkL_at (by omega)] at Om
    refine idx (by omega) (by omega) ?_
    rw [add_none, Nat.zero_add, Int.toNat_natCast]
    refine M.lda .here (by omega) ?_
    rw [show m * rRing.sz = m * 2 from rfl, show rRing.sz = 2 from rfl, ← ext_part] at Om
    refine (mark_Ring_c Om (M.cnt (W := Bm ++ (Br ++ ((g1, T_4_impl_Ring, cs) :: L))) (fun p => by have := hB p; simp only [cnt_app, cnt_cons, cnt_nil] at *; omega)) (k + nL n_Ring (xs.take m)) (by omega) (by omega)).mono ?_
    rintro _ h' ⟨rfl, B', O', M⟩
    obtain ⟨B2, O, hB2⟩ := reb B' _ (by rw [show m * rRing.sz = m * 2 from rfl, show rRing.sz = 2 from rfl, ← ext_part]; exact O')
    rw [mkL_step (by omega)] at O
    refine as_i ?_
    rw [wrap64_succ (by omega)]
    exact ⟨⟨m + 1, B2, by rw [h4, Nat.add_assoc], by omega, O, M.cnt (fun p => by have := hB2 p; simp only [cnt_app, cnt_cons, cnt_nil] at *; omega)⟩, by show _ < _; simp; omega⟩
  · obtain rfl : m = 4 := by omega
    have e : xs.take 4 = xs := by rw [← hx]; exact List.take_length
    have e2 : xs.drop 4 = [] := List.drop_of_length_le (by omega)
    rw [e, e2, List.append_nil] at O
    rw [e]
    exact ⟨rfl, B, O, M.drop⟩
theorem held_RingA4_c {cs : Array Value} {xs : List GRing} (k : Nat) (R0 : (rArr 4 rRing).rd h cs.toList (mk_RingA4 xs k)) (hw0 : w_RingA4 xs ≤ 1048576) (hk : k + n_RingA4 xs ≤ 1073741824) :
    CALL prg f_laws_heldRingA4 #[.agg cs, .int .i64 (k : Int)] (fun u h' => u = .int .i64 ((k + n_RingA4 xs : Nat) : Int) ∧ Ext h h') h := by
  have hx : xs.length = 4 := by have := R0.1; rwa [mk_RingA4, mkL_len] at this
  have hnw := nw_RingA4 xs
  refine laws_heldRingA4.call (alcR R0 fun g1 h1 x1 R => ?_)
  refine loop (fun x hh => ∃ (m : Nat), x = (((k + nL n_Ring (xs.take m) : Nat) : Int), ⟨g1, 0, none⟩, (m : Int)) ∧ m ≤ 4 ∧ Ext h1 hh) (fun x => (4 - x.2.2).toNat) ⟨0, rfl, by omega, Ext.refl _⟩ ?_
  rintro x hh ⟨m, rfl, hn, X⟩
  refine brd (fun hc => ?_) fun hc => ?_
  · have h4 := nL_snoc (n := n_Ring) (xs := xs) (i := m) (by omega)
    have h5 : nL n_Ring (xs.take (m + 1)) ≤ n_RingA4 xs := nL_take_le xs (m + 1)
    have h6 : w_Ring xs[m]! ≤ w_RingA4 xs := nL_mem (by omega)
    have Re := (R.ext X).elem (i := m) (by omega)
    unfold mk_RingA4 at Re
    rw [mkL_get (by omega)] at Re
    refine idx (by omega) (by omega) (Re.lda1 rfl fun c1 R1 => goX (held_Ring_c _ R1 (by omega) (by omega)) fun h' x' => as_i (br_f (decide_eq_false (by omega)) ?_))
    rw [wrap64_succ (by omega)]
    exact ⟨⟨m + 1, by rw [h4, Nat.add_assoc], by omega, X.trans x'⟩, by show _ < _; simp; omega⟩
  · obtain rfl : m = 4 := by omega
    have e : xs.take 4 = xs := by rw [← hx]; exact List.take_length
    rw [e]
    exact ⟨rfl, x1.trans X⟩

theorem zow_FilterA4 : (rArr 4 rFilter).ow [] [Value.int .i64 (0 : Int), Value.float .f32 0, Value.float .f32 0, Value.float .f32 0, Value.float .f32 0, Value.float .f32 0, Value.int .i64 (0 : Int), Value.float .f32 0, Value.float .f32 0, Value.float .f32 0, Value.float .f32 0, Value.float .f32 0, Value.int .i64 (0 : Int), Value.float .f32 0, Value.float .f32 0, Value.float .f32 0, Value.float .f32 0, Value.float .f32 0, Value.int .i64 (0 : Int), Value.float .f32 0, Value.float .f32 0, Value.float .f32 0, Value.float .f32 0, Value.float .f32 0] (List.replicate 4 z_Filter) := ⟨rfl, ⟨[], [], [Value.int .i64 (0 : Int), Value.float .f32 0, Value.float .f32 0, Value.float .f32 0, Value.float .f32 0, Value.float .f32 0], [Value.int .i64 (0 : Int), Value.float .f32 0, Value.float .f32 0, Value.float .f32 0, Value.float .f32 0, Value.float .f32 0, Value.int .i64 (0 : Int), Value.float .f32 0, Value.float .f32 0, Value.float .f32 0, Value.float .f32 0, Value.float .f32 0, Value.int .i64 (0 : Int), Value.float .f32 0, Value.float .f32 0, Value.float .f32 0, Value.float .f32 0, Value.float .f32 0], rfl, rfl, zow_Filter, ⟨[], [], [Value.int .i64 (0 : Int), Value.float .f32 0, Value.float .f32 0, Value.float .f32 0, Value.float .f32 0, Value.float .f32 0], [Value.int .i64 (0 : Int), Value.float .f32 0, Value.float .f32 0, Value.float .f32 0, Value.float .f32 0, Value.float .f32 0, Value.int .i64 (0 : Int), Value.float .f32 0, Value.float .f32 0, Value.float .f32 0, Value.float .f32 0, Value.float .f32 0], rfl, rfl, zow_Filter, ⟨[], [], [Value.int .i64 (0 : Int), Value.float .f32 0, Value.float .f32 0, Value.float .f32 0, Value.float .f32 0, Value.float .f32 0], [Value.int .i64 (0 : Int), Value.float .f32 0, Value.float .f32 0, Value.float .f32 0, Value.float .f32 0, Value.float .f32 0], rfl, rfl, zow_Filter, ⟨[], [], [Value.int .i64 (0 : Int), Value.float .f32 0, Value.float .f32 0, Value.float .f32 0, Value.float .f32 0, Value.float .f32 0], [], rfl, rfl, zow_Filter, ⟨rfl, rfl⟩⟩⟩⟩⟩⟩
theorem eq_FilterA4_c {ca cb : Array Value} {xs : List GFilter} (Ra : (rArr 4 rFilter).rd h ca.toList xs) (Rb : (rArr 4 rFilter).rd h cb.toList xs) : CALL prg f_laws_eqFilterA4 #[.agg ca, .agg cb] (fun u h' => u = .bool true ∧ Ext h h') h := by
  refine laws_eqFilterA4.call (alcR Ra fun g1 h1 x1 A => alcR ((rArr 4 rFilter).ext x1 Rb) fun g2 h2 x2 B => ?_)
  have A := A.ext x2
  refine loop (fun x hh => ∃ m : Nat, x = (⟨g1, 0, none⟩, ⟨g2, 0, none⟩, (m : Int)) ∧ m ≤ 4 ∧ Ext h2 hh) (fun x => (4 - x.2.2).toNat) ⟨0, rfl, by omega, Ext.refl _⟩ ?_
  rintro x hh ⟨m, rfl, hn, X⟩
  refine brd (fun hc => ?_) fun hc => ⟨rfl, (x1.trans x2).trans X⟩
  refine idx (by omega) (by omega) (((A.ext X).elem (i := m) (by omega)).lda1 rfl fun c1 R1 => idx (by omega) (by omega) (((B.ext X).elem (i := m) (by omega)).lda1 rfl fun c2 R2 => goX (eq_Filter_c R1 R2) fun h' x' => as_b (br_f rfl ?_)))
  rw [wrap64_succ (by omega)]
  exact ⟨⟨m + 1, rfl, by omega, X.trans x'⟩, by show _ < _; simp; omega⟩
theorem to_FilterA4_c {cs : Array Value} {xs : List GFilter} (R0 : (rArr 4 rFilter).rd h cs.toList xs) : CALL prg f_laws_toFilterA4 #[.agg cs] (fun u h' => NewR (rArr 4 rFilter) h h' u xs) h := by
  have hl : xs.length = 4 := R0.1
  refine laws_toFilterA4.call ((Mem.start h).alc fun g1 h1 x1 M => M.alc fun g2 h2 x2 M => M.alc fun g3 h3 x3 M => ?_)
  refine loop (fun x hh => ∃ m : Nat, x = (⟨g1, 0, none⟩, ⟨g2, 0, none⟩, ⟨g3, 0, none⟩, (m : Int)) ∧ m ≤ 4 ∧ Pt (rArr 4 rFilter) h hh ⟨g3, 0, none⟩ ⟨g3, T_4_impl_Filter, [], []⟩ [(g2, T_4_impl_Filter, ⟨Z_4_impl_Filter⟩), (g1, T_4_laws_Filter, cs)] (xs.take m ++ List.replicate (4 - m) z_Filter)) (fun x => (4 - x.2.2.2).toNat) ⟨0, rfl, by omega, Pt.new (r := (rArr 4 rFilter)) zow_FilterA4 M⟩ ?_
  rintro x hh ⟨m, rfl, hn, P⟩
  refine brd (fun hc => ?_) fun hc => ?_
  · have R : RdP (rArr 4 rFilter) hh ⟨g1, 0, none⟩ xs := P.mem.rdp (.there .here) ((rArr 4 rFilter).ext P.ext R0)
    refine idx (by omega) (by omega) ((R.elem (i := m) (by omega)).lda1 rfl fun c1 R1 => NewR.pt P (to_Filter_c R1) fun h' c2 B P O ho => as_a (idx (by omega) (by omega) ?_))
    refine P.sts (Foc.arr rFilter m (by omega)) rfl O fun h' P' => ?_
    rw [wrap64_succ (by omega)]
    refine ⟨⟨m + 1, rfl, by omega, ?_⟩, by show _ < _; simp; omega⟩
    have e : (xs.take m ++ List.replicate (4 - m) z_Filter).set m xs[m]! = xs.take (m + 1) ++ List.replicate (4 - (m + 1)) z_Filter := by rw [getElem!_pos xs m (by omega)]; exact copy_step hl (by omega)
    rw [e] at P'
    exact P'
  · obtain rfl : m = 4 := by omega
    rw [show xs.take 4 ++ List.replicate (4 - 4) z_Filter = xs by rw [← hl]; simp] at P
    obtain ⟨cs', B, M, O⟩ := P.out
    refine M.lda0 .here (osz O rfl) ?_
    have M := M.cnt (W := (g2, T_4_impl_Filter, ⟨Z_4_impl_Filter⟩) :: B) (fun p => by simp only [cnt_app, cnt_cons, cnt_nil] at *; omega)
    refine M.sta0 .here (osz O rfl) ((rArr 4 rFilter).oone O) rfl .here fun h3 M => M.lda0 .here (osz O rfl) ?_
    exact ⟨_, B, rfl, O, M.drop⟩

theorem eq_Room_c {ca cb : Array Value} {x : GRoom} (Ra : rRoom.rd h ca.toList x) (Rb : rRoom.rd h cb.toList x) : CALL prg f_laws_eqRoom #[.agg ca, .agg cb] (fun u h' => u = .bool true ∧ Ext h h') h := by
  refine laws_eqRoom.call (alcR Ra fun g1 h1 x1 A => alcR (rRoom.ext x1 Rb) fun g2 h2 x2 B => ?_)
  have A := A.ext x2
  have X := x1.trans x2
  refine A.lda2 foc_Room_Early rfl fun c1 R1 => B.lda2 foc_Room_Early rfl fun c2 R2 => goX (eq_Ring_c R1 R2) fun h' x' => as_b (br_f rfl ?_)
  have A := A.ext x'
  have B := B.ext x'
  have X := X.trans x'
  refine A.oL2 fun b1 l1 c1 S1 => B.oL2 fun b2 l2 c2 S2 => goX (eq_TapS_c S1 S2) fun h' x' => as_b (br_f rfl ?_)
  have A := A.ext x'
  have B := B.ext x'
  have X := X.trans x'
  refine A.lda2 foc_Room_Combs rfl fun c1 R1 => B.lda2 foc_Room_Combs rfl fun c2 R2 => goX (eq_CombA2_c R1 R2) fun h' x' => as_b (br_f rfl ?_)
  have A := A.ext x'
  have B := B.ext x'
  have X := X.trans x'
  refine A.lda2 foc_Room_Loops rfl fun c1 R1 => B.lda2 foc_Room_Loops rfl fun c2 R2 => goX (eq_RingA4_c R1 R2) fun h' x' => as_b (br_f rfl ?_)
  have A := A.ext x'
  have B := B.ext x'
  have X := X.trans x'
  refine A.lda2 foc_Room_Damps rfl fun c1 R1 => B.lda2 foc_Room_Damps rfl fun c2 R2 => goX (eq_FilterA4_c R1 R2) fun h' x' => as_b (br_f rfl ?_)
  have A := A.ext x'
  have B := B.ext x'
  have X := X.trans x'
  refine A.lda2 foc_Room_Gains rfl fun c1 R1 => B.lda2 foc_Room_Gains rfl fun c2 R2 => goX (eq_Float32A4_c R1 R2) fun h' x' => as_b (br_f rfl ?_)
  have A := A.ext x'
  have B := B.ext x'
  have X := X.trans x'
  refine A.oF2 fun y hy => ffc_wide hy fun r1 k1 => B.oF2 fun z hz => ffc_wide hz fun r2 k2 => goX (sameW_c k1 k2 _) fun h' x' => as_b (br_f rfl ?_)
  have A := A.ext x'
  have B := B.ext x'
  have X := X.trans x'
  refine A.oF2 fun y hy => ffc_wide hy fun r1 k1 => B.oF2 fun z hz => ffc_wide hz fun r2 k2 => goX (sameW_c k1 k2 _) fun h' x' => as_b (br_f rfl ?_)
  have A := A.ext x'
  have B := B.ext x'
  have X := X.trans x'
  exact ⟨rfl, X⟩
def w_Room (x : GRoom) : Nat := w_Ring x.Early + w_TapS x.Taps + w_CombA2 x.Combs + w_RingA4 x.Loops
theorem sz_Room_c {cs : Array Value} {x : GRoom} (R0 : rRoom.rd h cs.toList x) (left : Nat) (hl : left ≤ 1048576) : CALL prg f_laws_szRoom #[.agg cs, .int .i64 (left : Int)] (fun u h' => u = .int .i64 (subW left (w_Room x)) ∧ Ext h h') h := by
  have hw : w_Room x = w_Ring x.Early + w_TapS x.Taps + w_CombA2 x.Combs + w_RingA4 x.Loops := rfl
  refine laws_szRoom.call (alcR R0 fun g1 h1 X R => ?_)
  refine R.lda2 foc_Room_Early rfl fun c1 R1 => goX (sz_Ring_c R1 (left) (by omega)) fun h' x' => as_i (sz_bif (fun hc => ⟨by rw [subW_neg (by omega)], X.trans x'⟩) fun hc => ?_)
  rw [subW_pos hc]
  have R := R.ext x'
  have X := X.trans x'
  refine R.oL2 fun b1 l1 c1 S1 => goX (sz_TapS_c S1 (left - w_Ring x.Early) (by omega)) fun h' x' => as_i (sz_bif (fun hc => ⟨by rw [subW_neg (by omega)], X.trans x'⟩) fun hc => ?_)
  rw [subW_pos hc]
  have R := R.ext x'
  have X := X.trans x'
  refine R.lda2 foc_Room_Combs rfl fun c1 R1 => goX (sz_CombA2_c R1 (left - w_Ring x.Early - w_TapS x.Taps) (by omega)) fun h' x' => as_i (sz_bif (fun hc => ⟨by rw [subW_neg (by omega)], X.trans x'⟩) fun hc => ?_)
  rw [subW_pos hc]
  have R := R.ext x'
  have X := X.trans x'
  refine R.lda2 foc_Room_Loops rfl fun c1 R1 => goX (sz_RingA4_c R1 (left - w_Ring x.Early - w_TapS x.Taps - w_CombA2 x.Combs) (by omega)) fun h' x' => as_i (sz_bif (fun hc => ⟨by rw [subW_neg (by omega)], X.trans x'⟩) fun hc => ?_)
  rw [subW_pos hc]
  have R := R.ext x'
  have X := X.trans x'
  exact ⟨by rw [subW_pos (by omega)]; congr 2 <;> omega, X⟩
theorem to_Room_c {cs : Array Value} {x : GRoom} (R0 : rRoom.rd h cs.toList x) (hw0 : w_Room x ≤ 1048576) : CALL prg f_laws_toRoom #[.agg cs] (fun u h' => NewR rRoom h h' u x) h := by
  have hw : w_Room x = w_Ring x.Early + w_TapS x.Taps + w_CombA2 x.Combs + w_RingA4 x.Loops := rfl
  refine laws_toRoom.call ((Mem.start h).alc fun g1 h1 x1 M => M.alc fun g2 h2 x2 M => M.alc fun g3 h3 x3 M => ?_)
  have P : Pt rRoom h h3 ⟨g3, 0, none⟩ ⟨g3, T_impl_Room, [], []⟩ [(g2, T_impl_Room, ⟨Z_impl_Room⟩), (g1, T_laws_Room, cs)] z_Room := Pt.new (r := rRoom) zow_Room M
  have R : RdP rRoom _ ⟨g1, 0, none⟩ x := P.mem.rdp (.there .here) (rRoom.ext P.ext R0)
  refine R.lda2 foc_Room_Early rfl fun c1 R1 => NewR.pt P (to_Ring_c R1 (by omega)) fun h' c2 B P O ho => as_a (P.stsg foc_Room_Early rfl O fun h' P => ?_)
  have R : RdP rRoom _ ⟨g1, 0, none⟩ x := P.mem.rdp (.there .here) (rRoom.ext P.ext R0)
  refine R.oL2 fun b l c S => (to_TapS_c S (by have := S.len; omega)).mono ?_
  rintro _ h' ⟨b', c', B, rfl, O, N⟩
  refine as_l ((P.join N).stLg O fun h' P => ?_)
  have R : RdP rRoom _ ⟨g1, 0, none⟩ x := P.mem.rdp (.there .here) (rRoom.ext P.ext R0)
  refine R.lda2 foc_Room_Combs rfl fun c1 R1 => NewR.pt P (to_CombA2_c R1 (by omega)) fun h' c2 B P O ho => as_a (P.stsg foc_Room_Combs rfl O fun h' P => ?_)
  have R : RdP rRoom _ ⟨g1, 0, none⟩ x := P.mem.rdp (.there .here) (rRoom.ext P.ext R0)
  refine R.lda2 foc_Room_Loops rfl fun c1 R1 => NewR.pt P (to_RingA4_c R1 (by omega)) fun h' c2 B P O ho => as_a (P.stsg foc_Room_Loops rfl O fun h' P => ?_)
  have R : RdP rRoom _ ⟨g1, 0, none⟩ x := P.mem.rdp (.there .here) (rRoom.ext P.ext R0)
  refine R.lda2 foc_Room_Damps rfl fun c1 R1 => NewR.pt P (to_FilterA4_c R1) fun h' c2 B P O ho => as_a (P.stsg foc_Room_Damps rfl O fun h' P => ?_)
  have R : RdP rRoom _ ⟨g1, 0, none⟩ x := P.mem.rdp (.there .here) (rRoom.ext P.ext R0)
  refine R.lda2 foc_Room_Gains rfl fun c1 R1 => NewR.pt P (to_Float32A4_c R1) fun h' c2 B P O ho => as_a (P.stsg foc_Room_Gains rfl O fun h' P => ?_)
  have R : RdP rRoom _ ⟨g1, 0, none⟩ x := P.mem.rdp (.there .here) (rRoom.ext P.ext R0)
  refine R.oF2 fun y hy => P.stFg hy fun h' P => ?_
  have R : RdP rRoom _ ⟨g1, 0, none⟩ x := P.mem.rdp (.there .here) (rRoom.ext P.ext R0)
  refine R.oF2 fun y hy => P.stFg hy fun h' P => ?_
  obtain ⟨c', B, M, O⟩ := P.out
  refine M.lda0 .here (osz O rfl) ?_
  have M := M.cnt (W := (g2, T_impl_Room, ⟨Z_impl_Room⟩) :: B) (fun p => by simp only [cnt_app, cnt_cons, cnt_nil] at *; omega)
  refine M.sta0 .here (osz O rfl) (rRoom.oone O) rfl .here fun h3 M => M.lda0 .here (osz O rfl) ?_
  exact ⟨_, B, rfl, O, M.drop⟩
def n_Room (x : GRoom) : Nat := n_Ring x.Early + n_TapS x.Taps + n_CombA2 x.Combs + n_RingA4 x.Loops
def mk_Room (x : GRoom) (k : Nat) : GRoom := { x with Early := mk_Ring x.Early (k), Taps := mk_TapS x.Taps (k + n_Ring x.Early), Combs := mk_CombA2 x.Combs (k + n_Ring x.Early + n_TapS x.Taps), Loops := mk_RingA4 x.Loops (k + n_Ring x.Early + n_TapS x.Taps + n_CombA2 x.Combs) }
theorem nw_Room (x : GRoom) : n_Room x ≤ 8 * w_Room x := by
  have h0 := nw_Ring x.Early
  have h1 := nw_TapS x.Taps
  have h2 := nw_CombA2 x.Combs
  have h3 := nw_RingA4 x.Loops
  have e1 : n_Room x = n_Ring x.Early + n_TapS x.Taps + n_CombA2 x.Combs + n_RingA4 x.Loops := rfl
  have e2 : w_Room x = w_Ring x.Early + w_TapS x.Taps + w_CombA2 x.Combs + w_RingA4 x.Loops := rfl
  omega
theorem mark_Room_c {h0 : Heap} {B L : List Blk} {cs : Array Value} {x : GRoom} (O : rRoom.ow B cs.toList x) (M : Mem h0 h (B ++ L)) (k : Nat) (hw0 : w_Room x ≤ 1048576) (hk : k + n_Room x ≤ 1073741824) :
    CALL prg f_laws_markRoom #[.agg cs, .int .i64 (k : Int)] (fun u h' => u = .int .i64 ((k + n_Room x : Nat) : Int) ∧ ∃ B', rRoom.ow B' cs.toList (mk_Room x k) ∧ Mem h0 h' (B' ++ L)) h := by
  have hw : w_Room x = w_Ring x.Early + w_TapS x.Taps + w_CombA2 x.Combs + w_RingA4 x.Loops := rfl
  have hn : n_Room x = n_Ring x.Early + n_TapS x.Taps + n_CombA2 x.Combs + n_RingA4 x.Loops := rfl
  refine laws_markRoom.call (M.alc fun g1 h1 x1 M => ?_)
  obtain ⟨Bm, Br, hB, Om, reb⟩ := ow_upd O foc_Room_Early
  refine M.lda .here (by have := osz O rfl; rw [this]; decide) ?_
  rw [← ext_part] at Om
  refine (mark_Ring_c (x := x.Early) Om (M.cnt (W := Bm ++ (Br ++ ((g1, T_impl_Room, cs) :: L))) (fun p => by have := hB p; simp only [cnt_app, cnt_cons, cnt_nil] at *; omega)) (k) (by omega) (by omega)).mono ?_
  rintro _ h' ⟨rfl, B', O', M⟩
  obtain ⟨B2, O, hB2⟩ := reb B' _ (by rw [← ext_part]; exact O')
  refine as_i ?_
  have M := M.cnt (W := (g1, T_impl_Room, cs) :: (B2 ++ L)) (fun p => by have := hB2 p; simp only [cnt_app, cnt_cons, cnt_nil] at *; omega)
  clear reb
  obtain ⟨Bm, Br, hB, Om, reb⟩ := ow_upd O foc_Room_Taps
  obtain ⟨b, l, c, e, Om⟩ := Om
  refine o_l ((M.cell .here _).trans (cell_part e)) ?_
  refine (mark_TapS_c (xs := x.Taps) Om (M.cnt (W := Bm ++ (Br ++ ((g1, T_impl_Room, cs) :: L))) (fun p => by have := hB p; simp only [cnt_app, cnt_cons, cnt_nil] at *; omega)) (k + n_Ring x.Early) (by omega) (by omega)).mono ?_
  rintro _ h' ⟨rfl, B', O', M⟩
  obtain ⟨B2, O, hB2⟩ := reb B' _ ⟨b, l, c, e, O'⟩
  refine as_i ?_
  have M := M.cnt (W := (g1, T_impl_Room, cs) :: (B2 ++ L)) (fun p => by have := hB2 p; simp only [cnt_app, cnt_cons, cnt_nil] at *; omega)
  clear reb
  obtain ⟨Bm, Br, hB, Om, reb⟩ := ow_upd O foc_Room_Combs
  refine M.lda .here (by have := osz O rfl; rw [this]; decide) ?_
  rw [← ext_part] at Om
  refine (mark_CombA2_c (xs := x.Combs) Om (M.cnt (W := Bm ++ (Br ++ ((g1, T_impl_Room, cs) :: L))) (fun p => by have := hB p; simp only [cnt_app, cnt_cons, cnt_nil] at *; omega)) (k + n_Ring x.Early + n_TapS x.Taps) (by omega) (by omega)).mono ?_
  rintro _ h' ⟨rfl, B', O', M⟩
  obtain ⟨B2, O, hB2⟩ := reb B' _ (by rw [← ext_part]; exact O')
  refine as_i ?_
  have M := M.cnt (W := (g1, T_impl_Room, cs) :: (B2 ++ L)) (fun p => by have := hB2 p; simp only [cnt_app, cnt_cons, cnt_nil] at *; omega)
  clear reb
  obtain ⟨Bm, Br, hB, Om, reb⟩ := ow_upd O foc_Room_Loops
  refine M.lda .here (by have := osz O rfl; rw [this]; decide) ?_
  rw [← ext_part] at Om
  refine (mark_RingA4_c (xs := x.Loops) Om (M.cnt (W := Bm ++ (Br ++ ((g1, T_impl_Room, cs) :: L))) (fun p => by have := hB p; simp only [cnt_app, cnt_cons, cnt_nil] at *; omega)) (k + n_Ring x.Early + n_TapS x.Taps + n_CombA2 x.Combs) (by omega) (by omega)).mono ?_
  rintro _ h' ⟨rfl, B', O', M⟩
  obtain ⟨B2, O, hB2⟩ := reb B' _ (by rw [← ext_part]; exact O')
  refine as_i ?_
  have M := M.cnt (W := (g1, T_impl_Room, cs) :: (B2 ++ L)) (fun p => by have := hB2 p; simp only [cnt_app, cnt_cons, cnt_nil] at *; omega)
  clear reb
  exact ⟨by congr 2 <;> (unfold n_Room; omega), B2, O, M.drop⟩
theorem held_Room_c {cs : Array Value} {x : GRoom} (k : Nat) (R0 : rRoom.rd h cs.toList (mk_Room x k)) (hw0 : w_Room x ≤ 1048576) (hk : k + n_Room x ≤ 1073741824) :
    CALL prg f_laws_heldRoom #[.agg cs, .int .i64 (k : Int)] (fun u h' => u = .int .i64 ((k + n_Room x : Nat) : Int) ∧ Ext h h') h := by
  have hw : w_Room x = w_Ring x.Early + w_TapS x.Taps + w_CombA2 x.Combs + w_RingA4 x.Loops := rfl
  have hn : n_Room x = n_Ring x.Early + n_TapS x.Taps + n_CombA2 x.Combs + n_RingA4 x.Loops := rfl
  refine laws_heldRoom.call (alcR R0 fun g1 h1 X R => ?_)
  refine R.lda2 foc_Room_Early rfl fun c1 R1 => goX (held_Ring_c (x := x.Early) (k) R1 (by omega) (by omega)) fun h' x' => as_i (br_f (decide_eq_false (by omega)) ?_)
  have R := R.ext x'
  have X := X.trans x'
  refine R.oL2 fun b1 l1 c1 S1 => goX (held_TapS_c (xs := x.Taps) (k + n_Ring x.Early) S1 (by omega) (by omega)) fun h' x' => as_i (br_f (decide_eq_false (by omega)) ?_)
  have R := R.ext x'
  have X := X.trans x'
  refine R.lda2 foc_Room_Combs rfl fun c1 R1 => goX (held_CombA2_c (xs := x.Combs) (k + n_Ring x.Early + n_TapS x.Taps) R1 (by omega) (by omega)) fun h' x' => as_i (br_f (decide_eq_false (by omega)) ?_)
  have R := R.ext x'
  have X := X.trans x'
  refine R.lda2 foc_Room_Loops rfl fun c1 R1 => goX (held_RingA4_c (xs := x.Loops) (k + n_Ring x.Early + n_TapS x.Taps + n_CombA2 x.Combs) R1 (by omega) (by omega)) fun h' x' => as_i (br_f (decide_eq_false (by omega)) ?_)
  have R := R.ext x'
  have X := X.trans x'
  exact ⟨by congr 2 <;> (unfold n_Room; omega), X⟩
end
end Go.Sx
