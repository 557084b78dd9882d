/- Floats in blocks beside own data; blocks made sample by sample. -/
import Derived.Test.YthhepeklpgefkaaGreatDoorLk3
import Derived.Test.YthhepeklpgefkaaGreatDoorLk67
import Derived.Test.YthhepeklpgefkaaGreatDoorH3
set_option linter.unusedVariables false
set_option linter.unusedSimpArgs false
namespace Go.Sx
open Go.Proofs
set_option maxRecDepth 100000
set_option maxHeartbeats 1000000

theorem rdsF_any {k : FloatKind} {h h' : Heap} : ∀ {xs : List Nat} {vs : List Value}, rds (rF k) h vs xs → rds (rF k) h' vs xs
  | [], vs, R => R
  | a :: xs, vs, R => by
    obtain ⟨v1, v2, rfl, R1, R2⟩ := R
    exact ⟨v1, v2, rfl, R1, rdsF_any R2⟩
/-- n floats, wherever they lie. -/
def FA (n : Nat) (cs : Array Value) (xs : List Nat) : Prop := (rArr n (rF .f32)).rd #[] cs.toList xs
section
variable {n : Nat} {cs : Array Value} {xs : List Nat}
theorem FA.rd (R : FA n cs xs) (h : Heap) : (rArr n (rF .f32)).rd h cs.toList xs := ⟨R.1, rdsF_any R.2⟩
theorem FA.of {h : Heap} (R : (rArr n (rF .f32)).rd h cs.toList xs) : FA n cs xs := ⟨R.1, rdsF_any R.2⟩
theorem FA.size (R : FA n cs xs) : cs.size = n := by have := rsz R rfl; rw [this]; exact Nat.mul_one n
theorem FA.one (R : FA n cs xs) : ∀ v ∈ cs.toList, v.oneCell' = true := (rArr n (rF .f32)).rone R
end
def zeros16 : List Nat := List.replicate 16 0
theorem FA.zero : FA 16 ⟨Z_impl_Block⟩ zeros16 := ⟨rfl, rdsF_any (h := #[]) ((zeros_fl 16).look (Mem.start #[]) (List.Sublist.refl _))⟩
section
variable {h0 h : Heap} {q : Addr} {F : Fr} {L : List Blk} {n : Nat}
theorem Mem.pin2 {h0' h' : Heap} {L' : List Blk} {g m : Nat} {cs : Array Value} {p : Prop} (M : Mem h0 h L) (l : Look L g cs) (M' : Mem h0' h' L') (l' : Look L' g cs) (H : p) : PIN h ⟨g, 0, none⟩ m h' p :=
  ⟨fun j _ => by rw [add_g, M.cell l, M'.cell l'], H⟩
end
end Go.Sx
/- The laws' helpers over pipes: what they compute. -/
set_option linter.unusedVariables false
set_option linter.unusedSimpArgs false
namespace Go.Sx
open Go.Proofs
set_option maxRecDepth 100000

section
variable {h : Heap}
theorem szp_Ring : 0 < rRing.sz := by decide
def w_RingS (xs : List GRing) : Nat := xs.length + nL w_Ring xs
theorem sz_RingS_c {b : Option Addr} {l c : Nat} {xs : List GRing} (S : SlR rRing h b l c xs) (left : Nat) (hl : left ≤ 1048576) : CALL prg f_laws_szRingS #[.slice b l c, .int .i64 (left : Int)] (fun u h' => u = .int .i64 (subW left (w_RingS xs)) ∧ Ext h h') h := by
  have hx := S.len
  have h2 := S.2.1
  have h3 := S.2.2.1
  have hw : w_RingS xs = xs.length + nL w_Ring xs := rfl
  have := maxLen_lt
  refine laws_szRingS.call ?_
  unfold laws_szRingS.S
  rw [wrap64 (n := (left : Int) - (l : Int)) (by omega) (by omega)]
  refine brd (fun hc => ⟨by rw [subW_neg (by omega)], Ext.refl _⟩) fun hc => ?_
  refine loop (fun x hh => ∃ m : Nat, x = (b, l, c, ((left - l - nL w_Ring (xs.take m) : Nat) : Int), (m : Int)) ∧ m ≤ l ∧ Ext h hh ∧ nL w_Ring (xs.take m) ≤ left - l) (fun x => (l - x.2.2.2.2).toNat) ⟨0, by rw [show ((left : Int) - (l : Int)) = ((left - l : Nat) : Int) by omega]; rfl, by omega, Ext.refl _, Nat.zero_le _⟩ ?_
  rintro x hh ⟨m, rfl, hn, X, hm⟩
  refine brd (fun hc => ?_) fun hc => ?_
  · have h4 := nL_snoc (n := w_Ring) (xs := xs) (i := m) (by omega)
    have h5 := nL_take_le (n := w_Ring) xs (m + 1)
    refine (S.ext X).idx szp_Ring (by omega) (by omega) fun a Ra => Ra.lda1 rfl fun c1 R1 => goX (sz_Ring_c R1 _ (by omega)) fun h' x' => as_i (sz_bif (fun hb => ⟨by rw [Int.toNat_natCast] at hb; rw [subW_neg (by omega)], X.trans x'⟩) fun hb => ?_)
    rw [subW_pos hb, wrap64_succ (by omega)]
    rw [Int.toNat_natCast] at hb ⊢
    exact ⟨⟨m + 1, by rw [h4, Nat.sub_sub], by omega, X.trans x', by omega⟩, by show _ < _; simp; omega⟩
  · obtain rfl : m = l := by omega
    have e : xs.take m = xs := by rw [← hx]; exact List.take_length
    rw [e] at hm ⊢
    exact ⟨by rw [subW_pos (by omega), hw, hx, Nat.sub_sub], X⟩
theorem to_RingS_c {b : Option Addr} {l c : Nat} {xs : List GRing} (S : SlR rRing h b l c xs) (hl0 : w_RingS xs ≤ 1048576) : CALL prg f_laws_toRingS #[.slice b l c] (fun u h' => ∃ b' c' B, u = .slice b' l c' ∧ SlO T_impl_Ring rRing B b' l c' xs ∧ Mem h h' B) h := by
  have hxl := S.len
  have hw : w_RingS xs = xs.length + nL w_Ring xs := rfl
  have hl : l ≤ 1048576 := by omega
  refine laws_toRingS.call ?_
  refine make_sl (r := rRing) (z := z_Ring) (zc := Z_impl_Ring) zow_Ring rfl rfl (by decide) (Mem.start h) (by show 32 * l ≤ 2 ^ 48; omega) (Nat.le_trans hl (by decide)) fun g h1 x1 M0 O0 => ?_
  refine loop (fun x hh => ∃ (n : Nat) (B : List Blk), x = (b, l, c, some ⟨g, 0, none⟩, l, l, (n : Int)) ∧ n ≤ l ∧ SlO T_impl_Ring rRing B (some ⟨g, 0, none⟩) l l (xs.take n ++ List.replicate (l - n) z_Ring) ∧ Mem h hh (B ++ [])) (fun x => (l - x.2.2.2.2.2.2).toNat) ⟨0, _, rfl, by omega, O0, M0⟩ ?_
  rintro x hh ⟨n, B, rfl, hn, O, M⟩
  refine brd (fun hc => ?_) fun hc => ?_
  · have h5 : w_Ring xs[n]! ≤ nL w_Ring xs := nL_mem (by omega)
    refine (S.ext M.ext).idx szp_Ring (by omega) (by omega) fun a Ra => Ra.lda1 rfl fun c1 R1 => NewR.go M (to_Ring_c R1 (by rw [Int.toNat_natCast]; omega)) fun h' c2 B2 M2 O2 ho => as_a ?_
    obtain ⟨a0, F', C, e, op, close⟩ := O.elem2 (i := n) (by omega)
    cases e
    have P := (op _ _ B2 (M2.cnt (fun p => by simp only [cnt_app, cnt_cons, cnt_nil] at *; omega))).cnt (W := B2 ++ (C ++ [])) (fun p => by simp only [cnt_app, cnt_cons, cnt_nil] at *; omega)
    refine idxs (by omega) (by omega) ?_
    rw [Int.toNat_natCast] at O2
    rw [Int.toNat_natCast, show n * 2 = n * rRing.sz from rfl]
    refine (add0 ((⟨g, 0, none⟩ : Addr).add (n * rRing.sz))) ▸ P.sts (Foc.here rRing) rfl O2 fun h'' P => ?_
    obtain ⟨B', O', M'⟩ := close _ _ _ _ P
    have e : (xs.take n ++ List.replicate (l - n) z_Ring).set n xs[n]! = xs.take (n + 1) ++ List.replicate (l - (n + 1)) z_Ring := by rw [getElem!_pos xs n (by omega)]; exact copy_step hxl (by omega)
    rw [e] at O'
    rw [wrap64_succ (by omega)]
    exact ⟨⟨n + 1, B', rfl, by omega, O', M'⟩, by show _ < _; simp; omega⟩
  · obtain rfl : n = l := by omega
    rw [show xs.take n ++ List.replicate (n - n) z_Ring = xs by rw [← hxl]; simp] at O
    rw [List.append_nil] at M
    exact ⟨_, _, B, rfl, O, M⟩
theorem eq_RingS_c {b1 b2 : Option Addr} {l1 c1 l2 c2 : Nat} {xs : List GRing} (S1 : SlR rRing h b1 l1 c1 xs) (S2 : SlR rRing h b2 l2 c2 xs) : CALL prg f_laws_eqRingS #[.slice b1 l1 c1, .slice b2 l2 c2] (fun u h' => u = .bool true ∧ Ext h h') h := by
  have e1 := S1.len
  have e2 := S2.len
  have h2 := S1.2.1
  have h3 := S1.2.2.1
  have := maxLen_lt
  obtain rfl : l1 = l2 := by omega
  refine laws_eqRingS.call (br_f (by simp) ?_)
  refine loop (fun x hh => ∃ n : Nat, x = (b1, l1, c1, b2, l1, c2, (n : Int)) ∧ n ≤ l1 ∧ Ext h hh) (fun x => (l1 - x.2.2.2.2.2.2).toNat) ⟨0, rfl, by omega, Ext.refl _⟩ ?_
  rintro x hh ⟨n, rfl, hn, X⟩
  refine brd (fun hc => ?_) fun hc => ⟨rfl, X⟩
  refine (S1.ext X).idx szp_Ring (by omega) (by omega) fun a Ra => Ra.lda1 rfl fun ca R1 => (S2.ext X).idx szp_Ring (by omega) (by omega) fun a' Rb => Rb.lda1 rfl fun cb R2 => goX (eq_Ring_c R1 R2) fun h' x' => as_b (br_f rfl ?_)
  rw [wrap64_succ (by omega)]
  exact ⟨⟨n + 1, rfl, by omega, X.trans x'⟩, by show _ < _; simp; omega⟩
def n_RingS (xs : List GRing) : Nat := nL (fun r => r.Samples.length + 1) xs
def mkE_Ring (r : GRing) (k : Nat) : GRing := ⟨mk_Float32S r.Samples k, ((k + r.Samples.length : Nat) : Int)⟩
def mk_RingS (xs : List GRing) (k : Nat) : List GRing := mkL mkE_Ring (fun r => r.Samples.length + 1) xs k
theorem nw_RingS (xs : List GRing) : n_RingS xs ≤ 8 * w_RingS xs := by
  unfold n_RingS w_RingS
  induction xs with
  | nil => simp [nL]
  | cons x xs ih =>
    have : w_Ring x = x.Samples.length := rfl
    simp only [nL, List.length_cons] at *; omega
theorem ring_nw (x : GRing) : w_Ring x = x.Samples.length := rfl
theorem mark_RingS_c {h0 : Heap} {B L : List Blk} {b : Option Addr} {l c : Nat} {xs : List GRing} (O0 : SlO T_impl_Ring rRing B b l c xs) (M0 : Mem h0 h (B ++ L)) (k : Nat) (hw0 : w_RingS xs ≤ 1048576) (hk : k + n_RingS xs ≤ 1073741824) :
    CALL prg f_laws_markRingS #[.slice b l c, .int .i64 (k : Int)] (fun u h' => u = .int .i64 ((k + n_RingS xs : Nat) : Int) ∧ ∃ B', SlO T_impl_Ring rRing B' b l c (mk_RingS xs k) ∧ Mem h0 h' (B' ++ L)) h := by
  have hx := O0.len
  have hw : w_RingS xs = xs.length + nL w_Ring xs := rfl
  refine laws_markRingS.call ?_
  refine loop (fun x hh => ∃ (n : Nat) (B : List Blk), x = (b, l, c, ((k + nL (fun r => r.Samples.length + 1) (xs.take n) : Nat) : Int), (n : Int)) ∧ n ≤ l ∧ SlO T_impl_Ring rRing B b l c (mkL mkE_Ring (fun r => r.Samples.length + 1) (xs.take n) k ++ xs.drop n) ∧ Mem h0 hh (B ++ L)) (fun x => (l - x.2.2.2.2).toNat) ⟨0, B, rfl, by omega, by simpa [mkL] using O0, M0⟩ ?_
  rintro x hh ⟨n, B, rfl, hn, O, M⟩
  refine brd (fun hc => ?_) fun hc => ?_
  · have h4 := nL_snoc (n := fun r : GRing => r.Samples.length + 1) (xs := xs) (i := n) (by omega)
    have h5 : nL (fun r : GRing => r.Samples.length + 1) (xs.take (n + 1)) ≤ n_RingS xs := nL_take_le xs (n + 1)
    have h6 : w_Ring xs[n]! ≤ nL w_Ring xs := nL_mem (by omega)
    rw [ring_nw] at h6
    obtain ⟨a0, F', L', rfl, P, hs, close⟩ := O.elem M (i := n) (by omega)
    rw [mkL_at (by omega)] at P
    refine idxs (by omega) (by omega) ?_
    rw [Int.toNat_natCast, show n * 2 = n * rRing.sz from rfl]
    obtain ⟨b2, l2, c2, Bs, N, eb, Ms, Os, hs2, back⟩ := P.sl1 foc_Ring_Samples
    refine o_l eb ((mark_Float32S_c Os Ms (k + nL (fun r => r.Samples.length + 1) (xs.take n)) (by unfold w_Float32S; omega) (by unfold n_Float32S; omega)).mono ?_)
    rintro _ h' ⟨rfl, B', O', M'⟩
    have P := (back _ _ _ _ O' M').1
    refine as_i (idxs (by omega) (by omega) ?_)
    refine P.stI fun h'' P => ?_
    obtain ⟨B', O', M'⟩ := close _ _ _ P
    have st := mkL_step (mk := mkE_Ring) (n := fun r : GRing => r.Samples.length + 1) (k := k) (xs := xs) (i := n) (by omega)
    have O' : SlO T_impl_Ring rRing B' (some a0) l c ((mkL mkE_Ring (fun r => r.Samples.length + 1) (xs.take n) k ++ xs.drop n).set n (mkE_Ring xs[n]! (k + nL (fun r => r.Samples.length + 1) (xs.take n)))) := O'
    rw [st] at O'
    have e7 : n_Float32S xs[n]!.Samples = xs[n]!.Samples.length := rfl
    rw [wrap64_succ (by omega), wrap64_succ (by omega)]
    exact ⟨⟨n + 1, B', by rw [h4, e7]; simp only [Nat.add_assoc], by omega, O', M'⟩, by show _ < _; simp; omega⟩
  · obtain rfl : n = l := by omega
    have e : xs.take n = xs := by rw [← hx]; exact List.take_length
    have e2 : xs.drop n = [] := List.drop_of_length_le (by omega)
    rw [e, e2, List.append_nil] at O
    rw [e]
    exact ⟨rfl, B, O, M⟩
theorem eq_Pipe_c {ca cb : Array Value} {x : GPipe} (Ra : rPipe.rd h ca.toList x) (Rb : rPipe.rd h cb.toList x) : CALL prg f_laws_eqPipe #[.agg ca, .agg cb] (fun u h' => u = .bool true ∧ Ext h h') h := by
  refine laws_eqPipe.call (alcR Ra fun g1 h1 x1 A => alcR (rPipe.ext x1 Rb) fun g2 h2 x2 B => ?_)
  have A := A.ext x2
  have X := x1.trans x2
  refine A.oL2 fun b1 l1 c1 S1 => B.oL2 fun b2 l2 c2 S2 => goX (eq_RingS_c S1 S2) fun h' x' => as_b (br_f rfl ?_)
  have A := A.ext x'
  have B := B.ext x'
  have X := X.trans x'
  refine A.oL2 fun b1 l1 c1 S1 => B.oL2 fun b2 l2 c2 S2 => goX (eq_RingS_c S1 S2) fun h' x' => as_b (br_f rfl ?_)
  have A := A.ext x'
  have B := B.ext x'
  have X := X.trans x'
  refine A.oL2 fun b1 l1 c1 S1 => B.oL2 fun b2 l2 c2 S2 => goX (eq_Float32S_c S1 S2) fun h' x' => as_b (br_f rfl ?_)
  have A := A.ext x'
  have B := B.ext x'
  have X := X.trans x'
  refine A.lda2 foc_Pipe_End rfl fun c1 R1 => B.lda2 foc_Pipe_End rfl fun c2 R2 => goX (eq_Filter_c R1 R2) fun h' x' => as_b (br_f rfl ?_)
  have A := A.ext x'
  have B := B.ext x'
  have X := X.trans x'
  refine A.oB2 (B.oB2 (br_f (by simp) ?_))
  refine A.oF2 fun y hy => ffc_wide hy fun r1 k1 => B.oF2 fun z hz => ffc_wide hz fun r2 k2 => goX (sameW_c k1 k2 _) fun h' x' => as_b (br_f rfl ?_)
  have A := A.ext x'
  have B := B.ext x'
  have X := X.trans x'
  refine A.oF2 fun y hy => ffc_wide hy fun r1 k1 => B.oF2 fun z hz => ffc_wide hz fun r2 k2 => goX (sameW_c k1 k2 _) fun h' x' => as_b (br_f rfl ?_)
  have A := A.ext x'
  have B := B.ext x'
  have X := X.trans x'
  refine A.oF2 fun y hy => ffc_wide hy fun r1 k1 => B.oF2 fun z hz => ffc_wide hz fun r2 k2 => goX (sameW_c k1 k2 _) fun h' x' => as_b (br_f rfl ?_)
  have A := A.ext x'
  have B := B.ext x'
  have X := X.trans x'
  exact ⟨rfl, X⟩
def w_Pipe (x : GPipe) : Nat := w_RingS x.Right + w_RingS x.Left + w_Float32S x.Scatter
theorem sz_Pipe_c {cs : Array Value} {x : GPipe} (R0 : rPipe.rd h cs.toList x) (left : Nat) (hl : left ≤ 1048576) : CALL prg f_laws_szPipe #[.agg cs, .int .i64 (left : Int)] (fun u h' => u = .int .i64 (subW left (w_Pipe x)) ∧ Ext h h') h := by
  have hw : w_Pipe x = w_RingS x.Right + w_RingS x.Left + w_Float32S x.Scatter := rfl
  refine laws_szPipe.call (alcR R0 fun g1 h1 X R => ?_)
  refine R.oL2 fun b1 l1 c1 S1 => goX (sz_RingS_c S1 (left) (by omega)) fun h' x' => as_i (sz_bif (fun hc => ⟨by rw [subW_neg (by omega)], X.trans x'⟩) fun hc => ?_)
  rw [subW_pos hc]
  have R := R.ext x'
  have X := X.trans x'
  refine R.oL2 fun b1 l1 c1 S1 => goX (sz_RingS_c S1 (left - w_RingS x.Right) (by omega)) fun h' x' => as_i (sz_bif (fun hc => ⟨by rw [subW_neg (by omega)], X.trans x'⟩) fun hc => ?_)
  rw [subW_pos hc]
  have R := R.ext x'
  have X := X.trans x'
  refine R.oL2 fun b1 l1 c1 S1 => goX (sz_Float32S_c S1 (left - w_RingS x.Right - w_RingS x.Left) (by omega)) fun h' x' => as_i (sz_bif (fun hc => ⟨by rw [subW_neg (by omega)], X.trans x'⟩) fun hc => ?_)
  rw [subW_pos hc]
  have R := R.ext x'
  have X := X.trans x'
  exact ⟨by rw [subW_pos (by omega)]; congr 2 <;> omega, X⟩
theorem to_Pipe_c {cs : Array Value} {x : GPipe} (R0 : rPipe.rd h cs.toList x) (hw0 : w_Pipe x ≤ 1048576) : CALL prg f_laws_toPipe #[.agg cs] (fun u h' => NewR rPipe h h' u x) h := by
  have hw : w_Pipe x = w_RingS x.Right + w_RingS x.Left + w_Float32S x.Scatter := rfl
  refine laws_toPipe.call ((Mem.start h).alc fun g1 h1 x1 M => M.alc fun g2 h2 x2 M => M.alc fun g3 h3 x3 M => ?_)
  have P : Pt rPipe h h3 ⟨g3, 0, none⟩ ⟨g3, T_impl_Pipe, [], []⟩ [(g2, T_impl_Pipe, ⟨Z_impl_Pipe⟩), (g1, T_laws_Pipe, cs)] z_Pipe := Pt.new (r := rPipe) zow_Pipe M
  have R : RdP rPipe _ ⟨g1, 0, none⟩ x := P.mem.rdp (.there .here) (rPipe.ext P.ext R0)
  refine R.oL2 fun b l c S => (to_RingS_c S (by have := S.len; omega)).mono ?_
  rintro _ h' ⟨b', c', B, rfl, O, N⟩
  refine as_l ((P.join N).stLg O fun h' P => ?_)
  have R : RdP rPipe _ ⟨g1, 0, none⟩ x := P.mem.rdp (.there .here) (rPipe.ext P.ext R0)
  refine R.oL2 fun b l c S => (to_RingS_c S (by have := S.len; omega)).mono ?_
  rintro _ h' ⟨b', c', B, rfl, O, N⟩
  refine as_l ((P.join N).stLg O fun h' P => ?_)
  have R : RdP rPipe _ ⟨g1, 0, none⟩ x := P.mem.rdp (.there .here) (rPipe.ext P.ext R0)
  refine R.oL2 fun b l c S => (to_Float32S_c S (by have := S.len; omega)).mono ?_
  rintro _ h' ⟨b', c', B, rfl, O, N⟩
  refine as_l ((P.join N).stLg O fun h' P => ?_)
  have R : RdP rPipe _ ⟨g1, 0, none⟩ x := P.mem.rdp (.there .here) (rPipe.ext P.ext R0)
  refine R.lda2 foc_Pipe_End rfl fun c1 R1 => NewR.pt P (to_Filter_c R1) fun h' c2 B P O ho => as_a (P.stsg foc_Pipe_End rfl O fun h' P => ?_)
  have R : RdP rPipe _ ⟨g1, 0, none⟩ x := P.mem.rdp (.there .here) (rPipe.ext P.ext R0)
  refine R.oB2 (P.stB2 fun h' P => ?_)
  have R : RdP rPipe _ ⟨g1, 0, none⟩ x := P.mem.rdp (.there .here) (rPipe.ext P.ext R0)
  refine R.oF2 fun y hy => P.stFg hy fun h' P => ?_
  have R : RdP rPipe _ ⟨g1, 0, none⟩ x := P.mem.rdp (.there .here) (rPipe.ext P.ext R0)
  refine R.oF2 fun y hy => P.stFg hy fun h' P => ?_
  have R : RdP rPipe _ ⟨g1, 0, none⟩ x := P.mem.rdp (.there .here) (rPipe.ext P.ext R0)
  refine R.oF2 fun y hy => P.stFg hy fun h' P => ?_
  obtain ⟨c', B, M, O⟩ := P.out
  refine M.lda0 .here (osz O rfl) ?_
  have M := M.cnt (W := (g2, T_impl_Pipe, ⟨Z_impl_Pipe⟩) :: B) (fun p => by simp only [cnt_app, cnt_cons, cnt_nil] at *; omega)
  refine M.sta0 .here (osz O rfl) (rPipe.oone O) rfl .here fun h3 M => M.lda0 .here (osz O rfl) ?_
  exact ⟨_, B, rfl, O, M.drop⟩
end
end Go.Sx
