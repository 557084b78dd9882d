/- The laws' helpers over floats: what they compute. -/
import Derived.Test.YtnhcoeogejgidadGreatDoorLk1
import Derived.Test.YtnhcoeogejgidadGreatDoorH1
import Derived.Test.YtnhcoeogejgidadGreatDoorTab
set_option linter.unusedVariables false
set_option linter.unusedSimpArgs false
namespace Go.Sx
open Go.Proofs
set_option maxRecDepth 100000

def w_Float32S (xs : List Nat) : Nat := xs.length
def subW (left w : Nat) : Int := if left < w then -1 else ((left - w : Nat) : Int)
theorem sz_bif {left w : Nat} {p q : Prop} (ht : left < w → p) (hf : w ≤ left → q) : BIF (decide (subW left w < 0)) p q := by
  refine brd (fun h => ht ?_) fun h => hf ?_
  · unfold subW at h; split at h <;> omega
  · unfold subW at h; split at h <;> omega
theorem subW_neg {left w : Nat} (h : left < w) : subW left w = -1 := by unfold subW; rw [if_pos h]
theorem subW_pos {left w : Nat} (h : w ≤ left) : subW left w = ((left - w : Nat) : Int) := by unfold subW; rw [if_neg (by omega)]
theorem isF_gtz {o : Option Nat} {r1 r2 : Nat} (h1 : IsF .f64 o r1) (h2 : IsF .f64 o r2) : (FloatKind.f64.format.order r1 0 == some .gt) = (FloatKind.f64.format.order r2 0 == some .gt) := by
  cases o with
  | some v => rw [show r1 = v from h1, show r2 = v from h2]
  | none => rw [order_nan_left (nan_of_isNaNW (k := .f64) h1), order_nan_left (nan_of_isNaNW (k := .f64) h2)]
theorem sameFloat_c {a b : Nat} (hab : cn .f64 a = cn .f64 b) : Ret prg f_laws_sameFloat #[.float .f64 a, .float .f64 b] (.bool true) := fun h => by
  obtain ⟨hn, he⟩ := canon_eq_iff hab
  refine laws_sameFloat.call ?_
  unfold laws_sameFloat.S
  simp only [ne_self]
  cases hna : nan .f64 a with
  | true => exact br_t rfl (br_t rfl ⟨by rw [← hn, hna], Ext.refl _⟩)
  | false =>
    obtain rfl := he hna
    refine br_f rfl (br_f hna ?_)
    unfold laws_sameFloat.J3
    have hoo : FloatKind.f64.format.order a a = some .eq := by rw [order_self, hna]; rfl
    refine br (fun hz => ?_) fun hz => ?_
    · unfold laws_sameFloat.J4
      rw [hz]
      exact br_t rfl fun r1 h1 r2 h2 => ⟨by rw [isF_gtz h1 h2]; simp, Ext.refl _⟩
    · unfold laws_sameFloat.J4
      exact br_f rfl ⟨by rw [hoo]; rfl, Ext.refl _⟩
theorem sameW_c {a b c : Nat} (ha : FW .f64 a (wid c)) (hb : FW .f64 b (wid c)) : Ret prg f_laws_sameFloat #[.float .f64 a, .float .f64 b] (.bool true) := sameFloat_c (by rw [ha.1, hb.1])
section
variable {h : Heap}
theorem sz_Float32S_c {b : Option Addr} {l c : Nat} {xs : List Nat} (S : SlR (rF .f32) h b l c xs) (left : Nat) (hl : left ≤ 1048576) : CALL prg f_laws_szFloat32S #[.slice b l c, .int .i64 (left : Int)] (fun u h' => u = .int .i64 (subW left (w_Float32S xs)) ∧ Ext h h') h := by
  have h1 : w_Float32S xs = l := S.len
  have h2 := S.2.1
  have h3 := S.2.2.1
  have := maxLen_lt
  refine laws_szFloat32S.call ?_
  unfold laws_szFloat32S.S
  rw [wrap64 (n := (left : Int) - (l : Int)) (by omega) (by omega), h1]
  refine brd (fun hc => ⟨by rw [subW_neg (by omega)], Ext.refl _⟩) fun hc => ⟨by rw [subW_pos (by omega)]; congr 1; omega, Ext.refl _⟩
theorem to_Float32S_c {b : Option Addr} {l c : Nat} {xs : List Nat} (S : SlR (rF .f32) h b l c xs) (hl0 : w_Float32S xs ≤ 1048576) : CALL prg f_laws_toFloat32S #[.slice b l c] (fun u h' => ∃ b' c' B, u = .slice b' l c' ∧ SlO T_float32 (rF .f32) B b' l c' xs ∧ Mem h h' B) h := by
  have hxl := S.len
  have hl : l ≤ 1048576 := by unfold w_Float32S at hl0; omega
  refine laws_toFloat32S.call (make_floats (Mem.start h) hl fun g h1 x1 M0 O0 => ?_)
  refine loop (fun x hh => ∃ (n : Nat) (B : List Blk), x = (b, l, c, some ⟨g, 0, none⟩, l, l, (n : Int)) ∧ n ≤ l ∧ SlO T_float32 (rF .f32) B (some ⟨g, 0, none⟩) l l (xs.take n ++ List.replicate (l - n) 0) ∧ Mem h hh (B ++ [])) (fun x => (l - x.2.2.2.2.2.2).toNat) ⟨0, _, rfl, by omega, O0, M0⟩ ?_
  rintro x hh ⟨n, B, rfl, hn, O, M⟩
  refine brd (fun hc => ?_) fun hc => ?_
  · refine (S.ext M.ext).idx (by decide) (by omega) (by omega) fun a Ra => Ra.oF1 fun y hy => ?_
    obtain ⟨a0, F', L', e, P, hs, close⟩ := O.elem M (i := n) (by omega)
    cases e
    refine idxs (by omega) (by omega) (P.stF1 hy fun h' P' => ?_)
    obtain ⟨B', O', M'⟩ := close _ _ _ P'
    rw [wrap64_succ (by omega)]
    refine ⟨⟨n + 1, B', rfl, by omega, ?_, M'⟩, by show _ < _; simp; omega⟩
    have e : (xs.take n ++ List.replicate (l - n) 0).set n xs[n]! = xs.take (n + 1) ++ List.replicate (l - (n + 1)) 0 := by rw [getElem!_pos xs n (by omega)]; exact copy_step hxl (by omega)
    rw [Int.toNat_natCast, e] at O'
    exact O'
  · obtain rfl : n = l := by omega
    rw [show xs.take n ++ List.replicate (n - n) 0 = xs by rw [← hxl]; simp] at O
    rw [List.append_nil] at M
    exact ⟨_, _, B, rfl, O, M⟩
theorem eq_Float32S_c {b1 b2 : Option Addr} {l1 c1 l2 c2 : Nat} {xs : List Nat} (S1 : SlR (rF .f32) h b1 l1 c1 xs) (S2 : SlR (rF .f32) h b2 l2 c2 xs) : CALL prg f_laws_eqFloat32S #[.slice b1 l1 c1, .slice b2 l2 c2] (fun u h' => u = .bool true ∧ Ext h h') h := by
  have e1 := S1.len
  have e2 := S2.len
  have h2 := S1.2.1
  have h3 := S1.2.2.1
  have := maxLen_lt
  obtain rfl : l1 = l2 := by omega
  refine laws_eqFloat32S.call (br_f (by simp) ?_)
  refine loop (fun x hh => ∃ n : Nat, x = (b1, l1, c1, b2, l1, c2, (n : Int)) ∧ n ≤ l1 ∧ Ext h hh) (fun x => (l1 - x.2.2.2.2.2.2).toNat) ⟨0, rfl, by omega, Ext.refl _⟩ ?_
  rintro x hh ⟨n, rfl, hn, X⟩
  refine brd (fun hc => ?_) fun hc => ⟨rfl, X⟩
  refine (S1.ext X).idx (by decide) (by omega) (by omega) fun a Ra => Ra.oF1 fun y hy => (S2.ext X).idx (by decide) (by omega) (by omega) fun a' Rb => Rb.oF1 fun z hz => ?_
  have fin : ∀ {h'}, Ext hh h' → (∃ n_1 : Nat, ((b1, l1, c1, b2, l1, c2, IntKind.i64.wrap ((n : Int) + 1)) : Option Addr × Nat × Nat × Option Addr × Nat × Nat × Int) = (b1, l1, c1, b2, l1, c2, (n_1 : Int)) ∧ n_1 ≤ l1 ∧ Ext h h') ∧ ((l1 : Int) - IntKind.i64.wrap ((n : Int) + 1)).toNat < ((l1 : Int) - (n : Int)).toNat := by
    intro h' x'
    rw [wrap64_succ (by omega)]
    exact ⟨⟨n + 1, rfl, by omega, X.trans x'⟩, by omega⟩
  exact ⟨ffc_wide hy fun r1 k1 => pin_same (ffc_wide hz fun r2 k2 => pin_same (goX (sameW_c k1 k2 _) fun h' x' => as_b (br_f rfl (fin x')))),
    ffc_wide hz fun r1 k1 => pin_same (ffc_wide hy fun r2 k2 => pin_same (goX (sameW_c k2 k1 _) fun h' x' => as_b (br_f rfl (fin x'))))⟩
theorem zow_Float32A2 : (rArr 2 (rF .f32)).ow [] (List.replicate 2 (.float .f32 0)) (List.replicate 2 0) := ⟨by simp, zeros_fl _⟩
theorem to_Float32A2_c {cs : Array Value} {xs : List Nat} (R0 : (rArr 2 (rF .f32)).rd h cs.toList xs) : CALL prg f_laws_toFloat32A2 #[.agg cs] (fun u h' => NewR (rArr 2 (rF .f32)) h h' u xs) h := by
  refine laws_toFloat32A2.call ((Mem.start h).alc fun g1 h1 x1 M => M.alc fun g2 h2 x2 M => M.alc fun g3 h3 x3 M => ?_)
  have R : RdP (rArr 2 (rF .f32)) h3 ⟨g1, 0, none⟩ xs := M.rdp (.there (.there .here)) ((rArr 2 (rF .f32)).ext M.ext R0)
  have hl : xs.length = 2 := R0.1
  refine loop (fun x hh => ∃ n : Nat, x = (⟨g1, 0, none⟩, ⟨g2, 0, none⟩, ⟨g3, 0, none⟩, (n : Int)) ∧ n ≤ 2 ∧ Pt (rArr 2 (rF .f32)) h hh ⟨g3, 0, none⟩ ⟨g3, T_2_float32, [], []⟩ [(g2, T_2_float32, ⟨Z_2_float32⟩), (g1, T_2_float32, cs)] (xs.take n ++ List.replicate (2 - n) 0)) (fun x => (2 - x.2.2.2).toNat) ⟨0, rfl, by omega, Pt.new (r := rArr 2 (rF .f32)) zow_Float32A2 M⟩ ?_
  rintro x hh ⟨n, rfl, hn, P⟩
  refine brd (fun hc => ?_) fun hc => ?_
  · have R : RdP (rArr 2 (rF .f32)) hh ⟨g1, 0, none⟩ xs := P.mem.rdp (.there .here) ((rArr 2 (rF .f32)).ext P.ext R0)
    refine idx (by omega) (by omega) ((R.elem (i := n) (by omega)).oF1 fun y hy => idx (by omega) (by omega) ?_)
    refine Pt.st (B' := []) (v := .float .f32 y) (b := xs[n]!) P (Foc.arr (rF .f32) n (by omega)) rfl ⟨rfl, y, rfl, hy⟩ fun h' P' => ?_
    rw [wrap64_succ (by omega)]
    refine ⟨⟨n + 1, rfl, by omega, ?_⟩, by show _ < _; simp; omega⟩
    have e : (xs.take n ++ List.replicate (2 - n) 0).set n xs[n]! = xs.take (n + 1) ++ List.replicate (2 - (n + 1)) 0 := by rw [getElem!_pos xs n (by omega)]; exact copy_step hl (by omega)
    rw [e] at P'
    exact P'
  · obtain rfl : n = 2 := by omega
    rw [show xs.take 2 ++ List.replicate (2 - 2) 0 = xs by rw [← hl]; simp] at P
    obtain ⟨cs', B, M, O⟩ := P.out
    refine M.lda0 .here (osz O rfl) ?_
    have M := M.cnt (W := (g2, T_2_float32, ⟨Z_2_float32⟩) :: B) (fun p => by simp only [cnt_app, cnt_cons, cnt_nil] at *; omega)
    refine M.sta0 .here (osz O rfl) ((rArr 2 (rF .f32)).oone O) rfl .here fun h3 M => M.lda0 .here (osz O rfl) ?_
    exact ⟨_, B, rfl, O, M.drop⟩
theorem eq_Float32A2_c {ca cb : Array Value} {xs : List Nat} (Ra : (rArr 2 (rF .f32)).rd h ca.toList xs) (Rb : (rArr 2 (rF .f32)).rd h cb.toList xs) : CALL prg f_laws_eqFloat32A2 #[.agg ca, .agg cb] (fun u h' => u = .bool true ∧ Ext h h') h := by
  refine laws_eqFloat32A2.call (alcR Ra fun g1 h1 x1 A => alcR ((rArr 2 (rF .f32)).ext x1 Rb) fun g2 h2 x2 B => ?_)
  have A := A.ext x2
  refine loop (fun x hh => ∃ n : Nat, x = (⟨g1, 0, none⟩, ⟨g2, 0, none⟩, (n : Int)) ∧ n ≤ 2 ∧ Ext h2 hh) (fun x => (2 - x.2.2).toNat) ⟨0, rfl, by omega, Ext.refl _⟩ ?_
  rintro x hh ⟨n, rfl, hn, X⟩
  refine brd (fun hc => ?_) fun hc => ⟨rfl, (x1.trans x2).trans X⟩
  have A1 := (A.ext X).elem (i := n) (by omega)
  have B1 := (B.ext X).elem (i := n) (by omega)
  refine idx (by omega) (by omega) (A1.oF1 fun y hy => idx (by omega) (by omega) (B1.oF1 fun z hz => ?_))
  have fin : ∀ {h'}, Ext hh h' → (∃ n_1 : Nat, ((⟨g1, 0, none⟩, ⟨g2, 0, none⟩, IntKind.i64.wrap ((n : Int) + 1)) : Addr × Addr × Int) = (⟨g1, 0, none⟩, ⟨g2, 0, none⟩, (n_1 : Int)) ∧ n_1 ≤ 2 ∧ Ext h2 h') ∧ ((2 : Int) - IntKind.i64.wrap ((n : Int) + 1)).toNat < ((2 : Int) - (n : Int)).toNat := by
    intro h' x'
    rw [wrap64_succ (by omega)]
    exact ⟨⟨n + 1, rfl, by omega, X.trans x'⟩, by omega⟩
  exact ⟨ffc_wide hy fun r1 k1 => pin_same (ffc_wide hz fun r2 k2 => pin_same (goX (sameW_c k1 k2 _) fun h' x' => as_b (br_f rfl (fin x')))),
    ffc_wide hz fun r1 k1 => pin_same (ffc_wide hy fun r2 k2 => pin_same (goX (sameW_c k2 k1 _) fun h' x' => as_b (br_f rfl (fin x'))))⟩
theorem zow_Float32A3 : (rArr 3 (rF .f32)).ow [] (List.replicate 3 (.float .f32 0)) (List.replicate 3 0) := ⟨by simp, zeros_fl _⟩
theorem to_Float32A3_c {cs : Array Value} {xs : List Nat} (R0 : (rArr 3 (rF .f32)).rd h cs.toList xs) : CALL prg f_laws_toFloat32A3 #[.agg cs] (fun u h' => NewR (rArr 3 (rF .f32)) h h' u xs) h := by
  refine laws_toFloat32A3.call ((Mem.start h).alc fun g1 h1 x1 M => M.alc fun g2 h2 x2 M => M.alc fun g3 h3 x3 M => ?_)
  have R : RdP (rArr 3 (rF .f32)) h3 ⟨g1, 0, none⟩ xs := M.rdp (.there (.there .here)) ((rArr 3 (rF .f32)).ext M.ext R0)
  have hl : xs.length = 3 := R0.1
  refine loop (fun x hh => ∃ n : Nat, x = (⟨g1, 0, none⟩, ⟨g2, 0, none⟩, ⟨g3, 0, none⟩, (n : Int)) ∧ n ≤ 3 ∧ Pt (rArr 3 (rF .f32)) h hh ⟨g3, 0, none⟩ ⟨g3, T_3_float32, [], []⟩ [(g2, T_3_float32, ⟨Z_3_float32⟩), (g1, T_3_float32, cs)] (xs.take n ++ List.replicate (3 - n) 0)) (fun x => (3 - x.2.2.2).toNat) ⟨0, rfl, by omega, Pt.new (r := rArr 3 (rF .f32)) zow_Float32A3 M⟩ ?_
  rintro x hh ⟨n, rfl, hn, P⟩
  refine brd (fun hc => ?_) fun hc => ?_
  · have R : RdP (rArr 3 (rF .f32)) hh ⟨g1, 0, none⟩ xs := P.mem.rdp (.there .here) ((rArr 3 (rF .f32)).ext P.ext R0)
    refine idx (by omega) (by omega) ((R.elem (i := n) (by omega)).oF1 fun y hy => idx (by omega) (by omega) ?_)
    refine Pt.st (B' := []) (v := .float .f32 y) (b := xs[n]!) P (Foc.arr (rF .f32) n (by omega)) rfl ⟨rfl, y, rfl, hy⟩ fun h' P' => ?_
    rw [wrap64_succ (by omega)]
    refine ⟨⟨n + 1, rfl, by omega, ?_⟩, by show _ < _; simp; omega⟩
    have e : (xs.take n ++ List.replicate (3 - n) 0).set n xs[n]! = xs.take (n + 1) ++ List.replicate (3 - (n + 1)) 0 := by rw [getElem!_pos xs n (by omega)]; exact copy_step hl (by omega)
    rw [e] at P'
    exact P'
  · obtain rfl : n = 3 := by omega
    rw [show xs.take 3 ++ List.replicate (3 - 3) 0 = xs by rw [← hl]; simp] at P
    obtain ⟨cs', B, M, O⟩ := P.out
    refine M.lda0 .here (osz O rfl) ?_
    have M := M.cnt (W := (g2, T_3_float32, ⟨Z_3_float32⟩) :: B) (fun p => by simp only [cnt_app, cnt_cons, cnt_nil] at *; omega)
    refine M.sta0 .here (osz O rfl) ((rArr 3 (rF .f32)).oone O) rfl .here fun h3 M => M.lda0 .here (osz O rfl) ?_
    exact ⟨_, B, rfl, O, M.drop⟩
theorem eq_Float32A3_c {ca cb : Array Value} {xs : List Nat} (Ra : (rArr 3 (rF .f32)).rd h ca.toList xs) (Rb : (rArr 3 (rF .f32)).rd h cb.toList xs) : CALL prg f_laws_eqFloat32A3 #[.agg ca, .agg cb] (fun u h' => u = .bool true ∧ Ext h h') h := by
  refine laws_eqFloat32A3.call (alcR Ra fun g1 h1 x1 A => alcR ((rArr 3 (rF .f32)).ext x1 Rb) fun g2 h2 x2 B => ?_)
  have A := A.ext x2
  refine loop (fun x hh => ∃ n : Nat, x = (⟨g1, 0, none⟩, ⟨g2, 0, none⟩, (n : Int)) ∧ n ≤ 3 ∧ Ext h2 hh) (fun x => (3 - x.2.2).toNat) ⟨0, rfl, by omega, Ext.refl _⟩ ?_
  rintro x hh ⟨n, rfl, hn, X⟩
  refine brd (fun hc => ?_) fun hc => ⟨rfl, (x1.trans x2).trans X⟩
  have A1 := (A.ext X).elem (i := n) (by omega)
  have B1 := (B.ext X).elem (i := n) (by omega)
  refine idx (by omega) (by omega) (A1.oF1 fun y hy => idx (by omega) (by omega) (B1.oF1 fun z hz => ?_))
  have fin : ∀ {h'}, Ext hh h' → (∃ n_1 : Nat, ((⟨g1, 0, none⟩, ⟨g2, 0, none⟩, IntKind.i64.wrap ((n : Int) + 1)) : Addr × Addr × Int) = (⟨g1, 0, none⟩, ⟨g2, 0, none⟩, (n_1 : Int)) ∧ n_1 ≤ 3 ∧ Ext h2 h') ∧ ((3 : Int) - IntKind.i64.wrap ((n : Int) + 1)).toNat < ((3 : Int) - (n : Int)).toNat := by
    intro h' x'
    rw [wrap64_succ (by omega)]
    exact ⟨⟨n + 1, rfl, by omega, X.trans x'⟩, by omega⟩
  exact ⟨ffc_wide hy fun r1 k1 => pin_same (ffc_wide hz fun r2 k2 => pin_same (goX (sameW_c k1 k2 _) fun h' x' => as_b (br_f rfl (fin x')))),
    ffc_wide hz fun r1 k1 => pin_same (ffc_wide hy fun r2 k2 => pin_same (goX (sameW_c k2 k1 _) fun h' x' => as_b (br_f rfl (fin x'))))⟩
end
end Go.Sx
/- The laws' helpers over rings and filters: what they compute. -/
set_option linter.unusedVariables false
set_option linter.unusedSimpArgs false
namespace Go.Sx
open Go.Proofs
set_option maxRecDepth 100000

section
variable {h : Heap}
theorem eq_Ring_c {ca cb : Array Value} {x : GRing} (Ra : rRing.rd h ca.toList x) (Rb : rRing.rd h cb.toList x) : CALL prg f_laws_eqRing #[.agg ca, .agg cb] (fun u h' => u = .bool true ∧ Ext h h') h := by
  refine laws_eqRing.call (alcR Ra fun g1 h1 x1 A => alcR (rRing.ext x1 Rb) fun g2 h2 x2 B => ?_)
  have A := A.ext x2
  have X := x1.trans x2
  refine A.oL2 fun b1 l1 c1 S1 => B.oL2 fun b2 l2 c2 S2 => goX (eq_Float32S_c S1 S2) fun h' x' => as_b (br_f rfl ?_)
  have A := A.ext x'
  have B := B.ext x'
  have X := X.trans x'
  refine A.oI2 (B.oI2 (br_f (by simp) ?_))
  exact ⟨rfl, X⟩
def w_Ring (x : GRing) : Nat := w_Float32S x.Samples
theorem sz_Ring_c {cs : Array Value} {x : GRing} (R0 : rRing.rd h cs.toList x) (left : Nat) (hl : left ≤ 1048576) : CALL prg f_laws_szRing #[.agg cs, .int .i64 (left : Int)] (fun u h' => u = .int .i64 (subW left (w_Ring x)) ∧ Ext h h') h := by
  have hw : w_Ring x = w_Float32S x.Samples := rfl
  refine laws_szRing.call (alcR R0 fun g1 h1 X R => ?_)
  refine R.oL2 fun b1 l1 c1 S1 => goX (sz_Float32S_c S1 (left) (by omega)) fun h' x' => as_i (sz_bif (fun hc => ⟨by rw [subW_neg (by omega)], X.trans x'⟩) fun hc => ?_)
  rw [subW_pos hc]
  have R := R.ext x'
  have X := X.trans x'
  exact ⟨by rw [subW_pos (by omega)]; congr 2 <;> omega, X⟩
theorem to_Ring_c {cs : Array Value} {x : GRing} (R0 : rRing.rd h cs.toList x) (hw0 : w_Ring x ≤ 1048576) : CALL prg f_laws_toRing #[.agg cs] (fun u h' => NewR rRing h h' u x) h := by
  have hw : w_Ring x = w_Float32S x.Samples := rfl
  refine laws_toRing.call ((Mem.start h).alc fun g1 h1 x1 M => M.alc fun g2 h2 x2 M => M.alc fun g3 h3 x3 M => ?_)
  have P : Pt rRing h h3 ⟨g3, 0, none⟩ ⟨g3, T_impl_Ring, [], []⟩ [(g2, T_impl_Ring, ⟨Z_impl_Ring⟩), (g1, T_laws_Ring, cs)] z_Ring := Pt.new (r := rRing) zow_Ring M
  have R : RdP rRing _ ⟨g1, 0, none⟩ x := P.mem.rdp (.there .here) (rRing.ext P.ext R0)
  refine R.oL2 fun b l c S => (to_Float32S_c S (by have := S.len; omega)).mono ?_
  rintro _ h' ⟨b', c', B, rfl, O, N⟩
  refine as_l ((P.join N).stLg O fun h' P => ?_)
  have R : RdP rRing _ ⟨g1, 0, none⟩ x := P.mem.rdp (.there .here) (rRing.ext P.ext R0)
  refine R.oI2 (P.stI2 fun h' P => ?_)
  obtain ⟨c', B, M, O⟩ := P.out
  refine M.lda0 .here (osz O rfl) ?_
  have M := M.cnt (W := (g2, T_impl_Ring, ⟨Z_impl_Ring⟩) :: B) (fun p => by simp only [cnt_app, cnt_cons, cnt_nil] at *; omega)
  refine M.sta0 .here (osz O rfl) (rRing.oone O) rfl .here fun h3 M => M.lda0 .here (osz O rfl) ?_
  exact ⟨_, B, rfl, O, M.drop⟩
theorem eq_Filter_c {ca cb : Array Value} {x : GFilter} (Ra : rFilter.rd h ca.toList x) (Rb : rFilter.rd h cb.toList x) : CALL prg f_laws_eqFilter #[.agg ca, .agg cb] (fun u h' => u = .bool true ∧ Ext h h') h := by
  refine laws_eqFilter.call (alcR Ra fun g1 h1 x1 A => alcR (rFilter.ext x1 Rb) fun g2 h2 x2 B => ?_)
  have A := A.ext x2
  have X := x1.trans x2
  refine A.oI2 (B.oI2 (br_f (by simp) ?_))
  refine A.lda2 foc_Filter_C rfl fun c1 R1 => B.lda2 foc_Filter_C rfl fun c2 R2 => goX (eq_Float32A3_c R1 R2) fun h' x' => as_b (br_f rfl ?_)
  have A := A.ext x'
  have B := B.ext x'
  have X := X.trans x'
  refine A.lda2 foc_Filter_S rfl fun c1 R1 => B.lda2 foc_Filter_S rfl fun c2 R2 => goX (eq_Float32A2_c R1 R2) fun h' x' => as_b (br_f rfl ?_)
  have A := A.ext x'
  have B := B.ext x'
  have X := X.trans x'
  exact ⟨rfl, X⟩
theorem to_Filter_c {cs : Array Value} {x : GFilter} (R0 : rFilter.rd h cs.toList x) : CALL prg f_laws_toFilter #[.agg cs] (fun u h' => NewR rFilter h h' u x) h := by
  refine laws_toFilter.call ((Mem.start h).alc fun g1 h1 x1 M => M.alc fun g2 h2 x2 M => M.alc fun g3 h3 x3 M => ?_)
  have P : Pt rFilter h h3 ⟨g3, 0, none⟩ ⟨g3, T_impl_Filter, [], []⟩ [(g2, T_impl_Filter, ⟨Z_impl_Filter⟩), (g1, T_laws_Filter, cs)] z_Filter := Pt.new (r := rFilter) zow_Filter M
  have R : RdP rFilter _ ⟨g1, 0, none⟩ x := P.mem.rdp (.there .here) (rFilter.ext P.ext R0)
  refine R.oI2 (P.stI2 fun h' P => ?_)
  have R : RdP rFilter _ ⟨g1, 0, none⟩ x := P.mem.rdp (.there .here) (rFilter.ext P.ext R0)
  refine R.lda2 foc_Filter_C rfl fun c1 R1 => NewR.pt P (to_Float32A3_c R1) fun h' c2 B P O ho => as_a (P.stsg foc_Filter_C rfl O fun h' P => ?_)
  have R : RdP rFilter _ ⟨g1, 0, none⟩ x := P.mem.rdp (.there .here) (rFilter.ext P.ext R0)
  refine R.lda2 foc_Filter_S rfl fun c1 R1 => NewR.pt P (to_Float32A2_c R1) fun h' c2 B P O ho => as_a (P.stsg foc_Filter_S rfl O fun h' P => ?_)
  obtain ⟨c', B, M, O⟩ := P.out
  refine M.lda0 .here (osz O rfl) ?_
  have M := M.cnt (W := (g2, T_impl_Filter, ⟨Z_impl_Filter⟩) :: B) (fun p => by simp only [cnt_app, cnt_cons, cnt_nil] at *; omega)
  refine M.sta0 .here (osz O rfl) (rFilter.oone O) rfl .here fun h3 M => M.lda0 .here (osz O rfl) ?_
  exact ⟨_, B, rfl, O, M.drop⟩
end
end Go.Sx
/- What functions of this seat's program compute, told in words (a predicate over heaps for each), and the proofs that the words are no more than the code's own weakest precondition. -/
namespace Go.Sx
open Go.Proofs
set_option linter.unusedVariables false
set_option maxRecDepth 100000

def laws_szRingS.B5 (Post : Value → Heap → Prop) (N5 : (Option Addr × Nat × Nat × Int × Int) → Heap → Prop) : Option Addr × Nat × Nat × Int × Int → Heap → Prop
  | (a_0b, a_0l, a_0c, left_1, i_5), h =>
    BIF ((decide (i_5 < (a_0l : Int)))) (
    IDXS a_0b i_5 a_0l fun p5 =>
    LDA 2 h ((Addr.add p5 ((Int.toNat i_5) * 2))) fun a6 =>
    CALL prg f_laws_szRing #[.agg a6, .int .i64 left_1] (fun q7 h8 =>
    asI .i64 q7 fun n9 =>
    BIF ((decide (n9 < (0 : Int)))) (
    Post (.int .i64 (-1 : Int)) h8) (
    N5 (a_0b, a_0l, a_0c, n9, ((IntKind.i64.wrap (i_5 + (1 : Int))))) h8)) h) (
    Post (.int .i64 left_1) h)
def laws_szRingS.g5 (fr : Frame) : Option Addr × Nat × Nat × Int × Int := ((gLb (lget fr 0)), (gLl (lget fr 0)), (gLc (lget fr 0)), (gI (lget fr 1)), (gI (lget fr 5)))
def laws_szRingS.l5 (Post : Value → Heap → Prop) : Frame → Heap → Prop := fun fr h => GRD (shape (kds 27 [(0, .l), (1, .i .i64), (5, .i .i64)]) fr) (LOOP (laws_szRingS.B5 Post) (laws_szRingS.g5 fr) h)
def laws_szRingS.S (a_0b : Option Addr) (a_0l a_0c : Nat) (left_1 : Int) (Post : Value → Heap → Prop) (h : Heap) : Prop :=
    BIF ((decide ((IntKind.i64.wrap (left_1 - (a_0l : Int))) < (0 : Int)))) (
    Post (.int .i64 (-1 : Int)) h) (
    LOOP (laws_szRingS.B5 Post) (a_0b, a_0l, a_0c, ((IntKind.i64.wrap (left_1 - (a_0l : Int)))), (0 : Int)) h)
noncomputable def laws_szRingS.code : Code := (Tryz.f203.body).getD .skip
theorem laws_szRingS.call {a_0b : Option Addr} {a_0l a_0c : Nat} {left_1 : Int} {Post : Value → Heap → Prop} {h : Heap} (H : laws_szRingS.S a_0b a_0l a_0c left_1 Post h) : CALL prg f_laws_szRingS #[.slice a_0b a_0l a_0c, .int .i64 left_1] Post h :=
  fn_call tau_ok mixed (c := laws_szRingS.code) (Λ := lookL [(1000005, laws_szRingS.l5 Post)]) Tryz.func203 (by kernel_rfl) (by kernel_rfl)
    (Rq.seq (by kernel_rfl) (Rq.free (by kernel_rfl)) (Rq.seq (by kernel_rfl) (Rq.free (by kernel_rfl)) (Rq.seq (by kernel_rfl) (Rq.free (by kernel_rfl)) (Rq.seq (by kernel_rfl) (Rq.seq (by kernel_rfl) (Rq.free (by kernel_rfl)) (Rq.block (Rq.loop (laws_szRingS.l5 Post) (by kernel_rfl) (segL (g := laws_szRingS.g5) tau_ok mixed (Λ := fun N5 => lookL []) (fun _ _ _ => by kernel_rfl) (fun N5 => (Rq.free (by kernel_rfl))))))) (Rq.free (by kernel_rfl))))))
    (Eq.mp (by kernel_rfl) H)

def laws_toRingS.B3 (Post : Value → Heap → Prop) (N3 : (Option Addr × Nat × Nat × Option Addr × Nat × Nat × Int) → Heap → Prop) : Option Addr × Nat × Nat × Option Addr × Nat × Nat × Int → Heap → Prop
  | (a_0b, a_0l, a_0c, out_3b, out_3l, out_3c, i_4), h =>
    BIF ((decide (i_4 < (a_0l : Int)))) (
    IDXS a_0b i_4 a_0l fun p7 =>
    LDA 2 h ((Addr.add p7 ((Int.toNat i_4) * 2))) fun a8 =>
    CALL prg f_laws_toRing #[.agg a8] (fun q9 h10 =>
    asA q9 fun a11 =>
    IDXS out_3b i_4 out_3l fun p12 =>
    STA 2 h10 ((Addr.add p12 ((Int.toNat i_4) * 2))) a11 fun h13 =>
    N3 (a_0b, a_0l, a_0c, out_3b, out_3l, out_3c, ((IntKind.i64.wrap (i_4 + (1 : Int))))) h13) h) (
    Post (.slice out_3b out_3l out_3c) h)
def laws_toRingS.g3 (fr : Frame) : Option Addr × Nat × Nat × Option Addr × Nat × Nat × Int := ((gLb (lget fr 0)), (gLl (lget fr 0)), (gLc (lget fr 0)), (gLb (lget fr 3)), (gLl (lget fr 3)), (gLc (lget fr 3)), (gI (lget fr 4)))
def laws_toRingS.l3 (Post : Value → Heap → Prop) : Frame → Heap → Prop := fun fr h => GRD (shape (kds 23 [(0, .l), (3, .l), (4, .i .i64)]) fr) (LOOP (laws_toRingS.B3 Post) (laws_toRingS.g3 fr) h)
def laws_toRingS.S (a_0b : Option Addr) (a_0l a_0c : Nat) (Post : Value → Heap → Prop) (h : Heap) : Prop :=
    MKS ti_impl_Ring T_impl_Ring (a_0l : Int) (a_0l : Int) (fun g3 h4 =>
    LOOP (laws_toRingS.B3 Post) (a_0b, a_0l, a_0c, (some ⟨g3, 0, none⟩), a_0l, a_0l, (0 : Int)) h4) h
noncomputable def laws_toRingS.code : Code := (Tryz.f215.body).getD .skip
theorem laws_toRingS.call {a_0b : Option Addr} {a_0l a_0c : Nat} {Post : Value → Heap → Prop} {h : Heap} (H : laws_toRingS.S a_0b a_0l a_0c Post h) : CALL prg f_laws_toRingS #[.slice a_0b a_0l a_0c] Post h :=
  fn_call tau_ok mixed (c := laws_toRingS.code) (Λ := lookL [(1000003, laws_toRingS.l3 Post)]) Tryz.func215 (by kernel_rfl) (by kernel_rfl)
    (Rq.seq (by kernel_rfl) (Rq.free (by kernel_rfl)) (Rq.seq (by kernel_rfl) (Rq.free (by kernel_rfl)) (Rq.seq (by kernel_rfl) (Rq.seq (by kernel_rfl) (Rq.free (by kernel_rfl)) (Rq.block (Rq.loop (laws_toRingS.l3 Post) (by kernel_rfl) (segL (g := laws_toRingS.g3) tau_ok mixed (Λ := fun N3 => lookL []) (fun _ _ _ => by kernel_rfl) (fun N3 => (Rq.free (by kernel_rfl))))))) (Rq.free (by kernel_rfl)))))
    (Eq.mp (by kernel_rfl) H)

def laws_eqRingS.B4 (Post : Value → Heap → Prop) (N4 : (Option Addr × Nat × Nat × Option Addr × Nat × Nat × Int) → Heap → Prop) : Option Addr × Nat × Nat × Option Addr × Nat × Nat × Int → Heap → Prop
  | (a_0b, a_0l, a_0c, b_1b, b_1l, b_1c, i_5), h =>
    BIF ((decide (i_5 < (a_0l : Int)))) (
    IDXS a_0b i_5 a_0l fun p7 =>
    LDA 2 h ((Addr.add p7 ((Int.toNat i_5) * 2))) fun a8 =>
    IDXS b_1b i_5 b_1l fun p9 =>
    LDA 2 h ((Addr.add p9 ((Int.toNat i_5) * 2))) fun a10 =>
    CALL prg f_laws_eqRing #[.agg a8, .agg a10] (fun q11 h12 =>
    asB q11 fun b13 =>
    BIF (!b13) (
    Post (.bool false) h12) (
    N4 (a_0b, a_0l, a_0c, b_1b, b_1l, b_1c, ((IntKind.i64.wrap (i_5 + (1 : Int))))) h12)) h) (
    Post (.bool true) h)
def laws_eqRingS.g4 (fr : Frame) : Option Addr × Nat × Nat × Option Addr × Nat × Nat × Int := ((gLb (lget fr 0)), (gLl (lget fr 0)), (gLc (lget fr 0)), (gLb (lget fr 1)), (gLl (lget fr 1)), (gLc (lget fr 1)), (gI (lget fr 5)))
def laws_eqRingS.l4 (Post : Value → Heap → Prop) : Frame → Heap → Prop := fun fr h => GRD (shape (kds 27 [(0, .l), (1, .l), (5, .i .i64)]) fr) (LOOP (laws_eqRingS.B4 Post) (laws_eqRingS.g4 fr) h)
def laws_eqRingS.S (a_0b : Option Addr) (a_0l a_0c : Nat) (b_1b : Option Addr) (b_1l b_1c : Nat) (Post : Value → Heap → Prop) (h : Heap) : Prop :=
    BIF ((a_0l : Int) != (b_1l : Int)) (
    Post (.bool false) h) (
    LOOP (laws_eqRingS.B4 Post) (a_0b, a_0l, a_0c, b_1b, b_1l, b_1c, (0 : Int)) h)
noncomputable def laws_eqRingS.code : Code := (Tryz.f236.body).getD .skip
theorem laws_eqRingS.call {a_0b : Option Addr} {a_0l a_0c : Nat} {b_1b : Option Addr} {b_1l b_1c : Nat} {Post : Value → Heap → Prop} {h : Heap} (H : laws_eqRingS.S a_0b a_0l a_0c b_1b b_1l b_1c Post h) : CALL prg f_laws_eqRingS #[.slice a_0b a_0l a_0c, .slice b_1b b_1l b_1c] Post h :=
  fn_call tau_ok mixed (c := laws_eqRingS.code) (Λ := lookL [(1000004, laws_eqRingS.l4 Post)]) Tryz.func236 (by kernel_rfl) (by kernel_rfl)
    (Rq.seq (by kernel_rfl) (Rq.free (by kernel_rfl)) (Rq.seq (by kernel_rfl) (Rq.free (by kernel_rfl)) (Rq.seq (by kernel_rfl) (Rq.seq (by kernel_rfl) (Rq.free (by kernel_rfl)) (Rq.block (Rq.loop (laws_eqRingS.l4 Post) (by kernel_rfl) (segL (g := laws_eqRingS.g4) tau_ok mixed (Λ := fun N4 => lookL []) (fun _ _ _ => by kernel_rfl) (fun N4 => (Rq.free (by kernel_rfl))))))) (Rq.free (by kernel_rfl)))))
    (Eq.mp (by kernel_rfl) H)

def laws_szPipe.S (a_0 : Array Value) (left_1 : Int) (Post : Value → Heap → Prop) (h : Heap) : Prop :=
    ALC a_0 T_laws_Pipe (fun g1 h2 =>
    oL (cell h2 ⟨g1, 0, none⟩) fun l3b l3l l3c =>
    CALL prg f_laws_szRingS #[.slice l3b l3l l3c, .int .i64 left_1] (fun q4 h5 =>
    asI .i64 q4 fun n6 =>
    BIF ((decide (n6 < (0 : Int)))) (
    Post (.int .i64 (-1 : Int)) h5) (
    oL (cell h5 ⟨g1, 1, none⟩) fun l7b l7l l7c =>
    CALL prg f_laws_szRingS #[.slice l7b l7l l7c, .int .i64 n6] (fun q8 h9 =>
    asI .i64 q8 fun n10 =>
    BIF ((decide (n10 < (0 : Int)))) (
    Post (.int .i64 (-1 : Int)) h9) (
    oL (cell h9 ⟨g1, 2, none⟩) fun l11b l11l l11c =>
    CALL prg f_laws_szFloat32S #[.slice l11b l11l l11c, .int .i64 n10] (fun q12 h13 =>
    asI .i64 q12 fun n14 =>
    BIF ((decide (n14 < (0 : Int)))) (
    Post (.int .i64 (-1 : Int)) h13) (
    Post (.int .i64 n14) h13)) h9)) h5)) h2) h
noncomputable def laws_szPipe.code : Code := (Tryz.f130.body).getD .skip
theorem laws_szPipe.call {a_0 : Array Value} {left_1 : Int} {Post : Value → Heap → Prop} {h : Heap} (H : laws_szPipe.S a_0 left_1 Post h) : CALL prg f_laws_szPipe #[.agg a_0, .int .i64 left_1] Post h :=
  fn_call tau_ok mixed (c := laws_szPipe.code) (Λ := lookL []) Tryz.func130 (by kernel_rfl) (by kernel_rfl)
    (Rq.free (by kernel_rfl))
    (Eq.mp (by kernel_rfl) H)

def laws_toPipe.S (a_0 : Array Value) (Post : Value → Heap → Prop) (h : Heap) : Prop :=
    ALC a_0 T_laws_Pipe (fun g1 h2 =>
    ALC ⟨Z_impl_Pipe⟩ T_impl_Pipe (fun g3 h4 =>
    ALC ⟨Z_impl_Pipe⟩ T_impl_Pipe (fun g5 h6 =>
    oL (cell h6 ⟨g1, 0, none⟩) fun l7b l7l l7c =>
    CALL prg f_laws_toRingS #[.slice l7b l7l l7c] (fun q8 h9 =>
    asL q8 fun l10b l10l l10c =>
    ST1 h9 ⟨g5, 0, none⟩ (.slice l10b l10l l10c) fun h11 =>
    oL (cell h11 ⟨g1, 1, none⟩) fun l12b l12l l12c =>
    CALL prg f_laws_toRingS #[.slice l12b l12l l12c] (fun q13 h14 =>
    asL q13 fun l15b l15l l15c =>
    ST1 h14 ⟨g5, 1, none⟩ (.slice l15b l15l l15c) fun h16 =>
    oL (cell h16 ⟨g1, 2, none⟩) fun l17b l17l l17c =>
    CALL prg f_laws_toFloat32S #[.slice l17b l17l l17c] (fun q18 h19 =>
    asL q18 fun l20b l20l l20c =>
    ST1 h19 ⟨g5, 2, none⟩ (.slice l20b l20l l20c) fun h21 =>
    LDA 6 h21 ⟨g1, 3, none⟩ fun a22 =>
    CALL prg f_laws_toFilter #[.agg a22] (fun q23 h24 =>
    asA q23 fun a25 =>
    STA 6 h24 ⟨g5, 3, none⟩ a25 fun h26 =>
    oB (cell h26 ⟨g1, 9, none⟩) fun b27 =>
    ST1 h26 ⟨g5, 9, none⟩ (.bool b27) fun h28 =>
    oF .f32 (cell h28 ⟨g1, 10, none⟩) fun r29 =>
    ST1 h28 ⟨g5, 10, none⟩ (.float .f32 r29) fun h30 =>
    oF .f32 (cell h30 ⟨g1, 11, none⟩) fun r31 =>
    ST1 h30 ⟨g5, 11, none⟩ (.float .f32 r31) fun h32 =>
    oF .f32 (cell h32 ⟨g1, 12, none⟩) fun r33 =>
    ST1 h32 ⟨g5, 12, none⟩ (.float .f32 r33) fun h34 =>
    LDA 13 h34 ⟨g5, 0, none⟩ fun a35 =>
    STA 13 h34 ⟨g3, 0, none⟩ a35 fun h36 =>
    LDA 13 h36 ⟨g3, 0, none⟩ fun a37 =>
    Post (.agg a37) h36) h21) h16) h11) h6) h4) h2) h
noncomputable def laws_toPipe.code : Code := (Tryz.f146.body).getD .skip
theorem laws_toPipe.call {a_0 : Array Value} {Post : Value → Heap → Prop} {h : Heap} (H : laws_toPipe.S a_0 Post h) : CALL prg f_laws_toPipe #[.agg a_0] Post h :=
  fn_call tau_ok mixed (c := laws_toPipe.code) (Λ := lookL []) Tryz.func146 (by kernel_rfl) (by kernel_rfl)
    (Rq.free (by kernel_rfl))
    (Eq.mp (by kernel_rfl) H)

def laws_eqPipe.S (a_0 : Array Value) (b_1 : Array Value) (Post : Value → Heap → Prop) (h : Heap) : Prop :=
    ALC a_0 T_impl_Pipe (fun g1 h2 =>
    ALC b_1 T_impl_Pipe (fun g3 h4 =>
    oL (cell h4 ⟨g1, 0, none⟩) fun l5b l5l l5c =>
    oL (cell h4 ⟨g3, 0, none⟩) fun l6b l6l l6c =>
    CALL prg f_laws_eqRingS #[.slice l5b l5l l5c, .slice l6b l6l l6c] (fun q7 h8 =>
    asB q7 fun b9 =>
    BIF (!b9) (
    Post (.bool false) h8) (
    oL (cell h8 ⟨g1, 1, none⟩) fun l10b l10l l10c =>
    oL (cell h8 ⟨g3, 1, none⟩) fun l11b l11l l11c =>
    CALL prg f_laws_eqRingS #[.slice l10b l10l l10c, .slice l11b l11l l11c] (fun q12 h13 =>
    asB q12 fun b14 =>
    BIF (!b14) (
    Post (.bool false) h13) (
    oL (cell h13 ⟨g1, 2, none⟩) fun l15b l15l l15c =>
    oL (cell h13 ⟨g3, 2, none⟩) fun l16b l16l l16c =>
    CALL prg f_laws_eqFloat32S #[.slice l15b l15l l15c, .slice l16b l16l l16c] (fun q17 h18 =>
    asB q17 fun b19 =>
    BIF (!b19) (
    Post (.bool false) h18) (
    LDA 6 h18 ⟨g1, 3, none⟩ fun a20 =>
    LDA 6 h18 ⟨g3, 3, none⟩ fun a21 =>
    CALL prg f_laws_eqFilter #[.agg a20, .agg a21] (fun q22 h23 =>
    asB q22 fun b24 =>
    BIF (!b24) (
    Post (.bool false) h23) (
    oB (cell h23 ⟨g1, 9, none⟩) fun b25 =>
    oB (cell h23 ⟨g3, 9, none⟩) fun b26 =>
    BIF (!(b25 == b26)) (
    Post (.bool false) h23) (
    oF .f32 (cell h23 ⟨g1, 10, none⟩) fun r27 =>
    FFC .f32 r27 .f64 fun r28 =>
    oF .f32 (cell h23 ⟨g3, 10, none⟩) fun r29 =>
    FFC .f32 r29 .f64 fun r30 =>
    CALL prg f_laws_sameFloat #[.float .f64 r28, .float .f64 r30] (fun q31 h32 =>
    asB q31 fun b33 =>
    BIF (!b33) (
    Post (.bool false) h32) (
    oF .f32 (cell h32 ⟨g1, 11, none⟩) fun r34 =>
    FFC .f32 r34 .f64 fun r35 =>
    oF .f32 (cell h32 ⟨g3, 11, none⟩) fun r36 =>
    FFC .f32 r36 .f64 fun r37 =>
    CALL prg f_laws_sameFloat #[.float .f64 r35, .float .f64 r37] (fun q38 h39 =>
    asB q38 fun b40 =>
    BIF (!b40) (
    Post (.bool false) h39) (
    oF .f32 (cell h39 ⟨g1, 12, none⟩) fun r41 =>
    FFC .f32 r41 .f64 fun r42 =>
    oF .f32 (cell h39 ⟨g3, 12, none⟩) fun r43 =>
    FFC .f32 r43 .f64 fun r44 =>
    CALL prg f_laws_sameFloat #[.float .f64 r42, .float .f64 r44] (fun q45 h46 =>
    asB q45 fun b47 =>
    BIF (!b47) (
    Post (.bool false) h46) (
    Post (.bool true) h46)) h39)) h32)) h23))) h18)) h13)) h8)) h4) h2) h
noncomputable def laws_eqPipe.code : Code := (Tryz.f166.body).getD .skip
theorem laws_eqPipe.call {a_0 : Array Value} {b_1 : Array Value} {Post : Value → Heap → Prop} {h : Heap} (H : laws_eqPipe.S a_0 b_1 Post h) : CALL prg f_laws_eqPipe #[.agg a_0, .agg b_1] Post h :=
  fn_call tau_ok mixed (c := laws_eqPipe.code) (Λ := lookL []) Tryz.func166 (by kernel_rfl) (by kernel_rfl)
    (Rq.free (by kernel_rfl))
    (Eq.mp (by kernel_rfl) H)

end Go.Sx
