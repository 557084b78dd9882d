/- The laws' helpers over floats: what they compute. -/
import Derived.Test.YthhepeklpgefkaaGreatDoorLk3
import Derived.Test.YthhepeklpgefkaaGreatDoorH1
set_option linter.unusedVariables false
set_option linter.unusedSimpArgs false
namespace Go.Sx
open Go.Proofs
set_option maxRecDepth 100000

def w_Float32S (xs : List Nat) : Nat := xs.length
def subW (left w : Nat) : Int := if left < w then -1 else ((left - w : Nat) : Int)
theorem sz_bif {left w : Nat} {p q : Prop} (ht : left < w → p) (hf : w ≤ left → q) : BIF (decide (subW left w < 0)) p q := by
  refine brd (fun h => ht ?_) fun h => hf ?_
  · unfold subW at h; split at h <;> omega
  · unfold subW at h; split at h <;> omega
theorem subW_neg {left w : Nat} (h : left < w) : subW left w = -1 := by unfold subW; rw [if_pos h]
theorem subW_pos {left w : Nat} (h : w ≤ left) : subW left w = ((left - w : Nat) : Int) := by unfold subW; rw [if_neg (by omega)]
theorem isF_gtz {o : Option Nat} {r1 r2 : Nat} (h1 : IsF .f64 o r1) (h2 : IsF .f64 o r2) : (FloatKind.f64.format.order r1 0 == some .gt) = (FloatKind.f64.format.order r2 0 == some .gt) := by
  cases o with
  | some v => rw [show r1 = v from h1, show r2 = v from h2]
  | none => rw [order_nan_left (nan_of_isNaNW (k := .f64) h1), order_nan_left (nan_of_isNaNW (k := .f64) h2)]
theorem sameFloat_c {a b : Nat} (hab : cn .f64 a = cn .f64 b) : Ret prg f_laws_sameFloat #[.float .f64 a, .float .f64 b] (.bool true) := fun h => by
  obtain ⟨hn, he⟩ := canon_eq_iff hab
  refine laws_sameFloat.call ?_
  unfold laws_sameFloat.S
  simp only [ne_self]
  cases hna : nan .f64 a with
  | true => exact br_t rfl (br_t rfl ⟨by rw [← hn, hna], Ext.refl _⟩)
  | false =>
    obtain rfl := he hna
    refine br_f rfl (br_f hna ?_)
    unfold laws_sameFloat.J3
    have hoo : FloatKind.f64.format.order a a = some .eq := by rw [order_self, hna]; rfl
    refine br (fun hz => ?_) fun hz => ?_
    · unfold laws_sameFloat.J4
      rw [hz]
      exact br_t rfl fun r1 h1 r2 h2 => ⟨by rw [isF_gtz h1 h2]; simp, Ext.refl _⟩
    · unfold laws_sameFloat.J4
      exact br_f rfl ⟨by rw [hoo]; rfl, Ext.refl _⟩
theorem sameW_c {a b c : Nat} (ha : FW .f64 a (wid c)) (hb : FW .f64 b (wid c)) : Ret prg f_laws_sameFloat #[.float .f64 a, .float .f64 b] (.bool true) := sameFloat_c (by rw [ha.1, hb.1])
section
variable {h : Heap}
theorem sz_Float32S_c {b : Option Addr} {l c : Nat} {xs : List Nat} (S : SlR (rF .f32) h b l c xs) (left : Nat) (hl : left ≤ 1048576) : CALL prg f_laws_szFloat32S #[.slice b l c, .int .i64 (left : Int)] (fun u h' => u = .int .i64 (subW left (w_Float32S xs)) ∧ Ext h h') h := by
  have h1 : w_Float32S xs = l := S.len
  have h2 := S.2.1
  have h3 := S.2.2.1
  have := maxLen_lt
  refine laws_szFloat32S.call ?_
  unfold laws_szFloat32S.S
  rw [wrap64 (n := (left : Int) - (l : Int)) (by omega) (by omega), h1]
  refine brd (fun hc => ⟨by rw [subW_neg (by omega)], Ext.refl _⟩) fun hc => ⟨by rw [subW_pos (by omega)]; congr 1; omega, Ext.refl _⟩
theorem to_Float32S_c {b : Option Addr} {l c : Nat} {xs : List Nat} (S : SlR (rF .f32) h b l c xs) (hl0 : w_Float32S xs ≤ 1048576) : CALL prg f_laws_toFloat32S #[.slice b l c] (fun u h' => ∃ b' c' B, u = .slice b' l c' ∧ SlO T_float32 (rF .f32) B b' l c' xs ∧ Mem h h' B) h := by
  have hxl := S.len
  have hl : l ≤ 1048576 := by unfold w_Float32S at hl0; omega
  refine laws_toFloat32S.call (make_floats (Mem.start h) hl fun g h1 x1 M0 O0 => ?_)
  refine loop (fun x hh => ∃ (n : Nat) (B : List Blk), x = (b, l, c, some ⟨g, 0, none⟩, l, l, (n : Int)) ∧ n ≤ l ∧ SlO T_float32 (rF .f32) B (some ⟨g, 0, none⟩) l l (xs.take n ++ List.replicate (l - n) 0) ∧ Mem h hh (B ++ [])) (fun x => (l - x.2.2.2.2.2.2).toNat) ⟨0, _, rfl, by omega, O0, M0⟩ ?_
  rintro x hh ⟨n, B, rfl, hn, O, M⟩
  refine brd (fun hc => ?_) fun hc => ?_
  · refine (S.ext M.ext).idx (by decide) (by omega) (by omega) fun a Ra => Ra.oF1 fun y hy => ?_
    obtain ⟨a0, F', L', e, P, hs, close⟩ := O.elem M (i := n) (by omega)
    cases e
    refine idxs (by omega) (by omega) (P.stF1 hy fun h' P' => ?_)
    obtain ⟨B', O', M'⟩ := close _ _ _ P'
    rw [wrap64_succ (by omega)]
    refine ⟨⟨n + 1, B', rfl, by omega, ?_, M'⟩, by show _ < _; simp; omega⟩
    have e : (xs.take n ++ List.replicate (l - n) 0).set n xs[n]! = xs.take (n + 1) ++ List.replicate (l - (n + 1)) 0 := by rw [getElem!_pos xs n (by omega)]; exact copy_step hxl (by omega)
    rw [Int.toNat_natCast, e] at O'
    exact O'
  · obtain rfl : n = l := by omega
    rw [show xs.take n ++ List.replicate (n - n) 0 = xs by rw [← hxl]; simp] at O
    rw [List.append_nil] at M
    exact ⟨_, _, B, rfl, O, M⟩
theorem eq_Float32S_c {b1 b2 : Option Addr} {l1 c1 l2 c2 : Nat} {xs : List Nat} (S1 : SlR (rF .f32) h b1 l1 c1 xs) (S2 : SlR (rF .f32) h b2 l2 c2 xs) : CALL prg f_laws_eqFloat32S #[.slice b1 l1 c1, .slice b2 l2 c2] (fun u h' => u = .bool true ∧ Ext h h') h := by
  have e1 := S1.len
  have e2 := S2.len
  have h2 := S1.2.1
  have h3 := S1.2.2.1
  have := maxLen_lt
  obtain rfl : l1 = l2 := by omega
  refine laws_eqFloat32S.call (br_f (by simp) ?_)
  refine loop (fun x hh => ∃ n : Nat, x = (b1, l1, c1, b2, l1, c2, (n : Int)) ∧ n ≤ l1 ∧ Ext h hh) (fun x => (l1 - x.2.2.2.2.2.2).toNat) ⟨0, rfl, by omega, Ext.refl _⟩ ?_
  rintro x hh ⟨n, rfl, hn, X⟩
  refine brd (fun hc => ?_) fun hc => ⟨rfl, X⟩
  refine (S1.ext X).idx (by decide) (by omega) (by omega) fun a Ra => Ra.oF1 fun y hy => (S2.ext X).idx (by decide) (by omega) (by omega) fun a' Rb => Rb.oF1 fun z hz => ?_
  have fin : ∀ {h'}, Ext hh h' → (∃ n_1 : Nat, ((b1, l1, c1, b2, l1, c2, IntKind.i64.wrap ((n : Int) + 1)) : Option Addr × Nat × Nat × Option Addr × Nat × Nat × Int) = (b1, l1, c1, b2, l1, c2, (n_1 : Int)) ∧ n_1 ≤ l1 ∧ Ext h h') ∧ ((l1 : Int) - IntKind.i64.wrap ((n : Int) + 1)).toNat < ((l1 : Int) - (n : Int)).toNat := by
    intro h' x'
    rw [wrap64_succ (by omega)]
    exact ⟨⟨n + 1, rfl, by omega, X.trans x'⟩, by omega⟩
  exact ⟨ffc_wide hy fun r1 k1 => pin_same (ffc_wide hz fun r2 k2 => pin_same (goX (sameW_c k1 k2 _) fun h' x' => as_b (br_f rfl (fin x')))),
    ffc_wide hz fun r1 k1 => pin_same (ffc_wide hy fun r2 k2 => pin_same (goX (sameW_c k2 k1 _) fun h' x' => as_b (br_f rfl (fin x'))))⟩
def mk_Float32S (xs : List Nat) (k : Nat) : List Nat := (List.range xs.length).map fun i => FloatKind.f32.nearest ((k + i : Nat) : Int)
def n_Float32S (xs : List Nat) : Nat := xs.length
theorem mark_Float32S_c {h0 : Heap} {B L : List Blk} {b : Option Addr} {l c : Nat} {xs : List Nat} (O : SlO T_float32 (rF .f32) B b l c xs) (M : Mem h0 h (B ++ L)) (k : Nat) (hl : w_Float32S xs ≤ 1048576) (hk : k + n_Float32S xs ≤ 1073741824) :
    CALL prg f_laws_markFloat32S #[.slice b l c, .int .i64 (k : Int)] (fun u h' => u = .int .i64 ((k + n_Float32S xs : Nat) : Int) ∧ ∃ B', SlO T_float32 (rF .f32) B' b l c (mk_Float32S xs k) ∧ Mem h0 h' (B' ++ L)) h := by
  have h1 := O.len
  unfold w_Float32S at hl
  unfold n_Float32S at hk
  refine laws_markFloat32S.call ?_
  refine loop (fun x hh => ∃ (n : Nat) (B : List Blk) (ys : List Nat), x = (b, l, c, ((k + n : Nat) : Int), (n : Int)) ∧ n ≤ l ∧ SlO T_float32 (rF .f32) B b l c ys ∧ Mem h0 hh (B ++ L) ∧ ∀ i, i < n → ys[i]! = FloatKind.f32.nearest ((k + i : Nat) : Int)) (fun x => (l - x.2.2.2.2).toNat) ⟨0, B, xs, rfl, by omega, O, M, fun i hi => by omega⟩ ?_
  rintro x hh ⟨n, B, ys, rfl, hn, O, M, hy⟩
  have h2 := O.len
  refine brd (fun hc => ?_) fun hc => ?_
  · obtain ⟨a0, F', L', rfl, P, hs, close⟩ := O.elem M (i := n) (by omega)
    refine idxs (by omega) (by omega) (P.stF1 (fw_nearest _ _) fun h' P' => ?_)
    obtain ⟨B', O', M'⟩ := close _ _ _ P'
    rw [wrap64_succ (by omega), wrap64_succ (by omega)]
    refine ⟨⟨n + 1, B', _, rfl, by omega, O', M', fun i hi => ?_⟩, by show _ < _; simp; omega⟩
    by_cases e : i = n
    · subst e; rw [getElem!_pos _ i (by simpa using by omega), List.getElem_set_self]
    · have := hy i (by omega)
      rw [getElem!_pos _ i (by omega)] at this
      rw [getElem!_pos _ i (by simpa using by omega), List.getElem_set_ne (by omega)]
      exact this
  · obtain rfl : n = l := by omega
    refine ⟨by rw [n_Float32S, h1], B, ?_, M⟩
    have : ys = mk_Float32S xs k := by
      apply List.ext_getElem
      · simp [mk_Float32S]; omega
      · intro i hi hi2
        have := hy i (by omega)
        rw [getElem!_pos _ i hi] at this
        rw [this]; simp [mk_Float32S]
    rw [← this]; exact O
theorem zow_Float32A2 : (rArr 2 (rF .f32)).ow [] (List.replicate 2 (.float .f32 0)) (List.replicate 2 0) := ⟨by simp, zeros_fl _⟩
theorem to_Float32A2_c {cs : Array Value} {xs : List Nat} (R0 : (rArr 2 (rF .f32)).rd h cs.toList xs) : CALL prg f_laws_toFloat32A2 #[.agg cs] (fun u h' => NewR (rArr 2 (rF .f32)) h h' u xs) h := by
  refine laws_toFloat32A2.call ((Mem.start h).alc fun g1 h1 x1 M => M.alc fun g2 h2 x2 M => M.alc fun g3 h3 x3 M => ?_)
  have R : RdP (rArr 2 (rF .f32)) h3 ⟨g1, 0, none⟩ xs := M.rdp (.there (.there .here)) ((rArr 2 (rF .f32)).ext M.ext R0)
  have hl : xs.length = 2 := R0.1
  refine loop (fun x hh => ∃ n : Nat, x = (⟨g1, 0, none⟩, ⟨g2, 0, none⟩, ⟨g3, 0, none⟩, (n : Int)) ∧ n ≤ 2 ∧ Pt (rArr 2 (rF .f32)) h hh ⟨g3, 0, none⟩ ⟨g3, T_2_float32, [], []⟩ [(g2, T_2_float32, ⟨Z_2_float32⟩), (g1, T_2_float32, cs)] (xs.take n ++ List.replicate (2 - n) 0)) (fun x => (2 - x.2.2.2).toNat) ⟨0, rfl, by omega, Pt.new (r := rArr 2 (rF .f32)) zow_Float32A2 M⟩ ?_
  rintro x hh ⟨n, rfl, hn, P⟩
  refine brd (fun hc => ?_) fun hc => ?_
  · have R : RdP (rArr 2 (rF .f32)) hh ⟨g1, 0, none⟩ xs := P.mem.rdp (.there .here) ((rArr 2 (rF .f32)).ext P.ext R0)
    refine idx (by omega) (by omega) ((R.elem (i := n) (by omega)).oF1 fun y hy => idx (by omega) (by omega) ?_)
    refine Pt.st (B' := []) (v := .float .f32 y) (b := xs[n]!) P (Foc.arr (rF .f32) n (by omega)) rfl ⟨rfl, y, rfl, hy⟩ fun h' P' => ?_
    rw [wrap64_succ (by omega)]
    refine ⟨⟨n + 1, rfl, by omega, ?_⟩, by show _ < _; simp; omega⟩
    have e : (xs.take n ++ List.replicate (2 - n) 0).set n xs[n]! = xs.take (n + 1) ++ List.replicate (2 - (n + 1)) 0 := by rw [getElem!_pos xs n (by omega)]; exact copy_step hl (by omega)
    rw [e] at P'
    exact P'
  · obtain rfl : n = 2 := by omega
    rw [show xs.take 2 ++ List.replicate (2 - 2) 0 = xs by rw [← hl]; simp] at P
    obtain ⟨cs', B, M, O⟩ := P.out
    refine M.lda0 .here (osz O rfl) ?_
    have M := M.cnt (W := (g2, T_2_float32, ⟨Z_2_float32⟩) :: B) (fun p => by simp only [cnt_app, cnt_cons, cnt_nil] at *; omega)
    refine M.sta0 .here (osz O rfl) ((rArr 2 (rF .f32)).oone O) rfl .here fun h3 M => M.lda0 .here (osz O rfl) ?_
    exact ⟨_, B, rfl, O, M.drop⟩
theorem eq_Float32A2_c {ca cb : Array Value} {xs : List Nat} (Ra : (rArr 2 (rF .f32)).rd h ca.toList xs) (Rb : (rArr 2 (rF .f32)).rd h cb.toList xs) : CALL prg f_laws_eqFloat32A2 #[.agg ca, .agg cb] (fun u h' => u = .bool true ∧ Ext h h') h := by
  refine laws_eqFloat32A2.call (alcR Ra fun g1 h1 x1 A => alcR ((rArr 2 (rF .f32)).ext x1 Rb) fun g2 h2 x2 B => ?_)
  have A := A.ext x2
  refine loop (fun x hh => ∃ n : Nat, x = (⟨g1, 0, none⟩, ⟨g2, 0, none⟩, (n : Int)) ∧ n ≤ 2 ∧ Ext h2 hh) (fun x => (2 - x.2.2).toNat) ⟨0, rfl, by omega, Ext.refl _⟩ ?_
  rintro x hh ⟨n, rfl, hn, X⟩
  refine brd (fun hc => ?_) fun hc => ⟨rfl, (x1.trans x2).trans X⟩
  have A1 := (A.ext X).elem (i := n) (by omega)
  have B1 := (B.ext X).elem (i := n) (by omega)
  refine idx (by omega) (by omega) (A1.oF1 fun y hy => idx (by omega) (by omega) (B1.oF1 fun z hz => ?_))
  have fin : ∀ {h'}, Ext hh h' → (∃ n_1 : Nat, ((⟨g1, 0, none⟩, ⟨g2, 0, none⟩, IntKind.i64.wrap ((n : Int) + 1)) : Addr × Addr × Int) = (⟨g1, 0, none⟩, ⟨g2, 0, none⟩, (n_1 : Int)) ∧ n_1 ≤ 2 ∧ Ext h2 h') ∧ ((2 : Int) - IntKind.i64.wrap ((n : Int) + 1)).toNat < ((2 : Int) - (n : Int)).toNat := by
    intro h' x'
    rw [wrap64_succ (by omega)]
    exact ⟨⟨n + 1, rfl, by omega, X.trans x'⟩, by omega⟩
  exact ⟨ffc_wide hy fun r1 k1 => pin_same (ffc_wide hz fun r2 k2 => pin_same (goX (sameW_c k1 k2 _) fun h' x' => as_b (br_f rfl (fin x')))),
    ffc_wide hz fun r1 k1 => pin_same (ffc_wide hy fun r2 k2 => pin_same (goX (sameW_c k2 k1 _) fun h' x' => as_b (br_f rfl (fin x'))))⟩
theorem zow_Float32A3 : (rArr 3 (rF .f32)).ow [] (List.replicate 3 (.float .f32 0)) (List.replicate 3 0) := ⟨by simp, zeros_fl _⟩
theorem to_Float32A3_c {cs : Array Value} {xs : List Nat} (R0 : (rArr 3 (rF .f32)).rd h cs.toList xs) : CALL prg f_laws_toFloat32A3 #[.agg cs] (fun u h' => NewR (rArr 3 (rF .f32)) h h' u xs) h := by
  refine laws_toFloat32A3.call ((Mem.start h).alc fun g1 h1 x1 M => M.alc fun g2 h2 x2 M => M.alc fun g3 h3 x3 M => ?_)
  have R : RdP (rArr 3 (rF .f32)) h3 ⟨g1, 0, none⟩ xs := M.rdp (.there (.there .here)) ((rArr 3 (rF .f32)).ext M.ext R0)
  have hl : xs.length = 3 := R0.1
  refine loop (fun x hh => ∃ n : Nat, x = (⟨g1, 0, none⟩, ⟨g2, 0, none⟩, ⟨g3, 0, none⟩, (n : Int)) ∧ n ≤ 3 ∧ Pt (rArr 3 (rF .f32)) h hh ⟨g3, 0, none⟩ ⟨g3, T_3_float32, [], []⟩ [(g2, T_3_float32, ⟨Z_3_float32⟩), (g1, T_3_float32, cs)] (xs.take n ++ List.replicate (3 - n) 0)) (fun x => (3 - x.2.2.2).toNat) ⟨0, rfl, by omega, Pt.new (r := rArr 3 (rF .f32)) zow_Float32A3 M⟩ ?_
  rintro x hh ⟨n, rfl, hn, P⟩
  refine brd (fun hc => ?_) fun hc => ?_
  · have R : RdP (rArr 3 (rF .f32)) hh ⟨g1, 0, none⟩ xs := P.mem.rdp (.there .here) ((rArr 3 (rF .f32)).ext P.ext R0)
    refine idx (by omega) (by omega) ((R.elem (i := n) (by omega)).oF1 fun y hy => idx (by omega) (by omega) ?_)
    refine Pt.st (B' := []) (v := .float .f32 y) (b := xs[n]!) P (Foc.arr (rF .f32) n (by omega)) rfl ⟨rfl, y, rfl, hy⟩ fun h' P' => ?_
    rw [wrap64_succ (by omega)]
    refine ⟨⟨n + 1, rfl, by omega, ?_⟩, by show _ < _; simp; omega⟩
    have e : (xs.take n ++ List.replicate (3 - n) 0).set n xs[n]! = xs.take (n + 1) ++ List.replicate (3 - (n + 1)) 0 := by rw [getElem!_pos xs n (by omega)]; exact copy_step hl (by omega)
    rw [e] at P'
    exact P'
  · obtain rfl : n = 3 := by omega
    rw [show xs.take 3 ++ List.replicate (3 - 3) 0 = xs by rw [← hl]; simp] at P
    obtain ⟨cs', B, M, O⟩ := P.out
    refine M.lda0 .here (osz O rfl) ?_
    have M := M.cnt (W := (g2, T_3_float32, ⟨Z_3_float32⟩) :: B) (fun p => by simp only [cnt_app, cnt_cons, cnt_nil] at *; omega)
    refine M.sta0 .here (osz O rfl) ((rArr 3 (rF .f32)).oone O) rfl .here fun h3 M => M.lda0 .here (osz O rfl) ?_
    exact ⟨_, B, rfl, O, M.drop⟩
theorem eq_Float32A3_c {ca cb : Array Value} {xs : List Nat} (Ra : (rArr 3 (rF .f32)).rd h ca.toList xs) (Rb : (rArr 3 (rF .f32)).rd h cb.toList xs) : CALL prg f_laws_eqFloat32A3 #[.agg ca, .agg cb] (fun u h' => u = .bool true ∧ Ext h h') h := by
  refine laws_eqFloat32A3.call (alcR Ra fun g1 h1 x1 A => alcR ((rArr 3 (rF .f32)).ext x1 Rb) fun g2 h2 x2 B => ?_)
  have A := A.ext x2
  refine loop (fun x hh => ∃ n : Nat, x = (⟨g1, 0, none⟩, ⟨g2, 0, none⟩, (n : Int)) ∧ n ≤ 3 ∧ Ext h2 hh) (fun x => (3 - x.2.2).toNat) ⟨0, rfl, by omega, Ext.refl _⟩ ?_
  rintro x hh ⟨n, rfl, hn, X⟩
  refine brd (fun hc => ?_) fun hc => ⟨rfl, (x1.trans x2).trans X⟩
  have A1 := (A.ext X).elem (i := n) (by omega)
  have B1 := (B.ext X).elem (i := n) (by omega)
  refine idx (by omega) (by omega) (A1.oF1 fun y hy => idx (by omega) (by omega) (B1.oF1 fun z hz => ?_))
  have fin : ∀ {h'}, Ext hh h' → (∃ n_1 : Nat, ((⟨g1, 0, none⟩, ⟨g2, 0, none⟩, IntKind.i64.wrap ((n : Int) + 1)) : Addr × Addr × Int) = (⟨g1, 0, none⟩, ⟨g2, 0, none⟩, (n_1 : Int)) ∧ n_1 ≤ 3 ∧ Ext h2 h') ∧ ((3 : Int) - IntKind.i64.wrap ((n : Int) + 1)).toNat < ((3 : Int) - (n : Int)).toNat := by
    intro h' x'
    rw [wrap64_succ (by omega)]
    exact ⟨⟨n + 1, rfl, by omega, X.trans x'⟩, by omega⟩
  exact ⟨ffc_wide hy fun r1 k1 => pin_same (ffc_wide hz fun r2 k2 => pin_same (goX (sameW_c k1 k2 _) fun h' x' => as_b (br_f rfl (fin x')))),
    ffc_wide hz fun r1 k1 => pin_same (ffc_wide hy fun r2 k2 => pin_same (goX (sameW_c k2 k1 _) fun h' x' => as_b (br_f rfl (fin x'))))⟩
end
end Go.Sx
/- What the laws have in common: values marked and compared among others. -/
set_option linter.unusedVariables false
set_option linter.unusedSimpArgs false
namespace Go.Sx
open Go.Proofs
set_option maxRecDepth 100000

theorem PairR.go {α : Type} {r : Rep α} {P : Program} {f : FuncId} {args : Array Value} {a : α} {code : Int} {hb h : Heap} {L : List Blk} {K : Value → Heap → Prop} (M : Mem hb h L) (c : CALL P f args (fun u h' => PairR r h h' u a code) h)
    (H : ∀ h' cs B, Mem hb h' (B ++ L) → r.ow B cs.toList a → cs.size = r.sz → K (.tuple ⟨[.agg cs, .int .i64 code]⟩) h') : CALL P f args K h :=
  c.mono fun u h' ⟨cs, B, e, O, N⟩ => by subst e; exact H h' cs B (M.join N) O (by simpa using r.olen O)
/-- A value marked, its blocks among the others. -/
theorem markM {α : Type} {r : Rep α} {P : Program} {f : FuncId} {args : Array Value} {b : α} {v : Value} {hb h : Heap} {L : List Blk} {cs : Array Value} {K : Value → Heap → Prop}
    (c : CALL P f args (fun u h' => u = v ∧ ∃ B', r.ow B' cs.toList b ∧ Mem hb h' (B' ++ L)) h) (H : ∀ h' B', Mem hb h' (B' ++ L) → r.ow B' cs.toList b → K v h') : CALL P f args K h :=
  c.mono fun u h' ⟨e, B', O, N⟩ => by subst e; exact H h' B' N O
theorem eqB {a : Int} {p q : Prop} (H : q) : BIF (a != a) p q := by
  rw [show (a != a) = false by simp]; exact H
theorem bne_br {b : Bool} {p q : Prop} (hb : b = true) (H : q) : BIF (!b) p q := by
  subst hb; exact H
theorem ge_br {a : Int} {p q : Prop} (h : 0 ≤ a) (H : q) : BIF (decide (a < 0)) p q := by
  rw [show decide (a < 0) = false by simp; omega]; exact H
end Go.Sx
