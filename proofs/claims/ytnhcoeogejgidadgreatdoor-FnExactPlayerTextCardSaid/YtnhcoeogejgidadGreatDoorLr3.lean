/- How Pipe lie in cells; their parts; given ones opened. -/
import Derived.Test.YtnhcoeogejgidadGreatDoorLg
import Derived.Test.YtnhcoeogejgidadGreatDoorLp2
import Derived.Test.YtnhcoeogejgidadGreatDoorLp5
import Derived.Test.YtnhcoeogejgidadGreatDoorTabE
import Derived.Test.YtnhcoeogejgidadGreatDoorLk1
import Derived.Test.YtnhcoeogejgidadGreatDoorLh0
set_option linter.unusedVariables false
set_option linter.unusedSimpArgs false
namespace Go.Sx
open Go.Proofs
def rPipe : Rep GPipe := (Rep.seq (rSl T_impl_Ring rRing) (Rep.seq (rSl T_impl_Ring rRing) (Rep.seq (rSl T_float32 (rF .f32)) (Rep.seq rFilter (Rep.seq rB (Rep.seq (rF .f32) (Rep.seq (rF .f32) ((rF .f32))))))))).via fun a => (a.Right, a.Left, a.Scatter, a.End, a.Open, a.Loss, a.Rest, a.Slope)
theorem foc_Pipe_Right : Foc rPipe (rSl T_impl_Ring rRing) 0 (fun a => a.Right) (fun a b => { a with Right := b }) := (Foc.via (f := fun a : GPipe => (a.Right, a.Left, a.Scatter, a.End, a.Open, a.Loss, a.Rest, a.Slope)) (get' := fun a => a.Right) (put' := fun a b => { a with Right := b }) (Foc.fst (Foc.here (rSl T_impl_Ring rRing))) (fun _ => rfl) (fun _ _ => rfl)).at rfl
theorem foc_Pipe_Left : Foc rPipe (rSl T_impl_Ring rRing) 1 (fun a => a.Left) (fun a b => { a with Left := b }) := (Foc.via (f := fun a : GPipe => (a.Right, a.Left, a.Scatter, a.End, a.Open, a.Loss, a.Rest, a.Slope)) (get' := fun a => a.Left) (put' := fun a b => { a with Left := b }) (Foc.snd (Foc.fst (Foc.here (rSl T_impl_Ring rRing)))) (fun _ => rfl) (fun _ _ => rfl)).at rfl
theorem foc_Pipe_Scatter : Foc rPipe (rSl T_float32 (rF .f32)) 2 (fun a => a.Scatter) (fun a b => { a with Scatter := b }) := (Foc.via (f := fun a : GPipe => (a.Right, a.Left, a.Scatter, a.End, a.Open, a.Loss, a.Rest, a.Slope)) (get' := fun a => a.Scatter) (put' := fun a b => { a with Scatter := b }) (Foc.snd (Foc.snd (Foc.fst (Foc.here (rSl T_float32 (rF .f32)))))) (fun _ => rfl) (fun _ _ => rfl)).at rfl
theorem foc_Pipe_End : Foc rPipe rFilter 3 (fun a => a.End) (fun a b => { a with End := b }) := (Foc.via (f := fun a : GPipe => (a.Right, a.Left, a.Scatter, a.End, a.Open, a.Loss, a.Rest, a.Slope)) (get' := fun a => a.End) (put' := fun a b => { a with End := b }) (Foc.snd (Foc.snd (Foc.snd (Foc.fst (Foc.here rFilter))))) (fun _ => rfl) (fun _ _ => rfl)).at rfl
theorem foc_Pipe_Open : Foc rPipe rB 9 (fun a => a.Open) (fun a b => { a with Open := b }) := (Foc.via (f := fun a : GPipe => (a.Right, a.Left, a.Scatter, a.End, a.Open, a.Loss, a.Rest, a.Slope)) (get' := fun a => a.Open) (put' := fun a b => { a with Open := b }) (Foc.snd (Foc.snd (Foc.snd (Foc.snd (Foc.fst (Foc.here rB)))))) (fun _ => rfl) (fun _ _ => rfl)).at rfl
theorem foc_Pipe_Loss : Foc rPipe (rF .f32) 10 (fun a => a.Loss) (fun a b => { a with Loss := b }) := (Foc.via (f := fun a : GPipe => (a.Right, a.Left, a.Scatter, a.End, a.Open, a.Loss, a.Rest, a.Slope)) (get' := fun a => a.Loss) (put' := fun a b => { a with Loss := b }) (Foc.snd (Foc.snd (Foc.snd (Foc.snd (Foc.snd (Foc.fst (Foc.here (rF .f32)))))))) (fun _ => rfl) (fun _ _ => rfl)).at rfl
theorem foc_Pipe_Rest : Foc rPipe (rF .f32) 11 (fun a => a.Rest) (fun a b => { a with Rest := b }) := (Foc.via (f := fun a : GPipe => (a.Right, a.Left, a.Scatter, a.End, a.Open, a.Loss, a.Rest, a.Slope)) (get' := fun a => a.Rest) (put' := fun a b => { a with Rest := b }) (Foc.snd (Foc.snd (Foc.snd (Foc.snd (Foc.snd (Foc.snd (Foc.fst (Foc.here (rF .f32))))))))) (fun _ => rfl) (fun _ _ => rfl)).at rfl
theorem foc_Pipe_Slope : Foc rPipe (rF .f32) 12 (fun a => a.Slope) (fun a b => { a with Slope := b }) := (Foc.via (f := fun a : GPipe => (a.Right, a.Left, a.Scatter, a.End, a.Open, a.Loss, a.Rest, a.Slope)) (get' := fun a => a.Slope) (put' := fun a b => { a with Slope := b }) (Foc.snd (Foc.snd (Foc.snd (Foc.snd (Foc.snd (Foc.snd (Foc.snd (Foc.here (rF .f32))))))))) (fun _ => rfl) (fun _ _ => rfl)).at rfl
def z_Pipe : GPipe := ⟨[], [], [], z_Filter, false, 0, 0, 0⟩
theorem zow_Pipe : rPipe.ow [] [Value.slice none 0 0, Value.slice none 0 0, Value.slice none 0 0, Value.int .i64 (0 : Int), Value.float .f32 0, Value.float .f32 0, Value.float .f32 0, Value.float .f32 0, Value.float .f32 0, Value.bool false, Value.float .f32 0, Value.float .f32 0, Value.float .f32 0] z_Pipe := ⟨[], [], [Value.slice none 0 0], [Value.slice none 0 0, Value.slice none 0 0, Value.int .i64 (0 : Int), Value.float .f32 0, Value.float .f32 0, Value.float .f32 0, Value.float .f32 0, Value.float .f32 0, Value.bool false, Value.float .f32 0, Value.float .f32 0, Value.float .f32 0], rfl, rfl, ⟨none, 0, 0, rfl, SlO.nil⟩, ⟨[], [], [Value.slice none 0 0], [Value.slice none 0 0, Value.int .i64 (0 : Int), Value.float .f32 0, Value.float .f32 0, Value.float .f32 0, Value.float .f32 0, Value.float .f32 0, Value.bool false, Value.float .f32 0, Value.float .f32 0, Value.float .f32 0], rfl, rfl, ⟨none, 0, 0, rfl, SlO.nil⟩, ⟨[], [], [Value.slice none 0 0], [Value.int .i64 (0 : Int), Value.float .f32 0, Value.float .f32 0, Value.float .f32 0, Value.float .f32 0, Value.float .f32 0, Value.bool false, Value.float .f32 0, Value.float .f32 0, Value.float .f32 0], rfl, rfl, ⟨none, 0, 0, rfl, SlO.nil⟩, ⟨[], [], [Value.int .i64 (0 : Int), Value.float .f32 0, Value.float .f32 0, Value.float .f32 0, Value.float .f32 0, Value.float .f32 0], [Value.bool false, Value.float .f32 0, Value.float .f32 0, Value.float .f32 0], rfl, rfl, zow_Filter, ⟨[], [], [Value.bool false], [Value.float .f32 0, Value.float .f32 0, Value.float .f32 0], rfl, rfl, ⟨rfl, rfl⟩, ⟨[], [], [Value.float .f32 0], [Value.float .f32 0, Value.float .f32 0], rfl, rfl, ⟨rfl, 0, rfl, fw_c32 (by decide) (by decide)⟩, ⟨[], [], [Value.float .f32 0], [Value.float .f32 0], rfl, rfl, ⟨rfl, 0, rfl, fw_c32 (by decide) (by decide)⟩, ⟨rfl, 0, rfl, fw_c32 (by decide) (by decide)⟩⟩⟩⟩⟩⟩⟩⟩
instance lf_Pipe_0 : FocC rPipe 0 (rSl T_impl_Ring rRing) (fun a => a.Right) (fun a b => { a with Right := b }) := ⟨Foc.at foc_Pipe_Right rfl⟩
instance lf_Pipe_1 : FocC rPipe 1 (rSl T_impl_Ring rRing) (fun a => a.Left) (fun a b => { a with Left := b }) := ⟨Foc.at foc_Pipe_Left rfl⟩
instance lf_Pipe_2 : FocC rPipe 2 (rSl T_float32 (rF .f32)) (fun a => a.Scatter) (fun a b => { a with Scatter := b }) := ⟨Foc.at foc_Pipe_Scatter rfl⟩
instance lf_Pipe_3 : FocC rPipe 3 (rI .i64) (fun a => a.End.Kind) (fun a b => { a with End := { a.End with Kind := b } }) := ⟨Foc.at (foc_Pipe_End.trans lf_Filter_0.f) rfl⟩
instance lf_Pipe_4 : FocC rPipe 4 (rF .f32) (fun a => a.End.C[0]!) (fun a b => { a with End := { a.End with C := a.End.C.set 0 b } }) := ⟨Foc.at (foc_Pipe_End.trans lf_Filter_1.f) rfl⟩
instance lf_Pipe_5 : FocC rPipe 5 (rF .f32) (fun a => a.End.C[1]!) (fun a b => { a with End := { a.End with C := a.End.C.set 1 b } }) := ⟨Foc.at (foc_Pipe_End.trans lf_Filter_2.f) rfl⟩
instance lf_Pipe_6 : FocC rPipe 6 (rF .f32) (fun a => a.End.C[2]!) (fun a b => { a with End := { a.End with C := a.End.C.set 2 b } }) := ⟨Foc.at (foc_Pipe_End.trans lf_Filter_3.f) rfl⟩
instance lf_Pipe_7 : FocC rPipe 7 (rF .f32) (fun a => a.End.S[0]!) (fun a b => { a with End := { a.End with S := a.End.S.set 0 b } }) := ⟨Foc.at (foc_Pipe_End.trans lf_Filter_4.f) rfl⟩
instance lf_Pipe_8 : FocC rPipe 8 (rF .f32) (fun a => a.End.S[1]!) (fun a b => { a with End := { a.End with S := a.End.S.set 1 b } }) := ⟨Foc.at (foc_Pipe_End.trans lf_Filter_5.f) rfl⟩
instance lf_Pipe_9 : FocC rPipe 9 rB (fun a => a.Open) (fun a b => { a with Open := b }) := ⟨Foc.at foc_Pipe_Open rfl⟩
instance lf_Pipe_10 : FocC rPipe 10 (rF .f32) (fun a => a.Loss) (fun a b => { a with Loss := b }) := ⟨Foc.at foc_Pipe_Loss rfl⟩
instance lf_Pipe_11 : FocC rPipe 11 (rF .f32) (fun a => a.Rest) (fun a b => { a with Rest := b }) := ⟨Foc.at foc_Pipe_Rest rfl⟩
instance lf_Pipe_12 : FocC rPipe 12 (rF .f32) (fun a => a.Slope) (fun a b => { a with Slope := b }) := ⟨Foc.at foc_Pipe_Slope rfl⟩
end Go.Sx
/- Floats in blocks beside own data; blocks made sample by sample. -/
set_option linter.unusedVariables false
set_option linter.unusedSimpArgs false
namespace Go.Sx
open Go.Proofs
set_option maxRecDepth 100000
set_option maxHeartbeats 1000000

theorem rdsF_any {k : FloatKind} {h h' : Heap} : ∀ {xs : List Nat} {vs : List Value}, rds (rF k) h vs xs → rds (rF k) h' vs xs
  | [], vs, R => R
  | a :: xs, vs, R => by
    obtain ⟨v1, v2, rfl, R1, R2⟩ := R
    exact ⟨v1, v2, rfl, R1, rdsF_any R2⟩
/-- n floats, wherever they lie. -/
def FA (n : Nat) (cs : Array Value) (xs : List Nat) : Prop := (rArr n (rF .f32)).rd #[] cs.toList xs
section
variable {n : Nat} {cs : Array Value} {xs : List Nat}
theorem FA.rd (R : FA n cs xs) (h : Heap) : (rArr n (rF .f32)).rd h cs.toList xs := ⟨R.1, rdsF_any R.2⟩
theorem FA.of {h : Heap} (R : (rArr n (rF .f32)).rd h cs.toList xs) : FA n cs xs := ⟨R.1, rdsF_any R.2⟩
theorem FA.size (R : FA n cs xs) : cs.size = n := by have := rsz R rfl; rw [this]; exact Nat.mul_one n
theorem FA.one (R : FA n cs xs) : ∀ v ∈ cs.toList, v.oneCell' = true := (rArr n (rF .f32)).rone R
end
section
variable {h0 h : Heap} {q : Addr} {F : Fr} {L : List Blk} {n : Nat}
theorem Mem.pin2 {h0' h' : Heap} {L' : List Blk} {g m : Nat} {cs : Array Value} {p : Prop} (M : Mem h0 h L) (l : Look L g cs) (M' : Mem h0' h' L') (l' : Look L' g cs) (H : p) : PIN h ⟨g, 0, none⟩ m h' p :=
  ⟨fun j _ => by rw [add_g, M.cell l, M'.cell l'], H⟩
end
end Go.Sx
/- The laws' helpers over pipes: what they compute. -/
set_option linter.unusedVariables false
set_option linter.unusedSimpArgs false
namespace Go.Sx
open Go.Proofs
set_option maxRecDepth 100000

section
variable {h : Heap}
theorem szp_Ring : 0 < rRing.sz := by decide
def w_RingS (xs : List GRing) : Nat := xs.length + nL w_Ring xs
theorem sz_RingS_c {b : Option Addr} {l c : Nat} {xs : List GRing} (S : SlR rRing h b l c xs) (left : Nat) (hl : left ≤ 1048576) : CALL prg f_laws_szRingS #[.slice b l c, .int .i64 (left : Int)] (fun u h' => u = .int .i64 (subW left (w_RingS xs)) ∧ Ext h h') h := by
  have hx := S.len
  have h2 := S.2.1
  have h3 := S.2.2.1
  have hw : w_RingS xs = xs.length + nL w_Ring xs := rfl
  have := maxLen_lt
  refine laws_szRingS.call ?_
  unfold laws_szRingS.S
  rw [wrap64 (n := (left : Int) - (l : Int)) (by omega) (by omega)]
  refine brd (fun hc => ⟨by rw [subW_neg (by omega)], Ext.refl _⟩) fun hc => ?_
  refine loop (fun x hh => ∃ m : Nat, x = (b, l, c, ((left - l - nL w_Ring (xs.take m) : Nat) : Int), (m : Int)) ∧ m ≤ l ∧ Ext h hh ∧ nL w_Ring (xs.take m) ≤ left - l) (fun x => (l - x.2.2.2.2).toNat) ⟨0, by rw [show ((left : Int) - (l : Int)) = ((left - l : Nat) : Int) by omega]; rfl, by omega, Ext.refl _, Nat.zero_le _⟩ ?_
  rintro x hh ⟨m, rfl, hn, X, hm⟩
  refine brd (fun hc => ?_) fun hc => ?_
  · have h4 := nL_snoc (n := w_Ring) (xs := xs) (i := m) (by omega)
    have h5 := nL_take_le (n := w_Ring) xs (m + 1)
    refine (S.ext X).idx szp_Ring (by omega) (by omega) fun a Ra => Ra.lda1 rfl fun c1 R1 => goX (sz_Ring_c R1 _ (by omega)) fun h' x' => as_i (sz_bif (fun hb => ⟨by rw [Int.toNat_natCast] at hb; rw [subW_neg (by omega)], X.trans x'⟩) fun hb => ?_)
    rw [subW_pos hb, wrap64_succ (by omega)]
    rw [Int.toNat_natCast] at hb ⊢
    exact ⟨⟨m + 1, by rw [h4, Nat.sub_sub], by omega, X.trans x', by omega⟩, by show _ < _; simp; omega⟩
  · obtain rfl : m = l := by omega
    have e : xs.take m = xs := by rw [← hx]; exact List.take_length
    rw [e] at hm ⊢
    exact ⟨by rw [subW_pos (by omega), hw, hx, Nat.sub_sub], X⟩
theorem to_RingS_c {b : Option Addr} {l c : Nat} {xs : List GRing} (S : SlR rRing h b l c xs) (hl0 : w_RingS xs ≤ 1048576) : CALL prg f_laws_toRingS #[.slice b l c] (fun u h' => ∃ b' c' B, u = .slice b' l c' ∧ SlO T_impl_Ring rRing B b' l c' xs ∧ Mem h h' B) h := by
  have hxl := S.len
  have hw : w_RingS xs = xs.length + nL w_Ring xs := rfl
  have hl : l ≤ 1048576 := by omega
  refine laws_toRingS.call ?_
  refine make_sl (r := rRing) (z := z_Ring) (zc := Z_impl_Ring) zow_Ring rfl rfl (by decide) (Mem.start h) (by show 32 * l ≤ 2 ^ 48; omega) (Nat.le_trans hl (by decide)) fun g h1 x1 M0 O0 => ?_
  refine loop (fun x hh => ∃ (n : Nat) (B : List Blk), x = (b, l, c, some ⟨g, 0, none⟩, l, l, (n : Int)) ∧ n ≤ l ∧ SlO T_impl_Ring rRing B (some ⟨g, 0, none⟩) l l (xs.take n ++ List.replicate (l - n) z_Ring) ∧ Mem h hh (B ++ [])) (fun x => (l - x.2.2.2.2.2.2).toNat) ⟨0, _, rfl, by omega, O0, M0⟩ ?_
  rintro x hh ⟨n, B, rfl, hn, O, M⟩
  refine brd (fun hc => ?_) fun hc => ?_
  · have h5 : w_Ring xs[n]! ≤ nL w_Ring xs := nL_mem (by omega)
    refine (S.ext M.ext).idx szp_Ring (by omega) (by omega) fun a Ra => Ra.lda1 rfl fun c1 R1 => NewR.go M (to_Ring_c R1 (by rw [Int.toNat_natCast]; omega)) fun h' c2 B2 M2 O2 ho => as_a ?_
    obtain ⟨a0, F', C, e, op, close⟩ := O.elem2 (i := n) (by omega)
    cases e
    have P := (op _ _ B2 (M2.cnt (fun p => by simp only [cnt_app, cnt_cons, cnt_nil] at *; omega))).cnt (W := B2 ++ (C ++ [])) (fun p => by simp only [cnt_app, cnt_cons, cnt_nil] at *; omega)
    refine idxs (by omega) (by omega) ?_
    rw [Int.toNat_natCast] at O2
    rw [Int.toNat_natCast, show n * 2 = n * rRing.sz from rfl]
    refine (add0 ((⟨g, 0, none⟩ : Addr).add (n * rRing.sz))) ▸ P.sts (Foc.here rRing) rfl O2 fun h'' P => ?_
    obtain ⟨B', O', M'⟩ := close _ _ _ _ P
    have e : (xs.take n ++ List.replicate (l - n) z_Ring).set n xs[n]! = xs.take (n + 1) ++ List.replicate (l - (n + 1)) z_Ring := by rw [getElem!_pos xs n (by omega)]; exact copy_step hxl (by omega)
    rw [e] at O'
    rw [wrap64_succ (by omega)]
    exact ⟨⟨n + 1, B', rfl, by omega, O', M'⟩, by show _ < _; simp; omega⟩
  · obtain rfl : n = l := by omega
    rw [show xs.take n ++ List.replicate (n - n) z_Ring = xs by rw [← hxl]; simp] at O
    rw [List.append_nil] at M
    exact ⟨_, _, B, rfl, O, M⟩
theorem eq_RingS_c {b1 b2 : Option Addr} {l1 c1 l2 c2 : Nat} {xs : List GRing} (S1 : SlR rRing h b1 l1 c1 xs) (S2 : SlR rRing h b2 l2 c2 xs) : CALL prg f_laws_eqRingS #[.slice b1 l1 c1, .slice b2 l2 c2] (fun u h' => u = .bool true ∧ Ext h h') h := by
  have e1 := S1.len
  have e2 := S2.len
  have h2 := S1.2.1
  have h3 := S1.2.2.1
  have := maxLen_lt
  obtain rfl : l1 = l2 := by omega
  refine laws_eqRingS.call (br_f (by simp) ?_)
  refine loop (fun x hh => ∃ n : Nat, x = (b1, l1, c1, b2, l1, c2, (n : Int)) ∧ n ≤ l1 ∧ Ext h hh) (fun x => (l1 - x.2.2.2.2.2.2).toNat) ⟨0, rfl, by omega, Ext.refl _⟩ ?_
  rintro x hh ⟨n, rfl, hn, X⟩
  refine brd (fun hc => ?_) fun hc => ⟨rfl, X⟩
  refine (S1.ext X).idx szp_Ring (by omega) (by omega) fun a Ra => Ra.lda1 rfl fun ca R1 => (S2.ext X).idx szp_Ring (by omega) (by omega) fun a' Rb => Rb.lda1 rfl fun cb R2 => goX (eq_Ring_c R1 R2) fun h' x' => as_b (br_f rfl ?_)
  rw [wrap64_succ (by omega)]
  exact ⟨⟨n + 1, rfl, by omega, X.trans x'⟩, by show _ < _; simp; omega⟩
theorem eq_Pipe_c {ca cb : Array Value} {x : GPipe} (Ra : rPipe.rd h ca.toList x) (Rb : rPipe.rd h cb.toList x) : CALL prg f_laws_eqPipe #[.agg ca, .agg cb] (fun u h' => u = .bool true ∧ Ext h h') h := by
  refine laws_eqPipe.call (alcR Ra fun g1 h1 x1 A => alcR (rPipe.ext x1 Rb) fun g2 h2 x2 B => ?_)
  have A := A.ext x2
  have X := x1.trans x2
  refine A.oL2 fun b1 l1 c1 S1 => B.oL2 fun b2 l2 c2 S2 => goX (eq_RingS_c S1 S2) fun h' x' => as_b (br_f rfl ?_)
  have A := A.ext x'
  have B := B.ext x'
  have X := X.trans x'
  refine A.oL2 fun b1 l1 c1 S1 => B.oL2 fun b2 l2 c2 S2 => goX (eq_RingS_c S1 S2) fun h' x' => as_b (br_f rfl ?_)
  have A := A.ext x'
  have B := B.ext x'
  have X := X.trans x'
  refine A.oL2 fun b1 l1 c1 S1 => B.oL2 fun b2 l2 c2 S2 => goX (eq_Float32S_c S1 S2) fun h' x' => as_b (br_f rfl ?_)
  have A := A.ext x'
  have B := B.ext x'
  have X := X.trans x'
  refine A.lda2 foc_Pipe_End rfl fun c1 R1 => B.lda2 foc_Pipe_End rfl fun c2 R2 => goX (eq_Filter_c R1 R2) fun h' x' => as_b (br_f rfl ?_)
  have A := A.ext x'
  have B := B.ext x'
  have X := X.trans x'
  refine A.oB2 (B.oB2 (br_f (by simp) ?_))
  refine A.oF2 fun y hy => ffc_wide hy fun r1 k1 => B.oF2 fun z hz => ffc_wide hz fun r2 k2 => goX (sameW_c k1 k2 _) fun h' x' => as_b (br_f rfl ?_)
  have A := A.ext x'
  have B := B.ext x'
  have X := X.trans x'
  refine A.oF2 fun y hy => ffc_wide hy fun r1 k1 => B.oF2 fun z hz => ffc_wide hz fun r2 k2 => goX (sameW_c k1 k2 _) fun h' x' => as_b (br_f rfl ?_)
  have A := A.ext x'
  have B := B.ext x'
  have X := X.trans x'
  refine A.oF2 fun y hy => ffc_wide hy fun r1 k1 => B.oF2 fun z hz => ffc_wide hz fun r2 k2 => goX (sameW_c k1 k2 _) fun h' x' => as_b (br_f rfl ?_)
  have A := A.ext x'
  have B := B.ext x'
  have X := X.trans x'
  exact ⟨rfl, X⟩
def w_Pipe (x : GPipe) : Nat := w_RingS x.Right + w_RingS x.Left + w_Float32S x.Scatter
theorem sz_Pipe_c {cs : Array Value} {x : GPipe} (R0 : rPipe.rd h cs.toList x) (left : Nat) (hl : left ≤ 1048576) : CALL prg f_laws_szPipe #[.agg cs, .int .i64 (left : Int)] (fun u h' => u = .int .i64 (subW left (w_Pipe x)) ∧ Ext h h') h := by
  have hw : w_Pipe x = w_RingS x.Right + w_RingS x.Left + w_Float32S x.Scatter := rfl
  refine laws_szPipe.call (alcR R0 fun g1 h1 X R => ?_)
  refine R.oL2 fun b1 l1 c1 S1 => goX (sz_RingS_c S1 (left) (by omega)) fun h' x' => as_i (sz_bif (fun hc => ⟨by rw [subW_neg (by omega)], X.trans x'⟩) fun hc => ?_)
  rw [subW_pos hc]
  have R := R.ext x'
  have X := X.trans x'
  refine R.oL2 fun b1 l1 c1 S1 => goX (sz_RingS_c S1 (left - w_RingS x.Right) (by omega)) fun h' x' => as_i (sz_bif (fun hc => ⟨by rw [subW_neg (by omega)], X.trans x'⟩) fun hc => ?_)
  rw [subW_pos hc]
  have R := R.ext x'
  have X := X.trans x'
  refine R.oL2 fun b1 l1 c1 S1 => goX (sz_Float32S_c S1 (left - w_RingS x.Right - w_RingS x.Left) (by omega)) fun h' x' => as_i (sz_bif (fun hc => ⟨by rw [subW_neg (by omega)], X.trans x'⟩) fun hc => ?_)
  rw [subW_pos hc]
  have R := R.ext x'
  have X := X.trans x'
  exact ⟨by rw [subW_pos (by omega)]; congr 2 <;> omega, X⟩
theorem to_Pipe_c {cs : Array Value} {x : GPipe} (R0 : rPipe.rd h cs.toList x) (hw0 : w_Pipe x ≤ 1048576) : CALL prg f_laws_toPipe #[.agg cs] (fun u h' => NewR rPipe h h' u x) h := by
  have hw : w_Pipe x = w_RingS x.Right + w_RingS x.Left + w_Float32S x.Scatter := rfl
  refine laws_toPipe.call ((Mem.start h).alc fun g1 h1 x1 M => M.alc fun g2 h2 x2 M => M.alc fun g3 h3 x3 M => ?_)
  have P : Pt rPipe h h3 ⟨g3, 0, none⟩ ⟨g3, T_impl_Pipe, [], []⟩ [(g2, T_impl_Pipe, ⟨Z_impl_Pipe⟩), (g1, T_laws_Pipe, cs)] z_Pipe := Pt.new (r := rPipe) zow_Pipe M
  have R : RdP rPipe _ ⟨g1, 0, none⟩ x := P.mem.rdp (.there .here) (rPipe.ext P.ext R0)
  refine R.oL2 fun b l c S => (to_RingS_c S (by have := S.len; omega)).mono ?_
  rintro _ h' ⟨b', c', B, rfl, O, N⟩
  refine as_l ((P.join N).stLg O fun h' P => ?_)
  have R : RdP rPipe _ ⟨g1, 0, none⟩ x := P.mem.rdp (.there .here) (rPipe.ext P.ext R0)
  refine R.oL2 fun b l c S => (to_RingS_c S (by have := S.len; omega)).mono ?_
  rintro _ h' ⟨b', c', B, rfl, O, N⟩
  refine as_l ((P.join N).stLg O fun h' P => ?_)
  have R : RdP rPipe _ ⟨g1, 0, none⟩ x := P.mem.rdp (.there .here) (rPipe.ext P.ext R0)
  refine R.oL2 fun b l c S => (to_Float32S_c S (by have := S.len; omega)).mono ?_
  rintro _ h' ⟨b', c', B, rfl, O, N⟩
  refine as_l ((P.join N).stLg O fun h' P => ?_)
  have R : RdP rPipe _ ⟨g1, 0, none⟩ x := P.mem.rdp (.there .here) (rPipe.ext P.ext R0)
  refine R.lda2 foc_Pipe_End rfl fun c1 R1 => NewR.pt P (to_Filter_c R1) fun h' c2 B P O ho => as_a (P.stsg foc_Pipe_End rfl O fun h' P => ?_)
  have R : RdP rPipe _ ⟨g1, 0, none⟩ x := P.mem.rdp (.there .here) (rPipe.ext P.ext R0)
  refine R.oB2 (P.stB2 fun h' P => ?_)
  have R : RdP rPipe _ ⟨g1, 0, none⟩ x := P.mem.rdp (.there .here) (rPipe.ext P.ext R0)
  refine R.oF2 fun y hy => P.stFg hy fun h' P => ?_
  have R : RdP rPipe _ ⟨g1, 0, none⟩ x := P.mem.rdp (.there .here) (rPipe.ext P.ext R0)
  refine R.oF2 fun y hy => P.stFg hy fun h' P => ?_
  have R : RdP rPipe _ ⟨g1, 0, none⟩ x := P.mem.rdp (.there .here) (rPipe.ext P.ext R0)
  refine R.oF2 fun y hy => P.stFg hy fun h' P => ?_
  obtain ⟨c', B, M, O⟩ := P.out
  refine M.lda0 .here (osz O rfl) ?_
  have M := M.cnt (W := (g2, T_impl_Pipe, ⟨Z_impl_Pipe⟩) :: B) (fun p => by simp only [cnt_app, cnt_cons, cnt_nil] at *; omega)
  refine M.sta0 .here (osz O rfl) (rPipe.oone O) rfl .here fun h3 M => M.lda0 .here (osz O rfl) ?_
  exact ⟨_, B, rfl, O, M.drop⟩
end
end Go.Sx
