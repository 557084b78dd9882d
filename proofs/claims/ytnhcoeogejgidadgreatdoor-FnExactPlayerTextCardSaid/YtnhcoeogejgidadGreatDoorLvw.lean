/- Strings told and read. -/
import Derived.Test.YtnhcoeogejgidadGreatDoorLvj
import Derived.Test.YtnhcoeogejgidadGreatDoorLk29
import Derived.Test.YtnhcoeogejgidadGreatDoorLk45
import Derived.Test.YtnhcoeogejgidadGreatDoorTab
import Derived.Test.YtnhcoeogejgidadGreatDoorLq3
import Derived.Test.YtnhcoeogejgidadGreatDoorK4
import Derived.Test.YtnhcoeogejgidadGreatDoorLk50
import Derived.Test.YtnhcoeogejgidadGreatDoorLr3
import Derived.Test.YtnhcoeogejgidadGreatDoorLva
import Derived.Test.YtnhcoeogejgidadGreatDoorLk1
import Derived.Test.YtnhcoeogejgidadGreatDoorLvr
import Derived.Test.YtnhcoeogejgidadGreatDoorLm7
import Derived.Test.YtnhcoeogejgidadGreatDoorK3
set_option linter.unusedVariables false
set_option linter.unusedSimpArgs false
namespace Go.Sx
open Go.Proofs
set_option maxRecDepth 100000
set_option maxHeartbeats 2000000

/-- Strings as they are told and read again. -/
structure StrA (x : GString) : Prop where
  l : RingA x.Loop
  t : FiltA x.Tune
  d : FiltA x.Damp
  b : FW .f32 x.Loss x.Loss
theorem StrA.b' {x : GString} (h : StrA x) : StrB x := ⟨h.l.b, h.t.b, h.d.b, h.b.lt⟩
theorem str_fl {x : GString} (hok : x.ok = true) : x.Tune.ok = true ∧ x.Damp.ok = true := by
  unfold GString.ok at hok
  simp only [Bool.and_eq_true] at hok
  exact ⟨hok.1.1.2.1, hok.1.2.1⟩
theorem str_a {h : Heap} {q : Addr} {x : GString} (R : RdP rString h q x) (hok : x.ok = true) : StrA x := by
  have fl := str_fl hok
  exact ⟨⟨str_loop hok, ring_a (R.foc foc_String_Loop)⟩, filt_a (R.foc foc_String_Tune) fl.1, filt_a (R.foc foc_String_Damp) fl.2, f32_a (R.foc foc_String_Loss)⟩
section
variable {h0 h : Heap} {L : List Blk} {cs : Array Value} {x : GString}
theorem StringText_c (R0 : rString.rd h cs.toList x) (hok : x.ok = true) (T : TxW h) : CALL prg f_impl_StringText #[.agg cs] (fun u h' => u = .string (mkB (linL x.lines)) ∧ Ext h h') h := by
  refine impl_StringText.call (alcR R0 fun g h1 x1 R => R.lda1 rfl fun c1 R1 => goX (ValidString_c R1) fun h2 x2 => as_b ?_)
  rw [hok]
  have R := R.ext x2
  have A := str_a R hok
  have T := T.ext (x1.trans x2)
  have X0 := x1.trans x2
  have fl := str_fl hok
  have s1 := bitL_len (A.b.lt : x.Loss < 4294967296)
  have s2 := A.t.b.size
  have s3 := A.d.b.size
  have s4 := smp_le A.l.b.bits
  have hl := A.l.b.len
  have a0 := A.l.b.a0
  have a1 := A.l.b.a1
  have d1 := dec_le (n := x.Loop.Samples.length) (k := 9) (by omega)
  have d2 := dec_le (n := x.Loop.At.toNat) (k := 9) (by omega)
  refine br_f rfl (R.oF2 fun y hy => (R.oL1 fun b l c S => R.oI2 (R.lda2 foc_String_Tune rfl fun ct Rt => R.lda2 foc_String_Damp rfl fun cd Rd => R.oL1 fun b' l' c' S' => ?_)))
  have PN : ∀ (off n : Nat) {hh : Heap} {p : Prop}, off + n ≤ rString.sz → Ext h2 hh → p → PIN h2 ⟨g, off, none⟩ n hh p := fun off n {hh p} hj X H => by
    have q1 := R.pinO (off := off) (n := n) hj X H
    rwa [add_g] at q1
  have hl1 : x.Loop.Samples.length = l := S.len
  have hl2 : x.Loop.Samples.length = l' := S'.len
  refine goX (bitsText_c hy T.br) fun h3 x3 => as_s (PN 0 1 (by decide) x3 (PN 8 6 (by decide) x3 (PN 2 6 (by decide) x3 (PN 1 1 (by decide) x3 (PN 0 1 (by decide) x3 ?_)))))
  refine ⟨by simp only [ba_len, mk_size, List.length_cons, List.length_nil]; omega, by simp only [ba_len, mk_size, List.length_cons, List.length_nil]; omega, ?_⟩
  refine goX (length_f32_c _ _ _ _) fun h4 x4 => as_i ?_
  have y4 := x3.trans x4
  refine PN 0 1 (by decide) y4 (PN 8 6 (by decide) y4 (PN 2 6 (by decide) y4 (PN 1 1 (by decide) y4 ?_)))
  refine goX (decimal_c (m := l) (by omega) (T.ext y4).tens) fun h5 x5 => as_s ?_
  have y5 := y4.trans x5
  refine PN 0 1 (by decide) y5 (PN 8 6 (by decide) y5 (PN 2 6 (by decide) y5 (PN 1 1 (by decide) y5 ?_)))
  rw [decB_mk]
  rw [← hl1] at *
  refine ⟨by simp only [ba_len, mk_size, List.length_cons, List.length_nil]; omega, by simp only [ba_len, mk_size, List.length_cons, List.length_nil]; omega, ?_⟩
  obtain ⟨k, hk⟩ : ∃ n : Nat, x.Loop.At = (n : Int) := ⟨x.Loop.At.toNat, by omega⟩
  rw [hk, Int.toNat_natCast] at d2
  rw [hk]
  refine goX (decimal_c (m := k) (by omega) (T.ext y5).tens) fun h6 x6 => as_s ?_
  have y6 := y5.trans x6
  refine PN 0 1 (by decide) y6 (PN 8 6 (by decide) y6 (PN 2 6 (by decide) y6 ?_))
  rw [decB_mk]
  refine ⟨by simp only [ba_len, mk_size, List.length_cons, List.length_nil]; omega, by simp only [ba_len, mk_size, List.length_cons, List.length_nil]; omega, ?_⟩
  refine goX (FilterText_c (rFilter.ext y6 Rt) fl.1 A.t (T.ext y6)) fun h7 x7 => as_s ?_
  have y7 := y6.trans x7
  refine PN 0 1 (by decide) y7 (PN 8 6 (by decide) y7 ?_)
  refine ⟨by simp only [ba_len, mk_size, List.length_cons, List.length_nil]; omega, by simp only [ba_len, mk_size, List.length_cons, List.length_nil]; omega, ?_⟩
  refine goX (FilterText_c (rFilter.ext y7 Rd) fl.2 A.d (T.ext y7)) fun h8 x8 => as_s ?_
  have y8 := y7.trans x8
  refine PN 0 1 (by decide) y8 ?_
  refine ⟨by simp only [ba_len, mk_size, List.length_cons, List.length_nil]; omega, by simp only [ba_len, mk_size, List.length_cons, List.length_nil]; omega, ?_⟩
  refine goX (samplesText_c (S'.ext y8) (by omega) (T.ext y8).br) fun h9 x9 => as_s ?_
  refine ⟨by simp only [ba_len, mk_size, List.length_cons, List.length_nil]; omega, by simp only [ba_len, mk_size, List.length_cons, List.length_nil]; omega, ?_, X0.trans (y8.trans x9)⟩
  have e10 : (⟨#[10]⟩ : ByteArray) = mkB [10] := rfl
  have e32 : (⟨#[32]⟩ : ByteArray) = mkB [32] := rfl
  have e4 : (⟨#[115, 116, 114, 105, 110, 103, 32]⟩ : ByteArray) = mkB (strW ++ [32]) := rfl
  rw [e10, e4, e32]
  simp only [mkB_app, List.append_assoc]
  unfold GString.lines
  rw [hk, Int.toNat_natCast]
  simp only [words_cons, words_one]
  simp [linL]
end
end Go.Sx
/- Sums of squares: never less than nought, and nought added changes nothing. -/
set_option linter.unusedVariables false
set_option linter.unusedSimpArgs false
namespace Go.Sx
open Go.Proofs Ieee
set_option maxRecDepth 100000
set_option maxHeartbeats 1000000

/-- A float64 that has no sign and is not a NaN. -/
def Nng (a : Nat) : Prop := a ≤ 2047 * 2 ^ 52
theorem Nng.lt {a : Nat} (h : Nng a) : a < 2 ^ 63 := by unfold Nng at h; omega
theorem Nng.rd {a : Nat} (h : Nng a) : (∃ m e, FloatKind.f64.format.read a = .number false m e ∧ -1074 ≤ e) ∨ FloatKind.f64.format.read a = .infinity false ∧ a = 2047 * 2 ^ 52 := by
  obtain ⟨e1, e2, e3, e4⟩ := f64_consts
  have e5 : FloatKind.f64.format.signWeight = 2 ^ 63 := rfl
  have hl := h.lt
  have hd : a / 2 ^ 63 = 0 := Nat.div_eq_of_lt hl
  unfold Nng at h
  have hm : a % 2 ^ 63 = a := Nat.mod_eq_of_lt hl
  unfold Format.read
  dsimp only
  rw [e5, e3, e4, e2, hd, hm]
  by_cases h1 : a < 2 ^ 52
  · rw [if_pos h1]; exact .inl ⟨_, _, rfl, by omega⟩
  · rw [if_neg h1]
    by_cases h2 : a < 2047 * 2 ^ 52
    · rw [if_pos h2]; exact .inl ⟨_, _, rfl, by omega⟩
    · rw [if_neg h2, if_pos (show a = 2047 * 2 ^ 52 by omega)]; exact .inr ⟨rfl, by omega⟩
theorem Nng.num {a : Nat} (h : Nng a) : nan .f64 a = false := by
  rw [nan64]
  unfold Nng at h
  rw [decide_eq_false_iff_not]
  have := Nat.mod_le a 9223372036854775808
  omega
theorem Nng.cn {a : Nat} (h : Nng a) : cn .f64 a = a := by
  have h1 := h.num
  unfold Sx.cn
  rw [h1]; rfl
end Go.Sx
/- A muted pipe: sound, silent, all its samples zero. -/
set_option linter.unusedVariables false
set_option linter.unusedSimpArgs false
namespace Go.Sx
open Go.Proofs

theorem twoR_mem {a b : List GRing} : ∀ n, n ≤ a.length → n ≤ b.length → ∀ r ∈ twoR a b n, r ∈ a ∨ r ∈ b
  | 0, _, _, r, hr => by simp [twoR] at hr
  | n + 1, h1, h2, r, hr => by
    rw [twoR, List.mem_append] at hr
    rcases hr with hr | hr
    · exact twoR_mem n (by omega) (by omega) r hr
    · simp only [List.mem_cons, List.not_mem_nil, or_false] at hr
      rcases hr with rfl | rfl
      · exact .inl (mem_get (by omega))
      · exact .inr (mem_get (by omega))
/-- The two ways to lay rings by turns. -/
theorem duo_two {a b : List GRing} (h : b.length = a.length) : ∀ n, n ≤ a.length → duo (a.take n) (b.take n) = twoR a b n := by
  have key : ∀ (u v : List GRing) (r s : GRing), u.length = v.length → duo (u ++ [r]) (v ++ [s]) = duo u v ++ [r, s] := by
    intro u
    induction u with
    | nil =>
      intro v r s h
      cases v with
      | nil => rfl
      | cons => simp at h
    | cons x u ih =>
      intro v r s h
      cases v with
      | nil => simp at h
      | cons y v => simp only [List.cons_append, duo]; rw [ih v r s (by simpa using h)]
  intro n
  induction n with
  | zero => intro _; rfl
  | succ n ih =>
    intro hn
    rw [take_snoc (l := a) (by omega), take_snoc (l := b) (by omega), key _ _ _ _ (by rw [List.length_take, List.length_take, h]), ih (by omega), twoR]
end Go.Sx
/- What functions of this seat's program compute, told in words (a predicate over heaps for each), and the proofs that the words are no more than the code's own weakest precondition. -/
namespace Go.Sx
open Go.Proofs
set_option linter.unusedVariables false
set_option maxRecDepth 100000

def impl_PipeText.B14 (Post : Value → Heap → Prop) (N14 : (ByteArray × Option Addr × Nat × Nat × Int × Int) → Heap → Prop) : ByteArray × Option Addr × Nat × Nat × Int × Int → Heap → Prop
  | (text_4, t47b, t47l, t47c, t48, t49), h =>
    BIF (decide (t49 < t48)) (
    IDXS t47b t49 t47l fun p33 =>
    oP (cell h ((Addr.add p33 ((Int.toNat t49) * 1)))) fun p34 =>
    LDA 2 h p34 fun a35 =>
    CALL prg f_impl_ringText #[.agg a35] (fun q36 h37 =>
    asS q36 fun s38 =>
    ((ByteArray.size s38 + ByteArray.size (⟨#[10]⟩ : ByteArray) : Nat) : Int) ≤ 9223372036854775807 ∧ (
    ((ByteArray.size text_4 + ByteArray.size (s38 ++ (⟨#[10]⟩ : ByteArray)) : Nat) : Int) ≤ 9223372036854775807 ∧ (
    N14 (((text_4 ++ (s38 ++ (⟨#[10]⟩ : ByteArray)))), t47b, t47l, t47c, t48, ((IntKind.i64.wrap (t49 + (1 : Int))))) h37))) h) (
    Post (.string text_4) h)
def impl_PipeText.g14 (fr : Frame) : ByteArray × Option Addr × Nat × Nat × Int × Int := ((gS (lget fr 4)), (gLb (lget fr 47)), (gLl (lget fr 47)), (gLc (lget fr 47)), (gI (lget fr 48)), (gI (lget fr 49)))
def impl_PipeText.l14 (Post : Value → Heap → Prop) : Frame → Heap → Prop := fun fr h => GRD (shape (kds 62 [(4, .s), (47, .l), (48, .i .i64), (49, .i .i64)]) fr) (LOOP (impl_PipeText.B14 Post) (impl_PipeText.g14 fr) h)
def impl_PipeText.B8 (Post : Value → Heap → Prop) (N8 : (Addr × ByteArray × Option Addr × Nat × Nat × Int × Int) → Heap → Prop) : Addr × ByteArray × Option Addr × Nat × Nat × Int × Int → Heap → Prop
  | (x_1, text_4, t28b, t28l, t28c, t29, t30), h =>
    BIF (decide (t30 < t29)) (
    IDXS t28b t30 t28l fun p19 =>
    oF .f32 (cell h ((Addr.add p19 ((Int.toNat t30) * 1)))) fun r20 =>
    CALL prg f_impl_bitsText #[.float .f32 r20] (fun q21 h22 =>
    asS q21 fun s23 =>
    ((ByteArray.size (⟨#[32]⟩ : ByteArray) + ByteArray.size s23 : Nat) : Int) ≤ 9223372036854775807 ∧ (
    ((ByteArray.size text_4 + ByteArray.size ((⟨#[32]⟩ : ByteArray) ++ s23) : Nat) : Int) ≤ 9223372036854775807 ∧ (
    N8 (x_1, ((text_4 ++ ((⟨#[32]⟩ : ByteArray) ++ s23))), t28b, t28l, t28c, t29, ((IntKind.i64.wrap (t30 + (1 : Int))))) h22))) h) (
    LDA 6 h (Addr.add x_1 3) fun a24 =>
    CALL prg f_impl_FilterText #[.agg a24] (fun q25 h26 =>
    asS q25 fun s27 =>
    ((ByteArray.size (⟨#[10]⟩ : ByteArray) + ByteArray.size s27 : Nat) : Int) ≤ 9223372036854775807 ∧ (
    ((ByteArray.size ((⟨#[10]⟩ : ByteArray) ++ s27) + ByteArray.size (⟨#[10]⟩ : ByteArray) : Nat) : Int) ≤ 9223372036854775807 ∧ (
    ((ByteArray.size text_4 + ByteArray.size ((((⟨#[10]⟩ : ByteArray) ++ s27) ++ (⟨#[10]⟩ : ByteArray))) : Nat) : Int) ≤ 9223372036854775807 ∧ (
    CALL prg f_p_impl_Pipe_rings #[.pointer (some x_1)] (fun q28 h29 =>
    asL q28 fun l30b l30l l30c =>
    LOOP (impl_PipeText.B14 Post) (((text_4 ++ (((⟨#[10]⟩ : ByteArray) ++ s27) ++ (⟨#[10]⟩ : ByteArray)))), l30b, l30l, l30c, (l30l : Int), (0 : Int)) h29) h26)))) h)
def impl_PipeText.g8 (fr : Frame) : Addr × ByteArray × Option Addr × Nat × Nat × Int × Int := ((gP (lget fr 1)), (gS (lget fr 4)), (gLb (lget fr 28)), (gLl (lget fr 28)), (gLc (lget fr 28)), (gI (lget fr 29)), (gI (lget fr 30)))
def impl_PipeText.l8 (Post : Value → Heap → Prop) : Frame → Heap → Prop := fun fr h => GRD (shape (kds 62 [(1, .p), (4, .s), (28, .l), (29, .i .i64), (30, .i .i64)]) fr) (LOOP (impl_PipeText.B8 Post) (impl_PipeText.g8 fr) h)
def impl_PipeText.J6 (Post : Value → Heap → Prop) (x_1 : Addr) (kind_3 : ByteArray) (h : Heap) : Prop :=
    ((ByteArray.size (⟨#[112, 105, 112, 101, 32]⟩ : ByteArray) + ByteArray.size kind_3 : Nat) : Int) ≤ 9223372036854775807 ∧ (
    ((ByteArray.size ((⟨#[112, 105, 112, 101, 32]⟩ : ByteArray) ++ kind_3) + ByteArray.size (⟨#[32]⟩ : ByteArray) : Nat) : Int) ≤ 9223372036854775807 ∧ (
    oF .f32 (cell h (Addr.add x_1 10)) fun r8 =>
    oF .f32 (cell h (Addr.add x_1 11)) fun r9 =>
    oF .f32 (cell h (Addr.add x_1 12)) fun r10 =>
    ALC ⟨[.float .f32 r8, .float .f32 r9, .float .f32 r10]⟩ T_float32 (fun g11 h12 =>
    CALL prg f_impl_samplesText #[.slice (some ⟨g11, 0, none⟩) 3 3] (fun q13 h14 =>
    asS q13 fun s15 =>
    ((ByteArray.size ((((⟨#[112, 105, 112, 101, 32]⟩ : ByteArray) ++ kind_3) ++ (⟨#[32]⟩ : ByteArray))) + ByteArray.size s15 : Nat) : Int) ≤ 9223372036854775807 ∧ (
    ((ByteArray.size (((((⟨#[112, 105, 112, 101, 32]⟩ : ByteArray) ++ kind_3) ++ (⟨#[32]⟩ : ByteArray)) ++ s15)) + ByteArray.size (⟨#[10, 115, 99, 97, 116, 116, 101, 114]⟩ : ByteArray) : Nat) : Int) ≤ 9223372036854775807 ∧ (
    oL (cell h14 (Addr.add x_1 2)) fun l16b l16l l16c =>
    LOOP (impl_PipeText.B8 Post) (x_1, ((((((⟨#[112, 105, 112, 101, 32]⟩ : ByteArray) ++ kind_3) ++ (⟨#[32]⟩ : ByteArray)) ++ s15) ++ (⟨#[10, 115, 99, 97, 116, 116, 101, 114]⟩ : ByteArray))), l16b, l16l, l16c, (l16l : Int), (0 : Int)) h14))) h12) h))
def impl_PipeText.j6 (Post : Value → Heap → Prop) : Frame → Heap → Prop := fun fr h => GRD (shape (kds 62 [(1, .p), (3, .s)]) fr) (impl_PipeText.J6 Post (gP (lget fr 1)) (gS (lget fr 3)) h)
def impl_PipeText.S (x_0 : Array Value) (Post : Value → Heap → Prop) (h : Heap) : Prop :=
    ALC x_0 T_impl_Pipe (fun g1 h2 =>
    LDA 13 h2 ⟨g1, 0, none⟩ fun a3 =>
    CALL prg f_impl_ValidPipe #[.agg a3] (fun q4 h5 =>
    asB q4 fun b6 =>
    BIF (!b6) (
    Post (.string (⟨#[]⟩ : ByteArray)) h5) (
    oB (cell h5 ⟨g1, 9, none⟩) fun b7 =>
    BIF b7 (
    impl_PipeText.J6 Post ⟨g1, 0, none⟩ (⟨#[111, 112, 101, 110]⟩ : ByteArray) h5) (
    impl_PipeText.J6 Post ⟨g1, 0, none⟩ (⟨#[99, 108, 111, 115, 101, 100]⟩ : ByteArray) h5))) h2) h
noncomputable def impl_PipeText.code : Code := (Tryz.f76.body).getD .skip
theorem impl_PipeText.call {x_0 : Array Value} {Post : Value → Heap → Prop} {h : Heap} (H : impl_PipeText.S x_0 Post h) : CALL prg f_impl_PipeText #[.agg x_0] Post h :=
  fn_call tau_ok mixed (c := impl_PipeText.code) (Λ := lookL [(6, impl_PipeText.j6 Post), (1000008, impl_PipeText.l8 Post), (1000014, impl_PipeText.l14 Post)]) Tryz.func76 (by kernel_rfl) (by kernel_rfl)
    (Rq.seq (by kernel_rfl) (Rq.free (by kernel_rfl)) (Rq.seq (by kernel_rfl) (Rq.free (by kernel_rfl)) (Rq.seq (by kernel_rfl) (Rq.free (by kernel_rfl)) (Rq.seqJ (impl_PipeText.j6 Post) (by kernel_rfl) (seg (fun _ _ => by kernel_rfl)) (Rq.free (by kernel_rfl))
(Rq.seq (by kernel_rfl) (Rq.free (by kernel_rfl)) (Rq.seq (by kernel_rfl) (Rq.seq (by kernel_rfl) (Rq.free (by kernel_rfl)) (Rq.block (Rq.loop (impl_PipeText.l8 Post) (by kernel_rfl) (segL (g := impl_PipeText.g8) tau_ok mixed (Λ := fun N8 => lookL []) (fun _ _ _ => by kernel_rfl) (fun N8 => (Rq.free (by kernel_rfl))))))) (Rq.seq (by kernel_rfl) (Rq.free (by kernel_rfl)) (Rq.seq (by kernel_rfl) (Rq.seq (by kernel_rfl) (Rq.free (by kernel_rfl)) (Rq.block (Rq.loop (impl_PipeText.l14 Post) (by kernel_rfl) (segL (g := impl_PipeText.g14) tau_ok mixed (Λ := fun N14 => lookL []) (fun _ _ _ => by kernel_rfl) (fun N14 => (Rq.free (by kernel_rfl))))))) (Rq.free (by kernel_rfl))))))))))
    (Eq.mp (by kernel_rfl) H)

end Go.Sx
/- Pipes told. -/
set_option linter.unusedVariables false
set_option linter.unusedSimpArgs false
namespace Go.Sx
open Go.Proofs
set_option maxRecDepth 100000
set_option maxHeartbeats 2000000

/-- Pipes as they are told and read again. -/
structure PipeA (x : GPipe) : Prop where
  r : ∀ y ∈ x.Right, RingA y
  l : ∀ y ∈ x.Left, RingA y
  e : FiltA x.End
  eo : x.End.ok = true
  n1 : 1 ≤ x.Right.length
  n3 : x.Right.length ≤ 3
  nl : x.Left.length = x.Right.length
  ns : x.Scatter.length + 1 = x.Right.length
  s : A32 x.Scatter
  b : A32 [x.Loss, x.Rest, x.Slope]
theorem PipeA.b' {x : GPipe} (h : PipeA x) : PipeB x := ⟨fun y hy => (h.r y hy).b, fun y hy => (h.l y hy).b, h.e.b, h.n1, h.n3, h.nl, h.ns, h.s.b, h.b.b⟩
theorem A32.three {a b c : Nat} (h : FW .f32 a a) (k : FW .f32 b b) (m : FW .f32 c c) : A32 [a, b, c] := fun d hd => by
  simp only [List.mem_cons, List.not_mem_nil, or_false] at hd
  rcases hd with rfl | rfl | rfl
  · exact h
  · exact k
  · exact m
theorem get_mem' {l : List GRing} {y : GRing} (h : y ∈ l) : ∃ i, i < l.length ∧ y = l[i]! := by
  obtain ⟨i, hi, e⟩ := List.mem_iff_getElem.1 h
  exact ⟨i, hi, by rw [getElem!_pos l i hi, e]⟩
theorem pipe_a {h : Heap} {q : Addr} {x : GPipe} (R : RdP rPipe h q x) (hok : x.ok = true) : PipeA x := by
  obtain ⟨n1, n3, nl, ns, o1, o2⟩ := pipe_split hok
  obtain ⟨v, e1, b4, l4, c4, e2, S4⟩ := R.cell lf_Pipe_0.f rfl
  obtain ⟨v, e3, b6, l6, c6, e2, S6⟩ := R.cell lf_Pipe_1.f rfl
  obtain ⟨v, e3, b8, l8, c8, e2, S8⟩ := R.cell lf_Pipe_2.f rfl
  have e4 : x.Right.length = l4 := S4.len
  have e6 : x.Left.length = l6 := S6.len
  have eo : x.End.ok = true := by
    have k := hok
    rw [pipe_ok] at k
    simp only [Bool.and_eq_true] at k
    exact k.1.1.1.1.2
  refine ⟨fun y hy => ?_, fun y hy => ?_, filt_a (R.foc foc_Pipe_End) eo, eo, n1, n3, nl, ns, S8.a, .three (f32_a (R.foc foc_Pipe_Loss)) (f32_a (R.foc foc_Pipe_Rest)) (f32_a (R.foc foc_Pipe_Slope))⟩
  · obtain ⟨i, hi, e⟩ := get_mem' hy
    obtain ⟨a, _, Ra⟩ := S4.elem (i := i) (by omega) ring_sz
    have Ra : RdP rRing h _ x.Right[i]! := Ra
    rw [← e] at Ra
    exact ⟨(okf_small o1 y hy).1, ring_a Ra⟩
  · obtain ⟨i, hi, e⟩ := get_mem' hy
    obtain ⟨a, _, Ra⟩ := S6.elem (i := i) (by omega) ring_sz
    have Ra : RdP rRing h _ x.Left[i]! := Ra
    rw [← e] at Ra
    exact ⟨(okf_small o2 y hy).1, ring_a Ra⟩
def pkind (x : GPipe) : List UInt8 := if x.Open then openW else closW
/-- The first lines of a pipe, and those of its rings. -/
def pline0 (x : GPipe) : List UInt8 := wordsL (pipeW :: pkind x :: [x.Loss, x.Rest, x.Slope].map bitL)
theorem pline0_eq (x : GPipe) : pline0 x = pipeW ++ [32] ++ pkind x ++ [32] ++ smpL [x.Loss, x.Rest, x.Slope] := by
  unfold pline0
  rw [words_cons, smp_words]
  simp only [List.map]
  rw [words_cons]
  simp
section
variable {h : Heap} {x : GPipe} {cs : Array Value}
theorem PipeText_c (R0 : rPipe.rd h cs.toList x) (hok : x.ok = true) (T : TxW h) : CALL prg f_impl_PipeText #[.agg cs] (fun u h' => u = .string (mkB (linL x.lines)) ∧ Ext h h') h := by
  have Ru := pipe_runs hok
  refine impl_PipeText.call (alcR R0 fun g h1 x1 R => R.lda1 rfl fun c1 R1 => goX (ValidPipe_c R1) fun h2 x2 => as_b ?_)
  rw [hok]
  have R := R.ext x2
  have A := pipe_a R hok
  have T := T.ext (x1.trans x2)
  have X0 := x1.trans x2
  have s0 := smp_le A.b.b
  have n3 := A.n3
  have ns := A.ns
  have sE := A.e.b.size
  have hk6 : (pkind x).length ≤ 6 := by unfold pkind; split <;> decide
  have e10 : (⟨#[10]⟩ : ByteArray) = mkB [10] := rfl
  have e32 : (⟨#[32]⟩ : ByteArray) = mkB [32] := rfl
  have ep : (⟨#[112, 105, 112, 101, 32]⟩ : ByteArray) = mkB (pipeW ++ [32]) := rfl
  have es : (⟨#[10, 115, 99, 97, 116, 116, 101, 114]⟩ : ByteArray) = mkB (10 :: scatW) := rfl
  have key : impl_PipeText.J6 (fun u h' => u = .string (mkB (linL x.lines)) ∧ Ext h h') ⟨g, 0, none⟩ (mkB (pkind x)) h2 := by
    unfold impl_PipeText.J6
    rw [ep, e32, es]
    simp only [mkB_app]
    refine ⟨by simp only [mk_size, List.length_append, List.length_cons, List.length_nil]; have : pipeW.length = 4 := rfl; omega, by simp only [mk_size, List.length_append, List.length_cons, List.length_nil]; have : pipeW.length = 4 := rfl; omega, ?_⟩
    refine R.oF (off := 10) fun y1 k1 => R.oF (off := 11) fun y2 k2 => R.oF (off := 12) fun y3 k3 => (Mem.start h2).alc fun g11 h3 x3 M => ?_
    have SF : SlR (rF .f32) h3 (some ⟨g11, 0, none⟩) 3 3 [x.Loss, x.Rest, x.Slope] := ⟨rfl, Nat.le_refl _, by decide, [.float .f32 y1, .float .f32 y2, .float .f32 y3], fun i hi => ⟨_, rfl, by rw [add_none, M.cell .here, Nat.zero_add, List.getElem?_toArray]⟩, [.float .f32 y1], _, rfl, ⟨y1, rfl, k1⟩, [.float .f32 y2], _, rfl, ⟨y2, rfl, k2⟩, [.float .f32 y3], [], rfl, ⟨y3, rfl, k3⟩, rfl⟩
    refine goX (samplesText_c SF (by decide) (T.ext x3).br) fun h4 x4 => as_s ?_
    have X4 := x3.trans x4
    have p0 := pline0_eq x
    have l0 : (pline0 x).length ≤ 50 := by
      rw [p0]
      simp only [List.length_append, List.length_cons, List.length_nil] at s0 ⊢
      have : pipeW.length = 4 := rfl
      omega
    rw [mkB_app, ← p0, mkB_app]
    have sc : scatW.length = 7 := rfl
    refine ⟨by simp only [mk_size, List.length_append, List.length_cons] at *; rw [p0] at l0; simp only [List.length_append, List.length_cons] at l0; omega, by simp only [mk_size, List.length_append, List.length_cons]; omega, ?_⟩
    refine (R.ext X4).oL (off := 2) fun b l c S => ?_
    have hl : x.Scatter.length = l := S.len
    have hsc : ∀ i, i ≤ l → (wordsL (scatW :: (x.Scatter.take i).map bitL)).length ≤ 7 + 9 * i := by
      intro i hi
      induction i with
      | zero => simp [words_one, sc]
      | succ i ih =>
        rw [take_snoc (by omega), List.map_append, ← List.cons_append]
        show (wordsL (scatW :: (x.Scatter.take i).map bitL ++ [bitL x.Scatter[i]!])).length ≤ _
        rw [words_snoc]
        have b8 := bitL_len (A.s _ (mem_get (l := x.Scatter) (i := i) (by omega))).lt
        have := ih (by omega)
        simp only [List.length_append, List.length_cons]
        omega
    refine loop (fun y hh => ∃ i : Nat, y = (⟨g, 0, none⟩, mkB (pline0 x ++ 10 :: wordsL (scatW :: (x.Scatter.take i).map bitL)), b, l, c, (l : Int), (i : Int)) ∧ i ≤ l ∧ Ext h4 hh) (fun y => ((l : Int) - y.2.2.2.2.2.2).toNat)
      ⟨0, by rw [List.take_zero, List.map_nil, words_one]; rfl, by omega, Ext.refl _⟩ ?_
    rintro y hh ⟨i, rfl, hi, X⟩
    have hi' := hsc i hi
    refine brd (fun hc => ?_) fun hc => ?_
    · refine (S.ext X).idx (by decide) (by omega) (by omega) fun p Rp => Rp.oF1 fun w hw => goE X (bitsText_c hw (T.ext (X4.trans X)).br) fun h6 x6 => as_s ?_
      rw [Int.toNat_natCast] at hw ⊢
      have b8 := bitL_len (A.s _ (mem_get (l := x.Scatter) (i := i) (by omega))).lt
      rw [e32, mkB_app, mkB_app]
      refine ⟨by simp only [mk_size, List.length_append, List.length_cons, List.length_nil]; omega, by simp only [mk_size, List.length_append, List.length_cons, List.length_nil]; omega, ⟨i + 1, ?_, by omega, x6⟩, by rw [wrap64_succ (by omega)]; show _ < _; simp; omega⟩
      rw [wrap64_succ (by omega), take_snoc (l := x.Scatter) (by omega), List.map_append, ← List.cons_append]
      show _ = (_, mkB (_ ++ 10 :: wordsL (scatW :: (x.Scatter.take i).map bitL ++ [bitL x.Scatter[i]!])), _)
      rw [words_snoc]
      simp
    obtain rfl : i = l := by omega
    rw [List.take_of_length_le (l := x.Scatter) (by omega)] at hi' ⊢
    refine (R.ext (X4.trans X)).lda foc_Pipe_End rfl fun ct Rt => goE X (FilterText_c Rt A.eo A.e (T.ext (X4.trans X))) fun h6 x6 => as_s ?_
    have X6 := X4.trans x6
    rw [e10, mkB_app, mkB_app, mkB_app]
    refine ⟨by simp only [mk_size, List.length_append, List.length_cons, List.length_nil]; omega, by simp only [mk_size, List.length_append, List.length_cons, List.length_nil]; omega, by simp only [mk_size, List.length_append, List.length_cons, List.length_nil]; omega, ?_⟩
    obtain ⟨T0, hT0⟩ : ∃ t, t = linL [pline0 x, wordsL (scatW :: x.Scatter.map bitL), x.End.line] := ⟨_, rfl⟩
    have eT : pline0 x ++ 10 :: wordsL (scatW :: x.Scatter.map bitL) ++ ([10] ++ x.End.line ++ [10]) = T0 := by rw [hT0]; simp [linL]
    have lT : T0.length ≤ 300 := by
      rw [← eT]; simp only [List.length_append, List.length_cons, List.length_nil]; omega
    rw [eT]
    refine (rP_c (R.ext X6) Ru).mono ?_
    rintro _ h8 ⟨b2, l2, c2, B, ps, rfl, O, M, H⟩
    have S2 := O.look M (List.Sublist.refl _)
    have H := H.ext M.ext
    have X8 := X6.trans M.ext
    have hl2 := S2.len
    have hlr := H.1
    have hlr2 := hlr
    rw [twoR_len] at hlr2
    have RA : ∀ r ∈ twoR x.Right x.Left x.Right.length, RingA r := fun r hr => (twoR_mem _ (Nat.le_refl _) (by rw [A.nl]; exact Nat.le_refl _) r hr).elim (A.r r) (A.l r)
    have eL : linL x.lines = T0 ++ linL ((twoR x.Right x.Left x.Right.length).map GRing.line) := by
      rw [← duo_two A.nl _ (Nat.le_refl _), List.take_length, ← A.nl, List.take_length, hT0, ← lin_app]
      rfl
    refine as_l (loop (fun y hh => ∃ i : Nat, y = (mkB (T0 ++ linL (((twoR x.Right x.Left x.Right.length).take i).map GRing.line)), b2, l2, c2, (l2 : Int), (i : Int)) ∧ i ≤ l2 ∧ Ext h8 hh) (fun y => ((l2 : Int) - y.2.2.2.2.2).toNat)
      ⟨0, by rw [List.take_zero, List.map_nil]; simp [linL], by omega, Ext.refl _⟩ ?_)
    rintro y hh ⟨j, rfl, hj, Y⟩
    have lS : (linL (((twoR x.Right x.Left x.Right.length).take j).map GRing.line)).length ≤ 9301 * j := by
      refine Nat.le_trans (lin_size (k := 9300) fun l hl => ?_) (by rw [List.length_map, List.length_take]; omega)
      obtain ⟨r, hr, rfl⟩ := List.mem_map.1 hl
      exact (RA r (List.mem_of_mem_take hr)).b.size
    refine brd (fun hc => ?_) fun hc => ?_
    · refine (S2.ext Y).idx (by decide) (by omega) (by omega) fun p Rp => Rp.oP1 ?_
      rw [Int.toNat_natCast]
      obtain ⟨Rr, ok⟩ := H.2 j (by omega)
      have ra := RA _ (mem_get (l := twoR x.Right x.Left x.Right.length) (i := j) (by omega))
      have rs := ra.b.size
      refine (Rr.ext Y).lda1 rfl fun cr Rc => goE Y (ringText_c Rc ra (T.ext (X8.trans Y))) fun h9 x9 => as_s ?_
      rw [e10, mkB_app, mkB_app]
      refine ⟨by simp only [mk_size, List.length_append, List.length_cons, List.length_nil]; omega, by simp only [mk_size, List.length_append, List.length_cons, List.length_nil]; omega, ⟨j + 1, ?_, by omega, x9⟩, by rw [wrap64_succ (by omega)]; show _ < _; simp; omega⟩
      rw [wrap64_succ (by omega), take_snoc (l := twoR x.Right x.Left x.Right.length) (by omega), List.map_append, lin_app]
      simp [linL]
    obtain rfl : j = l2 := by omega
    refine ⟨?_, X0.trans (X8.trans Y)⟩
    rw [List.take_of_length_le (by omega), eL]
  refine br_f rfl (R.oB2 (br (fun hb => ?_) fun hb => ?_))
  · have : pkind x = openW := by unfold pkind; rw [show x.Open = true from hb]; rfl
    rw [this] at key
    exact key
  · have : pkind x = closW := by unfold pkind; rw [show x.Open = false from hb]; rfl
    rw [this] at key
    exact key
end
end Go.Sx
/- What functions of this seat's program compute, told in words (a predicate over heaps for each), and the proofs that the words are no more than the code's own weakest precondition. -/
namespace Go.Sx
open Go.Proofs
set_option linter.unusedVariables false
set_option maxRecDepth 100000

def impl_BowText.S (x_0 : Array Value) (Post : Value → Heap → Prop) (h : Heap) : Prop :=
    ALC x_0 T_impl_Bow (fun g1 h2 =>
    LDA 12 h2 ⟨g1, 0, none⟩ fun a3 =>
    CALL prg f_impl_ValidBow #[.agg a3] (fun q4 h5 =>
    asB q4 fun b6 =>
    BIF (!b6) (
    Post (.string (⟨#[]⟩ : ByteArray)) h5) (
    oF .f32 (cell h5 ⟨g1, 10, none⟩) fun r7 =>
    oF .f32 (cell h5 ⟨g1, 11, none⟩) fun r8 =>
    LDA 6 h5 ⟨g1, 4, none⟩ fun a9 =>
    LDA 2 h5 ⟨g1, 0, none⟩ fun a10 =>
    LDA 2 h5 ⟨g1, 2, none⟩ fun a11 =>
    ALC ⟨[.float .f32 r7, .float .f32 r8]⟩ T_float32 (fun g12 h13 =>
    PIN h5 ⟨g1, 2, none⟩ 2 h13 <|
    PIN h5 ⟨g1, 0, none⟩ 2 h13 <|
    PIN h5 ⟨g1, 4, none⟩ 6 h13 <|
    CALL prg f_impl_samplesText #[.slice (some ⟨g12, 0, none⟩) 2 2] (fun q14 h15 =>
    asS q14 fun s16 =>
    PIN h5 ⟨g1, 2, none⟩ 2 h15 <|
    PIN h5 ⟨g1, 0, none⟩ 2 h15 <|
    PIN h5 ⟨g1, 4, none⟩ 6 h15 <|
    ((ByteArray.size (⟨#[98, 111, 119, 32]⟩ : ByteArray) + ByteArray.size s16 : Nat) : Int) ≤ 9223372036854775807 ∧ (
    ((ByteArray.size ((⟨#[98, 111, 119, 32]⟩ : ByteArray) ++ s16) + ByteArray.size (⟨#[10]⟩ : ByteArray) : Nat) : Int) ≤ 9223372036854775807 ∧ (
    CALL prg f_impl_FilterText #[.agg a9] (fun q17 h18 =>
    asS q17 fun s19 =>
    PIN h5 ⟨g1, 2, none⟩ 2 h18 <|
    PIN h5 ⟨g1, 0, none⟩ 2 h18 <|
    ((ByteArray.size ((((⟨#[98, 111, 119, 32]⟩ : ByteArray) ++ s16) ++ (⟨#[10]⟩ : ByteArray))) + ByteArray.size s19 : Nat) : Int) ≤ 9223372036854775807 ∧ (
    ((ByteArray.size (((((⟨#[98, 111, 119, 32]⟩ : ByteArray) ++ s16) ++ (⟨#[10]⟩ : ByteArray)) ++ s19)) + ByteArray.size (⟨#[10]⟩ : ByteArray) : Nat) : Int) ≤ 9223372036854775807 ∧ (
    CALL prg f_impl_ringText #[.agg a10] (fun q20 h21 =>
    asS q20 fun s22 =>
    PIN h5 ⟨g1, 2, none⟩ 2 h21 <|
    ((ByteArray.size ((((((⟨#[98, 111, 119, 32]⟩ : ByteArray) ++ s16) ++ (⟨#[10]⟩ : ByteArray)) ++ s19) ++ (⟨#[10]⟩ : ByteArray))) + ByteArray.size s22 : Nat) : Int) ≤ 9223372036854775807 ∧ (
    ((ByteArray.size (((((((⟨#[98, 111, 119, 32]⟩ : ByteArray) ++ s16) ++ (⟨#[10]⟩ : ByteArray)) ++ s19) ++ (⟨#[10]⟩ : ByteArray)) ++ s22)) + ByteArray.size (⟨#[10]⟩ : ByteArray) : Nat) : Int) ≤ 9223372036854775807 ∧ (
    CALL prg f_impl_ringText #[.agg a11] (fun q23 h24 =>
    asS q23 fun s25 =>
    ((ByteArray.size ((((((((⟨#[98, 111, 119, 32]⟩ : ByteArray) ++ s16) ++ (⟨#[10]⟩ : ByteArray)) ++ s19) ++ (⟨#[10]⟩ : ByteArray)) ++ s22) ++ (⟨#[10]⟩ : ByteArray))) + ByteArray.size s25 : Nat) : Int) ≤ 9223372036854775807 ∧ (
    ((ByteArray.size (((((((((⟨#[98, 111, 119, 32]⟩ : ByteArray) ++ s16) ++ (⟨#[10]⟩ : ByteArray)) ++ s19) ++ (⟨#[10]⟩ : ByteArray)) ++ s22) ++ (⟨#[10]⟩ : ByteArray)) ++ s25)) + ByteArray.size (⟨#[10]⟩ : ByteArray) : Nat) : Int) ≤ 9223372036854775807 ∧ (
    Post (.string ((((((((((⟨#[98, 111, 119, 32]⟩ : ByteArray) ++ s16) ++ (⟨#[10]⟩ : ByteArray)) ++ s19) ++ (⟨#[10]⟩ : ByteArray)) ++ s22) ++ (⟨#[10]⟩ : ByteArray)) ++ s25) ++ (⟨#[10]⟩ : ByteArray)))) h24))) h21))) h18))) h15))) h13) h5)) h2) h
noncomputable def impl_BowText.code : Code := (Tryz.f77.body).getD .skip
theorem impl_BowText.call {x_0 : Array Value} {Post : Value → Heap → Prop} {h : Heap} (H : impl_BowText.S x_0 Post h) : CALL prg f_impl_BowText #[.agg x_0] Post h :=
  fn_call tau_ok mixed (c := impl_BowText.code) (Λ := lookL []) Tryz.func77 (by kernel_rfl) (by kernel_rfl)
    (Rq.free (by kernel_rfl))
    (Eq.mp (by kernel_rfl) H)

end Go.Sx
/- Bows told and read. -/
set_option linter.unusedVariables false
set_option linter.unusedSimpArgs false
namespace Go.Sx
open Go.Proofs
set_option maxRecDepth 100000
set_option maxHeartbeats 2000000

section
variable {h0 h : Heap} {L : List Blk}
theorem BowText_c {cs : Array Value} {x : GBow} (R0 : rBow.rd h cs.toList x) (hok : x.ok = true) (T : TxW h) : CALL prg f_impl_BowText #[.agg cs] (fun u h' => u = .string (mkB (linL x.lines)) ∧ Ext h h') h := by
  refine impl_BowText.call (alcR R0 fun g h1 x1 R => R.lda1 rfl fun c1 R1 => goX (ValidBow_c R1) fun h2 x2 => as_b ?_)
  rw [hok]
  have R := R.ext x2
  have A := bow_a R hok
  have T := T.ext (x1.trans x2)
  have X0 := x1.trans x2
  have s1 := A.s.b
  have s1 := smp_le s1
  have s2 := A.d.b.size
  have s4 := A.n.b.size
  have s5 := A.b.b.size
  simp only [List.length_cons, List.length_nil] at s1
  have fl : x.Damp.ok = true := by
    unfold GBow.ok at hok
    simp only [Bool.and_eq_true] at hok
    exact hok.1.2.1
  refine br_f rfl (R.oF2 fun y hy => R.oF2 fun z hz => R.lda2 foc_Bow_Damp rfl fun cl Rl => (R.fst foc_Bow_Neck).lda1 rfl fun ct Rt => R.lda2 foc_Bow_Bridge rfl fun cb Rb => ?_)
  have PN : ∀ (off n : Nat) {hh : Heap} {p : Prop}, off + n ≤ rBow.sz → Ext h2 hh → p → PIN h2 ⟨g, off, none⟩ n hh p := fun off n {hh p} hj X H => by
    have q1 := R.pinO (off := off) (n := n) hj X H
    rwa [add_g] at q1
  refine (Mem.start h2).alc fun g13 h3 x3 M => PN 2 2 (by decide) M.ext (PN 0 2 (by decide) M.ext (PN 4 6 (by decide) M.ext ?_))
  refine goM M (samplesText_c (two_slr M .here hy hz) (by decide) (T.ext M.ext).br) fun h4 M => as_s (PN 2 2 (by decide) M.ext (PN 0 2 (by decide) M.ext (PN 4 6 (by decide) M.ext ?_)))
  refine ⟨by simp only [ba_len, mk_size, List.length_cons, List.length_nil]; omega, by simp only [ba_len, mk_size, List.length_cons, List.length_nil]; omega, ?_⟩
  refine goM M (FilterText_c (rFilter.ext M.ext Rl) fl A.d (T.ext M.ext)) fun h5 M => as_s (PN 2 2 (by decide) M.ext (PN 0 2 (by decide) M.ext ?_))
  refine ⟨by simp only [ba_len, mk_size, List.length_cons, List.length_nil]; omega, by simp only [ba_len, mk_size, List.length_cons, List.length_nil]; omega, ?_⟩
  refine goM M (ringText_c (rRing.ext M.ext Rt) A.n (T.ext M.ext)) fun h7 M => as_s (PN 2 2 (by decide) M.ext ?_)
  refine ⟨by simp only [ba_len, mk_size, List.length_cons, List.length_nil]; omega, by simp only [ba_len, mk_size, List.length_cons, List.length_nil]; omega, ?_⟩
  refine goM M (ringText_c (rRing.ext M.ext Rb) A.b (T.ext M.ext)) fun h8 M => as_s ?_
  refine ⟨by simp only [ba_len, mk_size, List.length_cons, List.length_nil]; omega, by simp only [ba_len, mk_size, List.length_cons, List.length_nil]; omega, ?_, X0.trans M.ext⟩
  have e10 : (⟨#[10]⟩ : ByteArray) = mkB [10] := rfl
  have e4 : (⟨#[98, 111, 119, 32]⟩ : ByteArray) = mkB (bowW ++ [32]) := rfl
  rw [e10, e4]
  simp only [mkB_app, List.append_assoc]
  unfold GBow.lines headL
  simp [linL]
end
end Go.Sx
