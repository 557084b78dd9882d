/- What functions of this seat's program compute, told in words (a predicate over heaps for each), and the proofs that the words are no more than the code's own weakest precondition. -/
import Derived.Test.YtgbjfohgmpmjoaaGreatDoorTab
import Derived.Test.YtgbjfohgmpmjoaaGreatDoorLm16
namespace Go.Sx
open Go.Proofs
set_option linter.unusedVariables false
set_option maxRecDepth 100000

def spec_l03Drawn.B10 (Post : Value → Heap → Prop) (N10 : (Addr × Addr × Addr × Int) → Heap → Prop) : Addr × Addr × Addr × Int → Heap → Prop
  | (s_0, t2, x_3, k_6), h =>
    BIF ((decide ((0 : Int) < k_6))) (
    CALL prg f_spec_l01Plain #[.pointer (some s_0)] (fun q46 h47 =>
    asF .f32 q46 fun r48 =>
    CALL prg f_spec_l03Step #[.pointer (some x_3), .float .f32 r48] (fun q49 h50 =>
    asF .f32 q49 fun r51 =>
    N10 (s_0, t2, x_3, ((IntKind.i64.wrap (k_6 - (1 : Int))))) h50) h47) h) (
    LDA 15 h x_3 fun a52 =>
    STA 15 h t2 a52 fun h53 =>
    LDA 15 h53 t2 fun a54 =>
    Post (.agg a54) h53)
def spec_l03Drawn.g10 (fr : Frame) : Addr × Addr × Addr × Int := ((gP (lget fr 0)), (gP (lget fr 2)), (gP (lget fr 3)), (gI (lget fr 6)))
def spec_l03Drawn.l10 (Post : Value → Heap → Prop) : Frame → Heap → Prop := fun fr h => GRD (shape (kds 57 [(0, .p), (2, .p), (3, .p), (6, .i .i64)]) fr) (LOOP (spec_l03Drawn.B10 Post) (spec_l03Drawn.g10 fr) h)
def spec_l03Drawn.B5 (Post : Value → Heap → Prop) (N5 : (Addr × Addr × Addr × Int) → Heap → Prop) : Addr × Addr × Addr × Int → Heap → Prop
  | (s_0, t2, x_3, i_5), h =>
    oL (cell h x_3) fun l31b l31l l31c =>
    BIF ((decide (i_5 < (l31l : Int)))) (
    CALL prg f_p_spec_l00Src_one #[.pointer (some s_0), .int .i64 (2 : Int)] (fun q34 h35 =>
    asB q34 fun b36 =>
    BIF b36 (
    oL (cell h35 x_3) fun l37b l37l l37c =>
    CALL prg f_spec_l01Plain #[.pointer (some s_0)] (fun q38 h39 =>
    asF .f32 q38 fun r40 =>
    PIN h35 x_3 1 h39 <|
    IDXS l37b i_5 l37l fun p41 =>
    ST1 h39 ((Addr.add p41 ((Int.toNat i_5) * 1))) (.float .f32 r40) fun h42 =>
    N5 (s_0, t2, x_3, ((IntKind.i64.wrap (i_5 + (1 : Int))))) h42) h35) (
    N5 (s_0, t2, x_3, ((IntKind.i64.wrap (i_5 + (1 : Int))))) h35)) h) (
    CALL prg f_p_spec_l00Src_pick #[.pointer (some s_0), .int .i64 (6 : Int)] (fun q43 h44 =>
    asI .i64 q43 fun n45 =>
    LOOP (spec_l03Drawn.B10 Post) (s_0, t2, x_3, n45) h44) h)
def spec_l03Drawn.g5 (fr : Frame) : Addr × Addr × Addr × Int := ((gP (lget fr 0)), (gP (lget fr 2)), (gP (lget fr 3)), (gI (lget fr 5)))
def spec_l03Drawn.l5 (Post : Value → Heap → Prop) : Frame → Heap → Prop := fun fr h => GRD (shape (kds 57 [(0, .p), (2, .p), (3, .p), (5, .i .i64)]) fr) (LOOP (spec_l03Drawn.B5 Post) (spec_l03Drawn.g5 fr) h)
def spec_l03Drawn.J4 (Post : Value → Heap → Prop) (s_0 : Addr) (t2 : Addr) (x_3 : Addr) (h : Heap) : Prop :=
    LOOP (spec_l03Drawn.B5 Post) (s_0, t2, x_3, (0 : Int)) h
def spec_l03Drawn.j4 (Post : Value → Heap → Prop) : Frame → Heap → Prop := fun fr h => GRD (shape (kds 57 [(0, .p), (2, .p), (3, .p)]) fr) (spec_l03Drawn.J4 Post (gP (lget fr 0)) (gP (lget fr 2)) (gP (lget fr 3)) h)
def spec_l03Drawn.S (s_0 : Addr) (Post : Value → Heap → Prop) (h : Heap) : Prop :=
    ALC ⟨Z_impl_String⟩ T_impl_String (fun g1 h2 =>
    CALL prg f_p_spec_l00Src_pick #[.pointer (some s_0), .int .i64 (80 : Int)] (fun q3 h4 =>
    asI .i64 q3 fun n5 =>
    FOP .f32 (FloatKind.f32.format.div ((FloatKind.f32.nearest ((IntKind.i64.wrap ((24 : Int) + n5))))) 1090519040) fun r6 =>
    CALL prg f_p_spec_l00Src_pick #[.pointer (some s_0), .int .i64 (33 : Int)] (fun q7 h8 =>
    asI .i64 q7 fun n9 =>
    FOP .f32 (FloatKind.f32.format.div (FloatKind.f32.nearest n9) 1115684864) fun r10 =>
    CALL prg f_p_spec_l00Src_pick #[.pointer (some s_0), .int .i64 (65 : Int)] (fun q11 h12 =>
    asI .i64 q11 fun n13 =>
    FOP .f32 (FloatKind.f32.format.div (FloatKind.f32.nearest n13) 1115684864) fun r14 =>
    CALL prg f_spec_NewString #[.float .f32 r6, .float .f32 r10, .float .f32 r14] (fun q15 h16 =>
    TUP2 q15 fun q17 q18 =>
    asA q17 fun a19 =>
    asI .i64 q18 fun n20 =>
    ALC ⟨Z_impl_String⟩ T_impl_String (fun g21 h22 =>
    STA 15 h22 ⟨g21, 0, none⟩ a19 fun h23 =>
    BIF (n20 != (0 : Int)) (
    CALL prg f_spec_NewString #[.float .f32 1084227584, .float .f32 1048576000, .float .f32 1056964608] (fun q24 h25 =>
    TUP2 q24 fun q26 q27 =>
    asA q26 fun a28 =>
    asI .i64 q27 fun n29 =>
    STA 15 h25 ⟨g21, 0, none⟩ a28 fun h30 =>
    spec_l03Drawn.J4 Post s_0 ⟨g1, 0, none⟩ ⟨g21, 0, none⟩ h30) h23) (
    spec_l03Drawn.J4 Post s_0 ⟨g1, 0, none⟩ ⟨g21, 0, none⟩ h23)) h16) h12) h8) h4) h2) h
noncomputable def spec_l03Drawn.code : Code := (Tryz.f52.body).getD .skip
theorem spec_l03Drawn.call {s_0 : Addr} {Post : Value → Heap → Prop} {h : Heap} (H : spec_l03Drawn.S s_0 Post h) : CALL prg f_spec_l03Drawn #[.pointer (some s_0)] Post h :=
  fn_call tau_ok mixed (c := spec_l03Drawn.code) (Λ := lookL [(4, spec_l03Drawn.j4 Post), (1000005, spec_l03Drawn.l5 Post), (1000010, spec_l03Drawn.l10 Post)]) Tryz.func52 (by kernel_rfl) (by kernel_rfl)
    (Rq.seq (by kernel_rfl) (Rq.free (by kernel_rfl)) (Rq.seq (by kernel_rfl) (Rq.free (by kernel_rfl)) (Rq.seqJ (spec_l03Drawn.j4 Post) (by kernel_rfl) (seg (fun _ _ => by kernel_rfl)) (Rq.free (by kernel_rfl))
(Rq.seq (by kernel_rfl) (Rq.seq (by kernel_rfl) (Rq.free (by kernel_rfl)) (Rq.block (Rq.loop (spec_l03Drawn.l5 Post) (by kernel_rfl) (segL (g := spec_l03Drawn.g5) tau_ok mixed (Λ := fun N5 => lookL []) (fun _ _ _ => by kernel_rfl) (fun N5 => (Rq.free (by kernel_rfl))))))) (Rq.seq (by kernel_rfl) (Rq.seq (by kernel_rfl) (Rq.free (by kernel_rfl)) (Rq.block (Rq.loop (spec_l03Drawn.l10 Post) (by kernel_rfl) (segL (g := spec_l03Drawn.g10) tau_ok mixed (Λ := fun N10 => lookL []) (fun _ _ _ => by kernel_rfl) (fun N10 => (Rq.free (by kernel_rfl))))))) (Rq.free (by kernel_rfl)))))))
    (Eq.mp (by kernel_rfl) H)

def spec_A2String.S (code_0b : Option Addr) (code_0l code_0c : Nat) (Post : Value → Heap → Prop) (h : Heap) : Prop :=
    ALC ⟨Z_impl_String⟩ T_impl_String (fun g1 h2 =>
    CALL prg f_spec_l00From #[.slice code_0b code_0l code_0c] (fun q3 h4 =>
    asP q3 fun p5 =>
    CALL prg f_spec_l03Drawn #[.pointer (some p5)] (fun q6 h7 =>
    asA q6 fun a8 =>
    STA 15 h7 ⟨g1, 0, none⟩ a8 fun h9 =>
    LDA 15 h9 ⟨g1, 0, none⟩ fun a10 =>
    Post (.agg a10) h9) h4) h2) h
noncomputable def spec_A2String.code : Code := (Tryz.f19.body).getD .skip
theorem spec_A2String.call {code_0b : Option Addr} {code_0l code_0c : Nat} {Post : Value → Heap → Prop} {h : Heap} (H : spec_A2String.S code_0b code_0l code_0c Post h) : CALL prg f_spec_A2String #[.slice code_0b code_0l code_0c] Post h :=
  fn_call tau_ok mixed (c := spec_A2String.code) (Λ := lookL []) Tryz.func19 (by kernel_rfl) (by kernel_rfl)
    (Rq.free (by kernel_rfl))
    (Eq.mp (by kernel_rfl) H)

end Go.Sx
/- Strings drawn are valid. -/
set_option linter.unusedVariables false
set_option linter.unusedSimpArgs false
namespace Go.Sx
open Go.Proofs Ieee
set_option maxRecDepth 100000
set_option maxHeartbeats 1000000

section
variable {h0 h : Heap} {L : List Blk} {g : Nat} {cb : Option Addr} {cc K : Nat} {xs : List Int}
theorem l03Drawn_c (S : Src h0 h L g cb xs.length cc 0) (C : Cells h0 cb (iv .u8 xs)) (hb : Byt' xs) : CALL prg f_spec_l03Drawn #[.pointer (some ⟨g, 0, none⟩)] (fun u h' => Drawn rString GString.ok h0 h' L u) h := by
  refine spec_l03Drawn.call (S.alc fun t h1 S => (pick_c S C hb (by omega)).mono ?_)
  rintro _ h2 ⟨v, rfl, v1, v2, v3, S⟩
  refine as_i ?_
  rw [wrap64 (n := 24 + v) (by omega) (by omega)]
  refine fD (fw_nearest .f32 (24 + v)) (fw_c32 (by decide) (by decide)) fun r6 k6 => (pick_c S C hb (by omega)).mono ?_
  rintro _ h3 ⟨n, rfl, n1, n2, n3, S⟩
  refine as_i (fD (fw_nearest .f32 n) (fw_c32 (by decide) (by decide)) fun r10 k10 => (pick_c S C hb (by omega)).mono ?_)
  rintro _ h4 ⟨l, rfl, l1, l2, l3, S⟩
  refine as_i (fD (fw_nearest .f32 l) (fw_c32 (by decide) (by decide)) fun r14 k14 => ?_)
  have k6 : FW .f32 r6 (pitW (24 + v)) := k6
  have k10 : FW .f32 r10 (s64 n) := k10
  have k14 : FW .f32 r14 (s64 l) := k14
  obtain ⟨e, hok⟩ := new_ok (v := 24 + v) (n := n) (l := l) (by omega) (by omega) n1 (by omega) l1 (by omega)
  have NS := spec_NewString_c (h := h4) k6 k10 k14
  rw [e] at NS
  refine NS.mono ?_
  rintro _ h5 ⟨cs, B, rfl, O, N⟩
  refine tup2 (as_a (as_i ((S.joinG N).alc fun r h6 S => S.sta (osz O rfl) (rString.oone O) rfl fun h7 S => br_f rfl ?_)))
  unfold spec_l03Drawn.J4
  refine loop (fun y hh => ∃ (i : Nat) (x : GString), y = (⟨g, 0, none⟩, ⟨t, 0, none⟩, ⟨r, 0, none⟩, (i : Int)) ∧ i ≤ x.Loop.Samples.length ∧ x.Loop.Samples.length = (strOf (pitW (24 + v)) (s64 n) (s64 l)).Loop.Samples.length ∧ x.ok = true ∧ DG rString T_impl_String h0 hh ((t, T_impl_String, ⟨Z_impl_String⟩) :: L) g cb xs.length cc (6 + 4 * i) r x) (fun y => ((strOf (pitW (24 + v)) (s64 n) (s64 l)).Loop.Samples.length - y.2.2.2).toNat)
    ⟨0, _, rfl, by omega, rfl, hok, cs, B, O, S.mono (by omega)⟩ ?_
  have small := at_lt (str_loop hok)
  rintro y hh ⟨i, x, rfl, hi, hlen, hx, D⟩
  obtain ⟨p, st, hp, P⟩ := DG.pt D
  refine P.rd.oL1 fun b1 l1' c1 S1 => ?_
  have hl1 : x.Loop.Samples.length = l1' := S1.len
  refine brd (fun hc => ?_) fun hc => ?_
  · obtain ⟨cs', B', O', S'⟩ := DG.of (K := 6 + 4 * i) (by omega) P
    refine (one_c S' C hb (by omega)).mono ?_
    rintro _ h8 ⟨b, rfl, S'⟩
    refine as_b (br (fun _ => ?_) fun _ => ⟨⟨i + 1, x, by rw [wrap64_succ (by omega)], by omega, hlen, hx, cs', B', O', S'.mono (by omega)⟩, by rw [wrap64_succ (by omega)]; show _ < _; simp; omega⟩)
    obtain ⟨p, st, hp, M⟩ := S'
    obtain ⟨b2, l2, c2, u1, u2, z, e, S2, _, _, _⟩ := string_cells (rString.look O' M ((List.sublist_append_left _ _).trans ((List.sublist_cons_self _ _).trans (List.sublist_cons_self _ _))))
    subst e
    have hl2 : x.Loop.Samples.length = l2 := S2.len
    refine M.oL (.there .here) rfl ?_
    refine (l01Plain_c ⟨p, st, hp, M⟩ C hb (by omega)).mono ?_
    rintro _ h9 ⟨y, w, rfl, w1, w2, hy, p', st', hp', M9⟩
    refine as_f (M.pin2 (.there .here) M9 (.there .here) ?_)
    have P : Pt rString h0 h9 ⟨r, 0, none⟩ ⟨r, T_impl_String, [], []⟩ ((g, T_spec_l00Src, ⟨[.slice cb xs.length cc, .int .i64 (p' : Int), .int .u64 st']⟩) :: (t, T_impl_String, ⟨Z_impl_String⟩) :: L) x := Pt.new O' (M9.cnt fun p => by simp only [cnt_app, cnt_cons, cnt_nil]; omega)
    have hb9 : cell h9 ((⟨r, 0, none⟩ : Addr).add 0) = some (.slice b2 l2 c2) := by rw [add0, M9.cell (.there .here)]; rfl
    obtain ⟨a0, F', C', rfl, P', close⟩ := P.elemX (off := 0) hb9 (i := i) (by omega)
    refine idxs (by omega) (by omega) ?_
    rw [Int.toNat_natCast]
    have P' : Pt (rF .f32) h0 h9 (a0.add (i * 1)) F' (C' ++ _) _ := P'
    refine P'.stF0 hy fun h10 P8 => ?_
    obtain ⟨P9, _⟩ := close _ _ _ _ P8
    have hlen' : (x.Loop.Samples.set i (plainW w)).length = x.Loop.Samples.length := List.length_set ..
    exact ⟨⟨i + 1, _, by rw [wrap64_succ (by omega)], by show i + 1 ≤ (x.Loop.Samples.set i (plainW w)).length; omega, by show (x.Loop.Samples.set i (plainW w)).length = _; omega, set_str_ok hx, DG.of (by omega) P9⟩, by rw [wrap64_succ (by omega)]; show _ < _; simp; omega⟩
  obtain ⟨cs, B, O, S⟩ := DG.of (K := 6 + 4 * i) (by omega) P
  refine (pick_c S C hb (by omega)).mono ?_
  rintro _ h10 ⟨j, rfl, j1, j2, j3, S⟩
  refine as_i ?_
  refine loop (fun y hh => ∃ (k : Int) (x : GString), y = (⟨g, 0, none⟩, ⟨t, 0, none⟩, ⟨r, 0, none⟩, k) ∧ 0 ≤ k ∧ k ≤ j ∧ x.ok = true ∧ DG rString T_impl_String h0 hh ((t, T_impl_String, ⟨Z_impl_String⟩) :: L) g cb xs.length cc (6 + 4 * i + 40 - 2 * k.toNat) r x) (fun y => y.2.2.2.toNat)
    ⟨j, x, rfl, j1, by omega, hx, cs, B, O, S.mono (by omega)⟩ ?_
  rintro y hh ⟨k, x, rfl, hk, hkj, hx, D⟩
  refine brd (fun hc => ?_) fun hc => ?_
  · obtain ⟨cs, B, O, S⟩ := D
    refine (l01Plain_c S C hb (by omega)).mono ?_
    rintro _ h3 ⟨y, u, rfl, u1, u2, hy, S⟩
    obtain ⟨p, st, hp, P⟩ := DG.pt ⟨cs, B, O, S⟩
    refine as_f ((l03Step_c P (str_loop hx) hy).mono ?_)
    rintro _ h4 ⟨⟨z, rfl, hz⟩, P⟩
    exact as_f ⟨⟨k - 1, _, by rw [wrap64 (n := k - 1) (by omega) (by omega)], by omega, by omega, str_step_ok hx, DG.of (by omega) P⟩, by rw [wrap64 (n := k - 1) (by omega) (by omega)]; show (k - 1).toNat < k.toNat; omega⟩
  obtain ⟨cs, B, O, S⟩ := D
  have M := S.mem
  refine M.lda0 .here (osz O rfl) ?_
  have M := M.cnt (W := (t, T_impl_String, ⟨Z_impl_String⟩) :: (B ++ L)) (fun p => by simp only [cnt_app, cnt_cons, cnt_nil] at *; omega)
  exact M.sta0 .here (osz O rfl) (rString.oone O) rfl .here fun h3 M => M.lda0 .here (osz O rfl) ⟨_, B, x, rfl, O, hx, M.drop⟩
theorem A2String_c (M : Mem h0 h L) (C : Cells h0 cb (iv .u8 xs)) (hb : Byt' xs) : CALL prg f_spec_A2String #[.slice cb xs.length cc] (fun u h' => Drawn rString GString.ok h0 h' L u) h := by
  refine spec_A2String.call (M.alc fun g1 h1 x1 M => (l00From_c M).mono ?_)
  rintro _ h2 ⟨g, rfl, S⟩
  refine as_p ((l03Drawn_c S C hb).mono ?_)
  rintro _ h3 ⟨cs, B, x, rfl, O, hx, M⟩
  have M := M.cnt (W := (g1, T_impl_String, ⟨Z_impl_String⟩) :: (B ++ L)) (fun p => by simp only [cnt_app, cnt_cons, cnt_nil] at *; omega)
  exact as_a (M.sta0 .here (osz O rfl) (rString.oone O) rfl .here fun h4 M => M.lda0 .here (osz O rfl) ⟨cs, B, x, rfl, O, hx, M.drop⟩)
end
end Go.Sx
