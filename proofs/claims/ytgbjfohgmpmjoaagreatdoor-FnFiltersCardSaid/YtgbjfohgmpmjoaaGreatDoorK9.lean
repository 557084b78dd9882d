/- What functions of this seat's program compute, told in words (a predicate over heaps for each), and the proofs that the words are no more than the code's own weakest precondition. -/
import Derived.Test.YtgbjfohgmpmjoaaGreatDoorTab
import Derived.Test.YtgbjfohgmpmjoaaGreatDoorLr7
import Derived.Test.YtgbjfohgmpmjoaaGreatDoorLr2
namespace Go.Sx
open Go.Proofs
set_option linter.unusedVariables false
set_option maxRecDepth 100000

def spec_AllpassFor.J3 (Post : Value → Heap → Prop) (fraction_0 : Nat) (t2 : Addr) (h : Heap) : Prop :=
    FOP .f32 (FloatKind.f32.format.sub 1065353216 fraction_0) fun r7 =>
    FOP .f32 (FloatKind.f32.format.add 1065353216 fraction_0) fun r8 =>
    FOP .f32 (FloatKind.f32.format.div r7 r8) fun r9 =>
    SIZ (Array.size (⟨[.float .f32 r9, .float .f32 0, .float .f32 0]⟩ : Array Value)) 3 <|
    STA 6 h t2 (⟨[.int .i64 (3 : Int), .float .f32 r9, .float .f32 0, .float .f32 0, .float .f32 0, .float .f32 0]⟩ : Array Value) fun h10 =>
    LDA 6 h10 t2 fun a11 =>
    Post (.tuple ⟨[.agg a11, .int .i64 (0 : Int)]⟩) h10
def spec_AllpassFor.j3 (Post : Value → Heap → Prop) : Frame → Heap → Prop := fun fr h => GRD (shape (kds 19 [(0, .f .f32), (2, .p)]) fr) (spec_AllpassFor.J3 Post (gF (lget fr 0)) (gP (lget fr 2)) h)
def spec_AllpassFor.S (fraction_0 : Nat) (Post : Value → Heap → Prop) (h : Heap) : Prop :=
    ALC ⟨Z_impl_Filter⟩ T_impl_Filter (fun g1 h2 =>
    BIF (FloatKind.f32.format.order fraction_0 0 == some .gt || FloatKind.f32.format.order fraction_0 0 == some .eq) (
    BIF (!(FloatKind.f32.format.order fraction_0 1073741824 == some .lt || FloatKind.f32.format.order fraction_0 1073741824 == some .eq)) (
    STA 6 h2 ⟨g1, 0, none⟩ (⟨[.int .i64 (0 : Int), .float .f32 0, .float .f32 0, .float .f32 0, .float .f32 0, .float .f32 0]⟩ : Array Value) fun h3 =>
    LDA 6 h3 ⟨g1, 0, none⟩ fun a4 =>
    Post (.tuple ⟨[.agg a4, .int .i64 (2 : Int)]⟩) h3) (
    spec_AllpassFor.J3 Post fraction_0 ⟨g1, 0, none⟩ h2)) (
    STA 6 h2 ⟨g1, 0, none⟩ (⟨[.int .i64 (0 : Int), .float .f32 0, .float .f32 0, .float .f32 0, .float .f32 0, .float .f32 0]⟩ : Array Value) fun h5 =>
    LDA 6 h5 ⟨g1, 0, none⟩ fun a6 =>
    Post (.tuple ⟨[.agg a6, .int .i64 (2 : Int)]⟩) h5)) h
noncomputable def spec_AllpassFor.code : Code := (Tryz.f79.body).getD .skip
theorem spec_AllpassFor.call {fraction_0 : Nat} {Post : Value → Heap → Prop} {h : Heap} (H : spec_AllpassFor.S fraction_0 Post h) : CALL prg f_spec_AllpassFor #[.float .f32 fraction_0] Post h :=
  fn_call tau_ok mixed (c := spec_AllpassFor.code) (Λ := lookL [(3, spec_AllpassFor.j3 Post)]) Tryz.func79 (by kernel_rfl) (by kernel_rfl)
    (Rq.seq (by kernel_rfl) (Rq.free (by kernel_rfl)) (Rq.seqJ (spec_AllpassFor.j3 Post) (by kernel_rfl) (seg (fun _ _ => by kernel_rfl)) (Rq.free (by kernel_rfl))
(Rq.free (by kernel_rfl))))
    (Eq.mp (by kernel_rfl) H)

def spec_OneZero.S (mix_0 : Nat) (Post : Value → Heap → Prop) (h : Heap) : Prop :=
    ALC ⟨Z_impl_Filter⟩ T_impl_Filter (fun g1 h2 =>
    FOP .f32 (FloatKind.f32.format.sub 1065353216 mix_0) fun r3 =>
    SIZ (Array.size (⟨[.float .f32 r3, .float .f32 mix_0, .float .f32 0]⟩ : Array Value)) 3 <|
    STA 6 h2 ⟨g1, 0, none⟩ (⟨[.int .i64 (2 : Int), .float .f32 r3, .float .f32 mix_0, .float .f32 0, .float .f32 0, .float .f32 0]⟩ : Array Value) fun h4 =>
    LDA 6 h4 ⟨g1, 0, none⟩ fun a5 =>
    Post (.agg a5) h4) h
noncomputable def spec_OneZero.code : Code := (Tryz.f78.body).getD .skip
theorem spec_OneZero.call {mix_0 : Nat} {Post : Value → Heap → Prop} {h : Heap} (H : spec_OneZero.S mix_0 Post h) : CALL prg f_spec_OneZero #[.float .f32 mix_0] Post h :=
  fn_call tau_ok mixed (c := spec_OneZero.code) (Λ := lookL []) Tryz.func78 (by kernel_rfl) (by kernel_rfl)
    (Rq.free (by kernel_rfl))
    (Eq.mp (by kernel_rfl) H)

def spec_OnePole.S (keep_0 : Nat) (Post : Value → Heap → Prop) (h : Heap) : Prop :=
    ALC ⟨Z_impl_Filter⟩ T_impl_Filter (fun g1 h2 =>
    FOP .f32 (FloatKind.f32.format.sub 1065353216 keep_0) fun r3 =>
    SIZ (Array.size (⟨[.float .f32 r3, .float .f32 keep_0, .float .f32 0]⟩ : Array Value)) 3 <|
    STA 6 h2 ⟨g1, 0, none⟩ (⟨[.int .i64 (1 : Int), .float .f32 r3, .float .f32 keep_0, .float .f32 0, .float .f32 0, .float .f32 0]⟩ : Array Value) fun h4 =>
    LDA 6 h4 ⟨g1, 0, none⟩ fun a5 =>
    Post (.agg a5) h4) h
noncomputable def spec_OnePole.code : Code := (Tryz.f77.body).getD .skip
theorem spec_OnePole.call {keep_0 : Nat} {Post : Value → Heap → Prop} {h : Heap} (H : spec_OnePole.S keep_0 Post h) : CALL prg f_spec_OnePole #[.float .f32 keep_0] Post h :=
  fn_call tau_ok mixed (c := spec_OnePole.code) (Λ := lookL []) Tryz.func77 (by kernel_rfl) (by kernel_rfl)
    (Rq.free (by kernel_rfl))
    (Eq.mp (by kernel_rfl) H)

end Go.Sx
/- New strings. -/
set_option linter.unusedVariables false
set_option linter.unusedSimpArgs false
namespace Go.Sx
open Go.Proofs Ieee
set_option maxRecDepth 100000
set_option maxHeartbeats 1000000

def allpassFor (f : Nat) : GFilter := if inside f 0 1073741824 then ⟨3, [fdiv .f32 (fsub .f32 1065353216 f) (fadd .f32 1065353216 f), 0, 0], [0, 0]⟩ else z_Filter
def oneZero (m : Nat) : GFilter := ⟨2, [fsub .f32 1065353216 m, m, 0], [0, 0]⟩
def onePole (k : Nat) : GFilter := ⟨1, [fsub .f32 1065353216 k, k, 0], [0, 0]⟩
def strN (p m : Nat) : Nat := if flt .f32 (fsub .f32 (fsub .f32 p m) (FloatKind.f32.nearest ((floorN (fsub .f32 p m) : Nat) : Int))) 1048576000 then floorN (fsub .f32 p m) - 1 else floorN (fsub .f32 p m)
def strOf (p m l : Nat) : GString := { Loop := ⟨List.replicate (strN p m) 0, 0⟩, Tune := allpassFor (fsub .f32 (fsub .f32 p m) (FloatKind.f32.nearest ((strN p m : Nat) : Int))), Damp := oneZero m, Loss := l }
def newString (p m l : Nat) : GString × Int := if inside p 1077936128 1149239296 then if inside m 0 1056964608 then if inside l 0 1065353216 then (strOf p m l, 0) else (z_String, 2) else (z_String, 2) else (z_String, 2)
/-- A filter's cells. -/
def flC (k : Int) (a b c d e : Nat) : List Value := [.int .i64 k, .float .f32 a, .float .f32 b, .float .f32 c, .float .f32 d, .float .f32 e]
theorem filter_ow {k : Int} {a b c d e a' b' c' d' e' : Nat} (ha : FW .f32 a a') (hb : FW .f32 b b') (hc : FW .f32 c c') (hd : FW .f32 d d') (he : FW .f32 e e') : rFilter.ow [] (flC k a b c d e) ⟨k, [a', b', c'], [d', e']⟩ :=
  ⟨[], [], [.int .i64 k], _, rfl, rfl, ⟨rfl, rfl⟩, [], [], [.float .f32 a, .float .f32 b, .float .f32 c], [.float .f32 d, .float .f32 e], rfl, rfl,
    ⟨rfl, [], [], [.float .f32 a], _, rfl, rfl, ⟨rfl, a, rfl, ha⟩, [], [], [.float .f32 b], _, rfl, rfl, ⟨rfl, b, rfl, hb⟩, [], [], [.float .f32 c], [], rfl, rfl, ⟨rfl, c, rfl, hc⟩, rfl, rfl⟩,
    ⟨rfl, [], [], [.float .f32 d], _, rfl, rfl, ⟨rfl, d, rfl, hd⟩, [], [], [.float .f32 e], [], rfl, rfl, ⟨rfl, e, rfl, he⟩, rfl, rfl⟩⟩
theorem c2 : FW .f32 1073741824 1073741824 := fw_c32 (by decide) (by decide)
theorem c3 : FW .f32 1077936128 1077936128 := fw_c32 (by decide) (by decide)
section
variable {h : Heap} {x a : Nat}
/-- What AllpassFor answers. -/
def ApR (u : Value) (f : Nat) : Prop := ∃ (k n : Int) (y : Nat), u = .tuple ⟨[.agg ⟨flC k y 0 0 0 0⟩, .int .i64 n]⟩ ∧ rFilter.ow [] (flC k y 0 0 0 0) (allpassFor f)
theorem spec_AllpassFor_c (hx : FW .f32 x a) : CALL prg f_spec_AllpassFor #[.float .f32 x] (fun u h' => ApR u a ∧ Ext h h') h := by
  refine spec_AllpassFor.call ((Mem.start h).alc fun g1 h1 x1 M => ?_)
  rw [ord_eq hx fw0, ord_eq hx c2]
  have bad : allpassFor a = z_Filter → STA 6 h1 ⟨g1, 0, none⟩ ⟨Z_impl_Filter⟩ fun h8 => LDA 6 h8 ⟨g1, 0, none⟩ fun a9 => ApR (.tuple ⟨[.agg a9, .int .i64 (2 : Int)]⟩) a ∧ Ext h h8 := fun e =>
    M.sta0 .here rfl (all_one rfl) rfl .here fun h3 M => M.lda0 .here rfl ⟨⟨0, 2, 0, rfl, by rw [e]; exact zow_Filter⟩, M.ext⟩
  refine br (fun k1 => brN (fun k2 => bad (by rw [allpassFor, inside, fge, fle, k1, k2]; rfl)) fun k2 => ?_) fun k1 => bad (by rw [allpassFor, inside, fge, k1]; rfl)
  have e : inside a 0 1073741824 = true := by rw [inside, fge, fle, k1, k2]; rfl
  unfold spec_AllpassFor.J3
  refine fS c1 hx fun r7 h7 => fA c1 hx fun r8 h8 => fD h7 h8 fun r9 h9 => siz rfl (M.sta0 .here rfl (all_one rfl) rfl .here fun h3 M => M.lda0 .here rfl ⟨⟨3, 0, r9, rfl, ?_⟩, M.ext⟩)
  rw [allpassFor, e, if_pos rfl]
  exact filter_ow h9 fw0 fw0 fw0 fw0
/-- A filter's cells that stand for one. -/
def FlR (u : Value) (f : GFilter) : Prop := ∃ (k : Int) (y z : Nat), u = .agg ⟨flC k y z 0 0 0⟩ ∧ rFilter.ow [] (flC k y z 0 0 0) f
theorem spec_OneZero_c (hx : FW .f32 x a) : CALL prg f_spec_OneZero #[.float .f32 x] (fun u h' => FlR u (oneZero a) ∧ Ext h h') h :=
  spec_OneZero.call ((Mem.start h).alc fun g1 h1 x1 M => fS c1 hx fun r3 h3 => siz rfl (M.sta0 .here rfl (all_one rfl) rfl .here fun h3' M => M.lda0 .here rfl ⟨⟨2, r3, x, rfl, filter_ow h3 hx fw0 fw0 fw0⟩, M.ext⟩))
theorem spec_OnePole_c (hx : FW .f32 x a) : CALL prg f_spec_OnePole #[.float .f32 x] (fun u h' => FlR u (onePole a) ∧ Ext h h') h :=
  spec_OnePole.call ((Mem.start h).alc fun g1 h1 x1 M => fS c1 hx fun r3 h3 => siz rfl (M.sta0 .here rfl (all_one rfl) rfl .here fun h3' M => M.lda0 .here rfl ⟨⟨1, r3, x, rfl, filter_ow h3 hx fw0 fw0 fw0⟩, M.ext⟩))
end
end Go.Sx
/- What functions of this seat's program compute, told in words (a predicate over heaps for each), and the proofs that the words are no more than the code's own weakest precondition. -/
namespace Go.Sx
open Go.Proofs
set_option linter.unusedVariables false
set_option maxRecDepth 100000

def spec_l02Same.B4 (Post : Value → Heap → Prop) (N4 : (Addr × Addr × Int) → Heap → Prop) : Addr × Addr × Int → Heap → Prop
  | (f_0, g_1, i_5), h =>
    BIF ((decide (i_5 < (3 : Int)))) (
    IDX i_5 3 <|
    oF .f32 (cell h ((Addr.add (Addr.add f_0 1) ((Int.toNat i_5) * 1)))) fun r3 =>
    IDX i_5 3 <|
    oF .f32 (cell h ((Addr.add (Addr.add g_1 1) ((Int.toNat i_5) * 1)))) fun r4 =>
    CALL prg f_spec_l01Same #[.float .f32 r3, .float .f32 r4] (fun q5 h6 =>
    asB q5 fun b7 =>
    BIF (!b7) (
    Post (.bool false) h6) (
    N4 (f_0, g_1, ((IntKind.i64.wrap (i_5 + (1 : Int))))) h6)) h) (
    IDX (0 : Int) 2 <|
    oF .f32 (cell h (Addr.add f_0 4)) fun r8 =>
    IDX (0 : Int) 2 <|
    oF .f32 (cell h (Addr.add g_1 4)) fun r9 =>
    CALL prg f_spec_l01Same #[.float .f32 r8, .float .f32 r9] (fun q10 h11 =>
    asB q10 fun b12 =>
    BIF b12 (
    IDX (1 : Int) 2 <|
    oF .f32 (cell h11 (Addr.add f_0 5)) fun r13 =>
    IDX (1 : Int) 2 <|
    oF .f32 (cell h11 (Addr.add g_1 5)) fun r14 =>
    CALL prg f_spec_l01Same #[.float .f32 r13, .float .f32 r14] (fun q15 h16 =>
    asB q15 fun b17 =>
    Post (.bool b17) h16) h11) (
    Post (.bool false) h11)) h)
def spec_l02Same.g4 (fr : Frame) : Addr × Addr × Int := ((gP (lget fr 0)), (gP (lget fr 1)), (gI (lget fr 5)))
def spec_l02Same.l4 (Post : Value → Heap → Prop) : Frame → Heap → Prop := fun fr h => GRD (shape (kds 57 [(0, .p), (1, .p), (5, .i .i64)]) fr) (LOOP (spec_l02Same.B4 Post) (spec_l02Same.g4 fr) h)
def spec_l02Same.S (f_0 : Addr) (g_1 : Addr) (Post : Value → Heap → Prop) (h : Heap) : Prop :=
    oI .i64 (cell h f_0) fun n1 =>
    oI .i64 (cell h g_1) fun n2 =>
    BIF (n1 != n2) (
    Post (.bool false) h) (
    LOOP (spec_l02Same.B4 Post) (f_0, g_1, (0 : Int)) h)
noncomputable def spec_l02Same.code : Code := (Tryz.f45.body).getD .skip
theorem spec_l02Same.call {f_0 : Addr} {g_1 : Addr} {Post : Value → Heap → Prop} {h : Heap} (H : spec_l02Same.S f_0 g_1 Post h) : CALL prg f_spec_l02Same #[.pointer (some f_0), .pointer (some g_1)] Post h :=
  fn_call tau_ok mixed (c := spec_l02Same.code) (Λ := lookL [(1000004, spec_l02Same.l4 Post)]) Tryz.func45 (by kernel_rfl) (by kernel_rfl)
    (Rq.seq (by kernel_rfl) (Rq.free (by kernel_rfl)) (Rq.seq (by kernel_rfl) (Rq.free (by kernel_rfl)) (Rq.seq (by kernel_rfl) (Rq.seq (by kernel_rfl) (Rq.free (by kernel_rfl)) (Rq.block (Rq.loop (spec_l02Same.l4 Post) (by kernel_rfl) (segL (g := spec_l02Same.g4) tau_ok mixed (Λ := fun N4 => lookL []) (fun _ _ _ => by kernel_rfl) (fun N4 => (Rq.free (by kernel_rfl))))))) (Rq.free (by kernel_rfl)))))
    (Eq.mp (by kernel_rfl) H)

def slices_EqualFunc_sl_float32_sl_float32_float32_float32.B4 (Post : Value → Heap → Prop) (N4 : (Option Addr × Nat × Nat × Value × Option Addr × Nat × Nat × Int × Int) → Heap → Prop) : Option Addr × Nat × Nat × Value × Option Addr × Nat × Nat × Int × Int → Heap → Prop
  | (s2_1b, s2_1l, s2_1c, eq_2, t15b, t15l, t15c, t16, t17), h =>
    BIF (decide (t17 < t16)) (
    IDXS t15b t17 t15l fun p7 =>
    oF .f32 (cell h ((Addr.add p7 ((Int.toNat t17) * 1)))) fun r8 =>
    IDXS s2_1b t17 s2_1l fun p9 =>
    oF .f32 (cell h ((Addr.add p9 ((Int.toNat t17) * 1)))) fun r10 =>
    CALLD prg eq_2 #[.float .f32 r8, .float .f32 r10] (fun q11 h12 =>
    asB q11 fun b13 =>
    BIF (!b13) (
    Post (.bool false) h12) (
    N4 (s2_1b, s2_1l, s2_1c, eq_2, t15b, t15l, t15c, t16, ((IntKind.i64.wrap (t17 + (1 : Int))))) h12)) h) (
    Post (.bool true) h)
def slices_EqualFunc_sl_float32_sl_float32_float32_float32.g4 (fr : Frame) : Option Addr × Nat × Nat × Value × Option Addr × Nat × Nat × Int × Int := ((gLb (lget fr 1)), (gLl (lget fr 1)), (gLc (lget fr 1)), (lget fr 2), (gLb (lget fr 15)), (gLl (lget fr 15)), (gLc (lget fr 15)), (gI (lget fr 16)), (gI (lget fr 17)))
def slices_EqualFunc_sl_float32_sl_float32_float32_float32.l4 (Post : Value → Heap → Prop) : Frame → Heap → Prop := fun fr h => GRD (shape (kds 32 [(1, .l), (2, .v), (15, .l), (16, .i .i64), (17, .i .i64)]) fr) (LOOP (slices_EqualFunc_sl_float32_sl_float32_float32_float32.B4 Post) (slices_EqualFunc_sl_float32_sl_float32_float32_float32.g4 fr) h)
def slices_EqualFunc_sl_float32_sl_float32_float32_float32.S (s1_0b : Option Addr) (s1_0l s1_0c : Nat) (s2_1b : Option Addr) (s2_1l s2_1c : Nat) (eq_2 : Value) (Post : Value → Heap → Prop) (h : Heap) : Prop :=
    BIF ((s1_0l : Int) != (s2_1l : Int)) (
    Post (.bool false) h) (
    LOOP (slices_EqualFunc_sl_float32_sl_float32_float32_float32.B4 Post) (s2_1b, s2_1l, s2_1c, eq_2, s1_0b, s1_0l, s1_0c, (s1_0l : Int), (0 : Int)) h)
noncomputable def slices_EqualFunc_sl_float32_sl_float32_float32_float32.code : Code := (Tryz.f89.body).getD .skip
theorem slices_EqualFunc_sl_float32_sl_float32_float32_float32.call {s1_0b : Option Addr} {s1_0l s1_0c : Nat} {s2_1b : Option Addr} {s2_1l s2_1c : Nat} {eq_2 : Value} {Post : Value → Heap → Prop} {h : Heap} (H : slices_EqualFunc_sl_float32_sl_float32_float32_float32.S s1_0b s1_0l s1_0c s2_1b s2_1l s2_1c eq_2 Post h) : CALL prg f_slices_EqualFunc_sl_float32_sl_float32_float32_float32 #[.slice s1_0b s1_0l s1_0c, .slice s2_1b s2_1l s2_1c, eq_2] Post h :=
  fn_call tau_ok mixed (c := slices_EqualFunc_sl_float32_sl_float32_float32_float32.code) (Λ := lookL [(1000004, slices_EqualFunc_sl_float32_sl_float32_float32_float32.l4 Post)]) Tryz.func89 (by kernel_rfl) (by kernel_rfl)
    (Rq.seq (by kernel_rfl) (Rq.free (by kernel_rfl)) (Rq.seq (by kernel_rfl) (Rq.free (by kernel_rfl)) (Rq.seq (by kernel_rfl) (Rq.seq (by kernel_rfl) (Rq.free (by kernel_rfl)) (Rq.block (Rq.loop (slices_EqualFunc_sl_float32_sl_float32_float32_float32.l4 Post) (by kernel_rfl) (segL (g := slices_EqualFunc_sl_float32_sl_float32_float32_float32.g4) tau_ok mixed (Λ := fun N4 => lookL []) (fun _ _ _ => by kernel_rfl) (fun N4 => (Rq.free (by kernel_rfl))))))) (Rq.free (by kernel_rfl)))))
    (Eq.mp (by kernel_rfl) H)

def impl_sameSamples.S (a_0b : Option Addr) (a_0l a_0c : Nat) (b_1b : Option Addr) (b_1l b_1c : Nat) (Post : Value → Heap → Prop) (h : Heap) : Prop :=
    CALL prg f_slices_EqualFunc_sl_float32_sl_float32_float32_float32 #[.slice a_0b a_0l a_0c, .slice b_1b b_1l b_1c, .func (.func 10) #[] #[]] (fun q1 h2 =>
    asB q1 fun b3 =>
    Post (.bool b3) h2) h
noncomputable def impl_sameSamples.code : Code := (Tryz.f39.body).getD .skip
theorem impl_sameSamples.call {a_0b : Option Addr} {a_0l a_0c : Nat} {b_1b : Option Addr} {b_1l b_1c : Nat} {Post : Value → Heap → Prop} {h : Heap} (H : impl_sameSamples.S a_0b a_0l a_0c b_1b b_1l b_1c Post h) : CALL prg f_impl_sameSamples #[.slice a_0b a_0l a_0c, .slice b_1b b_1l b_1c] Post h :=
  fn_call tau_ok mixed (c := impl_sameSamples.code) (Λ := lookL []) Tryz.func39 (by kernel_rfl) (by kernel_rfl)
    (Rq.free (by kernel_rfl))
    (Eq.mp (by kernel_rfl) H)

def impl_SameFilter.S (f_0 : Array Value) (g_1 : Array Value) (Post : Value → Heap → Prop) (h : Heap) : Prop :=
    ALC f_0 T_impl_Filter (fun g1 h2 =>
    ALC g_1 T_impl_Filter (fun g3 h4 =>
    oI .i64 (cell h4 ⟨g1, 0, none⟩) fun n5 =>
    oI .i64 (cell h4 ⟨g3, 0, none⟩) fun n6 =>
    BIF (n5 == n6) (
    SLB (0 : Int) (3 : Int) (3 : Int) <|
    SLB (0 : Int) (3 : Int) (3 : Int) <|
    CALL prg f_impl_sameSamples #[.slice (some (slP ⟨g1, 1, none⟩ 3 0 1)) (3 - 0) (3 - 0), .slice (some (slP ⟨g3, 1, none⟩ 3 0 1)) (3 - 0) (3 - 0)] (fun q7 h8 =>
    asB q7 fun b9 =>
    BIF b9 (
    SLB (0 : Int) (2 : Int) (2 : Int) <|
    SLB (0 : Int) (2 : Int) (2 : Int) <|
    CALL prg f_impl_sameSamples #[.slice (some (slP ⟨g1, 4, none⟩ 2 0 1)) (2 - 0) (2 - 0), .slice (some (slP ⟨g3, 4, none⟩ 2 0 1)) (2 - 0) (2 - 0)] (fun q10 h11 =>
    asB q10 fun b12 =>
    Post (.bool b12) h11) h8) (
    Post (.bool false) h8)) h4) (
    Post (.bool false) h4)) h2) h
noncomputable def impl_SameFilter.code : Code := (Tryz.f11.body).getD .skip
theorem impl_SameFilter.call {f_0 : Array Value} {g_1 : Array Value} {Post : Value → Heap → Prop} {h : Heap} (H : impl_SameFilter.S f_0 g_1 Post h) : CALL prg f_impl_SameFilter #[.agg f_0, .agg g_1] Post h :=
  fn_call tau_ok mixed (c := impl_SameFilter.code) (Λ := lookL []) Tryz.func11 (by kernel_rfl) (by kernel_rfl)
    (Rq.free (by kernel_rfl))
    (Eq.mp (by kernel_rfl) H)

end Go.Sx
