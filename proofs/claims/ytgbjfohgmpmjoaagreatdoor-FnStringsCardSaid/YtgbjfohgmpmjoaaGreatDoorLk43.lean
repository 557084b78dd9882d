/- New strings. -/
import Derived.Test.YtgbjfohgmpmjoaaGreatDoorLk24
import Derived.Test.YtgbjfohgmpmjoaaGreatDoorK2
import Derived.Test.YtgbjfohgmpmjoaaGreatDoorLk4
import Derived.Test.YtgbjfohgmpmjoaaGreatDoorLk13
import Derived.Test.YtgbjfohgmpmjoaaGreatDoorTab
set_option linter.unusedVariables false
set_option linter.unusedSimpArgs false
namespace Go.Sx
open Go.Proofs Ieee
set_option maxRecDepth 100000
set_option maxHeartbeats 1000000

def allpassFor (f : Nat) : GFilter := if inside f 0 1073741824 then ⟨3, [fdiv .f32 (fsub .f32 1065353216 f) (fadd .f32 1065353216 f), 0, 0], [0, 0]⟩ else z_Filter
def oneZero (m : Nat) : GFilter := ⟨2, [fsub .f32 1065353216 m, m, 0], [0, 0]⟩
def onePole (k : Nat) : GFilter := ⟨1, [fsub .f32 1065353216 k, k, 0], [0, 0]⟩
def strN (p m : Nat) : Nat := if flt .f32 (fsub .f32 (fsub .f32 p m) (FloatKind.f32.nearest ((floorN (fsub .f32 p m) : Nat) : Int))) 1048576000 then floorN (fsub .f32 p m) - 1 else floorN (fsub .f32 p m)
def strOf (p m l : Nat) : GString := { Loop := ⟨List.replicate (strN p m) 0, 0⟩, Tune := allpassFor (fsub .f32 (fsub .f32 p m) (FloatKind.f32.nearest ((strN p m : Nat) : Int))), Damp := oneZero m, Loss := l }
def newString (p m l : Nat) : GString × Int := if inside p 1077936128 1149239296 then if inside m 0 1056964608 then if inside l 0 1065353216 then (strOf p m l, 0) else (z_String, 2) else (z_String, 2) else (z_String, 2)
/-- A filter's cells. -/
def flC (k : Int) (a b c d e : Nat) : List Value := [.int .i64 k, .float .f32 a, .float .f32 b, .float .f32 c, .float .f32 d, .float .f32 e]
theorem filter_ow {k : Int} {a b c d e a' b' c' d' e' : Nat} (ha : FW .f32 a a') (hb : FW .f32 b b') (hc : FW .f32 c c') (hd : FW .f32 d d') (he : FW .f32 e e') : rFilter.ow [] (flC k a b c d e) ⟨k, [a', b', c'], [d', e']⟩ :=
  ⟨[], [], [.int .i64 k], _, rfl, rfl, ⟨rfl, rfl⟩, [], [], [.float .f32 a, .float .f32 b, .float .f32 c], [.float .f32 d, .float .f32 e], rfl, rfl,
    ⟨rfl, [], [], [.float .f32 a], _, rfl, rfl, ⟨rfl, a, rfl, ha⟩, [], [], [.float .f32 b], _, rfl, rfl, ⟨rfl, b, rfl, hb⟩, [], [], [.float .f32 c], [], rfl, rfl, ⟨rfl, c, rfl, hc⟩, rfl, rfl⟩,
    ⟨rfl, [], [], [.float .f32 d], _, rfl, rfl, ⟨rfl, d, rfl, hd⟩, [], [], [.float .f32 e], [], rfl, rfl, ⟨rfl, e, rfl, he⟩, rfl, rfl⟩⟩
theorem string_ow {x : GString} {B : List Blk} {b : Option Addr} {l c : Nat} {v1 v2 : List Value} {y : Nat} (O : SlO T_float32 (rF .f32) B b l c x.Loop.Samples) (h1 : rFilter.ow [] v1 x.Tune) (h2 : rFilter.ow [] v2 x.Damp) (hy : FW .f32 y x.Loss) :
    rString.ow B ([.slice b l c, .int .i64 x.Loop.At] ++ (v1 ++ (v2 ++ [.float .f32 y]))) x :=
  ⟨B, [], [.slice b l c, .int .i64 x.Loop.At], _, by simp, rfl, ⟨B, [], [.slice b l c], [.int .i64 x.Loop.At], by simp, rfl, ⟨b, l, c, rfl, O⟩, ⟨rfl, rfl⟩⟩, [], [], v1, _, rfl, rfl, h1, [], [], v2, [.float .f32 y], rfl, rfl, h2, ⟨rfl, y, rfl, hy⟩⟩
theorem ring_cells {B : List Blk} {cs : Array Value} {r : GRing} (O : rRing.ow B cs.toList r) : ∃ b l c, cs = ⟨[.slice b l c, .int .i64 r.At]⟩ ∧ SlO T_float32 (rF .f32) B b l c r.Samples := by
  obtain ⟨B1, B2, v1, v2, rfl, e, ⟨b, l, c, rfl, O1⟩, ⟨rfl, rfl⟩⟩ := O
  exact ⟨b, l, c, by cases cs; simpa using e, by simpa using O1⟩
theorem c2 : FW .f32 1073741824 1073741824 := fw_c32 (by decide) (by decide)
theorem c3 : FW .f32 1077936128 1077936128 := fw_c32 (by decide) (by decide)
theorem c1024 : FW .f32 1149239296 1149239296 := fw_c32 (by decide) (by decide)
theorem c025 : FW .f32 1048576000 1048576000 := fw_c32 (by decide) (by decide)
section
variable {h : Heap} {x a : Nat}
/-- What AllpassFor answers. -/
def ApR (u : Value) (f : Nat) : Prop := ∃ (k n : Int) (y : Nat), u = .tuple ⟨[.agg ⟨flC k y 0 0 0 0⟩, .int .i64 n]⟩ ∧ rFilter.ow [] (flC k y 0 0 0 0) (allpassFor f)
theorem spec_AllpassFor_c (hx : FW .f32 x a) : CALL prg f_spec_AllpassFor #[.float .f32 x] (fun u h' => ApR u a ∧ Ext h h') h := by
  refine spec_AllpassFor.call ((Mem.start h).alc fun g1 h1 x1 M => ?_)
  rw [ord_eq hx fw0, ord_eq hx c2]
  have bad : allpassFor a = z_Filter → STA 6 h1 ⟨g1, 0, none⟩ ⟨Z_impl_Filter⟩ fun h8 => LDA 6 h8 ⟨g1, 0, none⟩ fun a9 => ApR (.tuple ⟨[.agg a9, .int .i64 (2 : Int)]⟩) a ∧ Ext h h8 := fun e =>
    M.sta0 .here rfl (all_one rfl) rfl .here fun h3 M => M.lda0 .here rfl ⟨⟨0, 2, 0, rfl, by rw [e]; exact zow_Filter⟩, M.ext⟩
  refine br (fun k1 => brN (fun k2 => bad (by rw [allpassFor, inside, fge, fle, k1, k2]; rfl)) fun k2 => ?_) fun k1 => bad (by rw [allpassFor, inside, fge, k1]; rfl)
  have e : inside a 0 1073741824 = true := by rw [inside, fge, fle, k1, k2]; rfl
  unfold spec_AllpassFor.J3
  refine fS c1 hx fun r7 h7 => fA c1 hx fun r8 h8 => fD h7 h8 fun r9 h9 => siz rfl (M.sta0 .here rfl (all_one rfl) rfl .here fun h3 M => M.lda0 .here rfl ⟨⟨3, 0, r9, rfl, ?_⟩, M.ext⟩)
  rw [allpassFor, e, if_pos rfl]
  exact filter_ow h9 fw0 fw0 fw0 fw0
/-- A filter's cells that stand for one. -/
def FlR (u : Value) (f : GFilter) : Prop := ∃ (k : Int) (y z : Nat), u = .agg ⟨flC k y z 0 0 0⟩ ∧ rFilter.ow [] (flC k y z 0 0 0) f
theorem spec_OneZero_c (hx : FW .f32 x a) : CALL prg f_spec_OneZero #[.float .f32 x] (fun u h' => FlR u (oneZero a) ∧ Ext h h') h :=
  spec_OneZero.call ((Mem.start h).alc fun g1 h1 x1 M => fS c1 hx fun r3 h3 => siz rfl (M.sta0 .here rfl (all_one rfl) rfl .here fun h3' M => M.lda0 .here rfl ⟨⟨2, r3, x, rfl, filter_ow h3 hx fw0 fw0 fw0⟩, M.ext⟩))
end
end Go.Sx
/- New strings: the rule's and the program's. -/
set_option linter.unusedVariables false
set_option linter.unusedSimpArgs false
namespace Go.Sx
open Go.Proofs Ieee
set_option maxRecDepth 100000
set_option maxHeartbeats 1000000

section
variable {h : Heap} {x a p q m n : Nat}
theorem str_fine {p m l : Nat} (h1 : inside p 1077936128 1149239296 = true) (h2 : inside m 0 1056964608 = true) : ∃ k e, FloatKind.f32.format.read (fsub .f32 p m) = .number false k e ∧ floorN (fsub .f32 p m) = whole k e ∧ 2 ≤ whole k e ∧ whole k e ≤ 1024 ∧ 1 ≤ strN p m ∧ strN p m ≤ 1024 := by
  obtain ⟨k, e, hr, g1, g2⟩ := period_sub h1 h2
  have hf : floorN (fsub .f32 p m) = whole k e := by unfold floorN; rw [hr]
  refine ⟨k, e, hr, hf, g1, g2, ?_⟩
  unfold strN
  rw [hf]
  split <;> omega
theorem spec_NewString_c {l z : Nat} (hp : FW .f32 x p) (hm : FW .f32 a m) (hl : FW .f32 z l) : CALL prg f_spec_NewString #[.float .f32 x, .float .f32 a, .float .f32 z] (fun u h' => PairR rString h h' u (newString p m l).1 (newString p m l).2) h := by
  refine spec_NewString.call ((Mem.start h).alc fun g1 h1 x1 M => ?_)
  rw [ord_eq hp c3, ord_eq hp c1024, ord_eq hm fw0, ord_eq hm c05, ord_eq hl fw0, ord_eq hl c1]
  have bad : newString p m l = (z_String, 2) → STA 15 h1 ⟨g1, 0, none⟩ ⟨Z_impl_String⟩ fun h8 => LDA 15 h8 ⟨g1, 0, none⟩ fun a9 => PairR rString h h8 (.tuple ⟨[.agg a9, .int .i64 (2 : Int)]⟩) (newString p m l).1 (newString p m l).2 := fun e => by
    rw [e]
    exact M.sta0 .here rfl (all_one rfl) rfl .here fun h3 M => M.lda0 .here rfl ⟨_, [], rfl, zow_String, (Mem.start h).grow M.ext⟩
  refine br (fun k1 => brN (fun k2 => bad (by rw [newString, inside, fge, fle, k1, k2]; rfl)) fun k2 => ?_) fun k1 => bad (by rw [newString, inside, fge, k1]; rfl)
  have e1 : inside p 1077936128 1149239296 = true := by rw [inside, fge, fle, k1, k2]; rfl
  refine br (fun k3 => brN (fun k4 => bad (by rw [newString, e1, inside, fge, fle, k3, k4]; rfl)) fun k4 => ?_) fun k3 => bad (by rw [newString, e1, inside, fge, k3]; rfl)
  have e2 : inside m 0 1056964608 = true := by rw [inside, fge, fle, k3, k4]; rfl
  refine br (fun k5 => brN (fun k6 => bad (by rw [newString, e1, e2, inside, fge, fle, k5, k6]; rfl)) fun k6 => ?_) fun k5 => bad (by rw [newString, e1, e2, inside, fge, k5]; rfl)
  have e3 : inside l 0 1065353216 = true := by rw [inside, fge, fle, k5, k6]; rfl
  have fine : newString p m l = (strOf p m l, 0) := by rw [newString, e1, e2, e3]; rfl
  rw [fine]
  obtain ⟨k, e, hr, hf, g1', g2', g3, g4⟩ := str_fine (l := l) e1 e2
  have fin : ∀ {hh : Heap} {B : List Blk} {cells : List Value}, Mem h hh ((g1, T_impl_String, ⟨Z_impl_String⟩) :: B) → rString.ow B cells (strOf p m l) → STA 15 hh ⟨g1, 0, none⟩ ⟨cells⟩ fun h34 => LDA 15 h34 ⟨g1, 0, none⟩ fun a35 => PairR rString h h34 (.tuple ⟨[.agg a35, .int .i64 (0 : Int)]⟩) (strOf p m l) 0 := fun M O =>
    M.sta0 .here (rString.olen O) (rString.oone O) rfl .here fun h34 M => M.lda0 .here (rString.olen O) ⟨_, _, rfl, O, M.drop⟩
  have key : ∀ n9 : Nat, n9 = strN p m → ∀ {r15 : Nat}, FW .f32 r15 (fsub .f32 p m) → spec_NewString.J7 (fun u h' => PairR rString h h' u (strOf p m l) 0) a z ⟨g1, 0, none⟩ r15 (n9 : Int) h1 := by
    intro n9 hn r15 h15
    subst hn
    unfold spec_NewString.J7
    refine fS h15 (fw_nearest .f32 _) fun r18 h18 => (spec_AllpassFor_c h18).mono ?_
    rintro _ h2 ⟨⟨k2, n2, y2, rfl, O2⟩, x2⟩
    refine tup2 (as_a (as_i ((M.grow x2).alc fun g25 h3 x3 M => M.sta0 .here rfl (all_one rfl) rfl .here fun h4 M => M.lda0 .here rfl ⟨?_, ?_⟩)))
    · have P : RdP rFilter h4 ⟨g25, 0, none⟩ _ := M.rdp .here (rFilter.look O2 M (List.nil_sublist _))
      refine make_sl (r := rF .f32) (z := 0) (zc := [.float .f32 0]) ⟨rfl, 0, rfl, fw0⟩ rfl rfl (by decide) M (by show 4 * strN p m ≤ 2 ^ 48; omega) (Nat.le_trans g4 (by decide)) fun g29 h5 x5 M O => P.pin rfl x5 ?_
      refine (spec_OneZero_c hm).mono ?_
      rintro _ h6 ⟨⟨k3, y3, z3, rfl, O3⟩, x6⟩
      refine as_a (P.pin rfl (x5.trans x6) (siz rfl (siz rfl (siz rfl (fin ((M.grow x6).cnt (fun p => by simp only [cnt_app, cnt_cons, cnt_nil] at *; omega)) (string_ow (x := strOf p m l) O O2 O3 hl))))))
    · have P : RdP rFilter h4 ⟨g25, 0, none⟩ _ := M.rdp .here (rFilter.look O2 M (List.nil_sublist _))
      refine (spec_OneZero_c hm).mono ?_
      rintro _ h5 ⟨⟨k3, y3, z3, rfl, O3⟩, x5⟩
      refine as_a (P.pin rfl x5 ?_)
      refine make_sl (r := rF .f32) (z := 0) (zc := [.float .f32 0]) ⟨rfl, 0, rfl, fw0⟩ rfl rfl (by decide) (M.grow x5) (by show 4 * strN p m ≤ 2 ^ 48; omega) (Nat.le_trans g4 (by decide)) fun g29 h6 x6 M O => P.pin rfl (x5.trans x6) ?_
      exact siz rfl (siz rfl (siz rfl (fin (M.cnt (fun p => by simp only [cnt_app, cnt_cons, cnt_nil] at *; omega)) (string_ow (x := strOf p m l) O O2 O3 hl))))
  unfold spec_NewString.J3
  refine fS hp hm fun r15 h15 => ?_
  have hn15 : nan .f32 (fsub .f32 p m) = false := by unfold Sx.nan; rw [hr]; rfl
  have h15e := h15.eq hn15
  subst h15e
  refine ficI (int_pos hr) (by omega) (by omega) (fS h15 (fw_nearest .f32 _) fun r17 h17 => ?_)
  rw [ord_eq h17 c025, ← hf]
  rw [← hf] at g1'
  refine br (fun kk => ?_) fun kk => ?_
  · rw [wrap_pred (by omega) (by omega)]
    exact key _ (by unfold strN flt; rw [if_pos kk]) h15
  · exact key _ (by unfold strN flt; rw [kk]; rfl) h15
end
end Go.Sx
/- What functions of this seat's program compute, told in words (a predicate over heaps for each), and the proofs that the words are no more than the code's own weakest precondition. -/
namespace Go.Sx
open Go.Proofs
set_option linter.unusedVariables false
set_option maxRecDepth 100000

def spec_l02SameList.B4 (Post : Value → Heap → Prop) (N4 : (Option Addr × Nat × Nat × Option Addr × Nat × Nat × Int) → Heap → Prop) : Option Addr × Nat × Nat × Option Addr × Nat × Nat × Int → Heap → Prop
  | (a_0b, a_0l, a_0c, b_1b, b_1l, b_1c, i_5), h =>
    BIF ((decide (i_5 < (a_0l : Int)))) (
    IDXS a_0b i_5 a_0l fun p7 =>
    oF .f32 (cell h ((Addr.add p7 ((Int.toNat i_5) * 1)))) fun r8 =>
    IDXS b_1b i_5 b_1l fun p9 =>
    oF .f32 (cell h ((Addr.add p9 ((Int.toNat i_5) * 1)))) fun r10 =>
    CALL prg f_spec_l01Same #[.float .f32 r8, .float .f32 r10] (fun q11 h12 =>
    asB q11 fun b13 =>
    BIF (!b13) (
    Post (.bool false) h12) (
    N4 (a_0b, a_0l, a_0c, b_1b, b_1l, b_1c, ((IntKind.i64.wrap (i_5 + (1 : Int))))) h12)) h) (
    Post (.bool true) h)
def spec_l02SameList.g4 (fr : Frame) : Option Addr × Nat × Nat × Option Addr × Nat × Nat × Int := ((gLb (lget fr 0)), (gLl (lget fr 0)), (gLc (lget fr 0)), (gLb (lget fr 1)), (gLl (lget fr 1)), (gLc (lget fr 1)), (gI (lget fr 5)))
def spec_l02SameList.l4 (Post : Value → Heap → Prop) : Frame → Heap → Prop := fun fr h => GRD (shape (kds 27 [(0, .l), (1, .l), (5, .i .i64)]) fr) (LOOP (spec_l02SameList.B4 Post) (spec_l02SameList.g4 fr) h)
def spec_l02SameList.S (a_0b : Option Addr) (a_0l a_0c : Nat) (b_1b : Option Addr) (b_1l b_1c : Nat) (Post : Value → Heap → Prop) (h : Heap) : Prop :=
    BIF ((a_0l : Int) != (b_1l : Int)) (
    Post (.bool false) h) (
    LOOP (spec_l02SameList.B4 Post) (a_0b, a_0l, a_0c, b_1b, b_1l, b_1c, (0 : Int)) h)
noncomputable def spec_l02SameList.code : Code := (Tryz.f64.body).getD .skip
theorem spec_l02SameList.call {a_0b : Option Addr} {a_0l a_0c : Nat} {b_1b : Option Addr} {b_1l b_1c : Nat} {Post : Value → Heap → Prop} {h : Heap} (H : spec_l02SameList.S a_0b a_0l a_0c b_1b b_1l b_1c Post h) : CALL prg f_spec_l02SameList #[.slice a_0b a_0l a_0c, .slice b_1b b_1l b_1c] Post h :=
  fn_call tau_ok mixed (c := spec_l02SameList.code) (Λ := lookL [(1000004, spec_l02SameList.l4 Post)]) Tryz.func64 (by kernel_rfl) (by kernel_rfl)
    (Rq.seq (by kernel_rfl) (Rq.free (by kernel_rfl)) (Rq.seq (by kernel_rfl) (Rq.free (by kernel_rfl)) (Rq.seq (by kernel_rfl) (Rq.seq (by kernel_rfl) (Rq.free (by kernel_rfl)) (Rq.block (Rq.loop (spec_l02SameList.l4 Post) (by kernel_rfl) (segL (g := spec_l02SameList.g4) tau_ok mixed (Λ := fun N4 => lookL []) (fun _ _ _ => by kernel_rfl) (fun N4 => (Rq.free (by kernel_rfl))))))) (Rq.free (by kernel_rfl)))))
    (Eq.mp (by kernel_rfl) H)

def spec_SameRing.S (r_0 : Array Value) (s_1 : Array Value) (Post : Value → Heap → Prop) (h : Heap) : Prop :=
    ALC r_0 T_impl_Ring (fun g1 h2 =>
    ALC s_1 T_impl_Ring (fun g3 h4 =>
    oI .i64 (cell h4 ⟨g1, 1, none⟩) fun n5 =>
    oI .i64 (cell h4 ⟨g3, 1, none⟩) fun n6 =>
    BIF (n5 == n6) (
    oL (cell h4 ⟨g1, 0, none⟩) fun l7b l7l l7c =>
    oL (cell h4 ⟨g3, 0, none⟩) fun l8b l8l l8c =>
    CALL prg f_spec_l02SameList #[.slice l7b l7l l7c, .slice l8b l8l l8c] (fun q9 h10 =>
    asB q9 fun b11 =>
    Post (.bool b11) h10) h4) (
    Post (.bool false) h4)) h2) h
noncomputable def spec_SameRing.code : Code := (Tryz.f62.body).getD .skip
theorem spec_SameRing.call {r_0 : Array Value} {s_1 : Array Value} {Post : Value → Heap → Prop} {h : Heap} (H : spec_SameRing.S r_0 s_1 Post h) : CALL prg f_spec_SameRing #[.agg r_0, .agg s_1] Post h :=
  fn_call tau_ok mixed (c := spec_SameRing.code) (Λ := lookL []) Tryz.func62 (by kernel_rfl) (by kernel_rfl)
    (Rq.free (by kernel_rfl))
    (Eq.mp (by kernel_rfl) H)

def spec_l02Same.B4 (Post : Value → Heap → Prop) (N4 : (Addr × Addr × Int) → Heap → Prop) : Addr × Addr × Int → Heap → Prop
  | (f_0, g_1, i_5), h =>
    BIF ((decide (i_5 < (3 : Int)))) (
    IDX i_5 3 <|
    oF .f32 (cell h ((Addr.add (Addr.add f_0 1) ((Int.toNat i_5) * 1)))) fun r3 =>
    IDX i_5 3 <|
    oF .f32 (cell h ((Addr.add (Addr.add g_1 1) ((Int.toNat i_5) * 1)))) fun r4 =>
    CALL prg f_spec_l01Same #[.float .f32 r3, .float .f32 r4] (fun q5 h6 =>
    asB q5 fun b7 =>
    BIF (!b7) (
    Post (.bool false) h6) (
    N4 (f_0, g_1, ((IntKind.i64.wrap (i_5 + (1 : Int))))) h6)) h) (
    IDX (0 : Int) 2 <|
    oF .f32 (cell h (Addr.add f_0 4)) fun r8 =>
    IDX (0 : Int) 2 <|
    oF .f32 (cell h (Addr.add g_1 4)) fun r9 =>
    CALL prg f_spec_l01Same #[.float .f32 r8, .float .f32 r9] (fun q10 h11 =>
    asB q10 fun b12 =>
    BIF b12 (
    IDX (1 : Int) 2 <|
    oF .f32 (cell h11 (Addr.add f_0 5)) fun r13 =>
    IDX (1 : Int) 2 <|
    oF .f32 (cell h11 (Addr.add g_1 5)) fun r14 =>
    CALL prg f_spec_l01Same #[.float .f32 r13, .float .f32 r14] (fun q15 h16 =>
    asB q15 fun b17 =>
    Post (.bool b17) h16) h11) (
    Post (.bool false) h11)) h)
def spec_l02Same.g4 (fr : Frame) : Addr × Addr × Int := ((gP (lget fr 0)), (gP (lget fr 1)), (gI (lget fr 5)))
def spec_l02Same.l4 (Post : Value → Heap → Prop) : Frame → Heap → Prop := fun fr h => GRD (shape (kds 57 [(0, .p), (1, .p), (5, .i .i64)]) fr) (LOOP (spec_l02Same.B4 Post) (spec_l02Same.g4 fr) h)
def spec_l02Same.S (f_0 : Addr) (g_1 : Addr) (Post : Value → Heap → Prop) (h : Heap) : Prop :=
    oI .i64 (cell h f_0) fun n1 =>
    oI .i64 (cell h g_1) fun n2 =>
    BIF (n1 != n2) (
    Post (.bool false) h) (
    LOOP (spec_l02Same.B4 Post) (f_0, g_1, (0 : Int)) h)
noncomputable def spec_l02Same.code : Code := (Tryz.f45.body).getD .skip
theorem spec_l02Same.call {f_0 : Addr} {g_1 : Addr} {Post : Value → Heap → Prop} {h : Heap} (H : spec_l02Same.S f_0 g_1 Post h) : CALL prg f_spec_l02Same #[.pointer (some f_0), .pointer (some g_1)] Post h :=
  fn_call tau_ok mixed (c := spec_l02Same.code) (Λ := lookL [(1000004, spec_l02Same.l4 Post)]) Tryz.func45 (by kernel_rfl) (by kernel_rfl)
    (Rq.seq (by kernel_rfl) (Rq.free (by kernel_rfl)) (Rq.seq (by kernel_rfl) (Rq.free (by kernel_rfl)) (Rq.seq (by kernel_rfl) (Rq.seq (by kernel_rfl) (Rq.free (by kernel_rfl)) (Rq.block (Rq.loop (spec_l02Same.l4 Post) (by kernel_rfl) (segL (g := spec_l02Same.g4) tau_ok mixed (Λ := fun N4 => lookL []) (fun _ _ _ => by kernel_rfl) (fun N4 => (Rq.free (by kernel_rfl))))))) (Rq.free (by kernel_rfl)))))
    (Eq.mp (by kernel_rfl) H)

def spec_SameString.S (x_0 : Array Value) (y_1 : Array Value) (Post : Value → Heap → Prop) (h : Heap) : Prop :=
    ALC x_0 T_impl_String (fun g1 h2 =>
    ALC y_1 T_impl_String (fun g3 h4 =>
    LDA 2 h4 ⟨g1, 0, none⟩ fun a5 =>
    LDA 2 h4 ⟨g3, 0, none⟩ fun a6 =>
    CALL prg f_spec_SameRing #[.agg a5, .agg a6] (fun q7 h8 =>
    asB q7 fun b9 =>
    BIF b9 (
    CALL prg f_spec_l02Same #[.pointer (some ⟨g1, 2, none⟩), .pointer (some ⟨g3, 2, none⟩)] (fun q10 h11 =>
    asB q10 fun b12 =>
    BIF b12 (
    CALL prg f_spec_l02Same #[.pointer (some ⟨g1, 8, none⟩), .pointer (some ⟨g3, 8, none⟩)] (fun q13 h14 =>
    asB q13 fun b15 =>
    BIF b15 (
    oF .f32 (cell h14 ⟨g1, 14, none⟩) fun r16 =>
    oF .f32 (cell h14 ⟨g3, 14, none⟩) fun r17 =>
    CALL prg f_spec_l01Same #[.float .f32 r16, .float .f32 r17] (fun q18 h19 =>
    asB q18 fun b20 =>
    Post (.bool b20) h19) h14) (
    Post (.bool false) h14)) h11) (
    Post (.bool false) h11)) h8) (
    Post (.bool false) h8)) h4) h2) h
noncomputable def spec_SameString.code : Code := (Tryz.f26.body).getD .skip
theorem spec_SameString.call {x_0 : Array Value} {y_1 : Array Value} {Post : Value → Heap → Prop} {h : Heap} (H : spec_SameString.S x_0 y_1 Post h) : CALL prg f_spec_SameString #[.agg x_0, .agg y_1] Post h :=
  fn_call tau_ok mixed (c := spec_SameString.code) (Λ := lookL []) Tryz.func26 (by kernel_rfl) (by kernel_rfl)
    (Rq.free (by kernel_rfl))
    (Eq.mp (by kernel_rfl) H)

def slices_EqualFunc_sl_float32_sl_float32_float32_float32.B4 (Post : Value → Heap → Prop) (N4 : (Option Addr × Nat × Nat × Value × Option Addr × Nat × Nat × Int × Int) → Heap → Prop) : Option Addr × Nat × Nat × Value × Option Addr × Nat × Nat × Int × Int → Heap → Prop
  | (s2_1b, s2_1l, s2_1c, eq_2, t15b, t15l, t15c, t16, t17), h =>
    BIF (decide (t17 < t16)) (
    IDXS t15b t17 t15l fun p7 =>
    oF .f32 (cell h ((Addr.add p7 ((Int.toNat t17) * 1)))) fun r8 =>
    IDXS s2_1b t17 s2_1l fun p9 =>
    oF .f32 (cell h ((Addr.add p9 ((Int.toNat t17) * 1)))) fun r10 =>
    CALLD prg eq_2 #[.float .f32 r8, .float .f32 r10] (fun q11 h12 =>
    asB q11 fun b13 =>
    BIF (!b13) (
    Post (.bool false) h12) (
    N4 (s2_1b, s2_1l, s2_1c, eq_2, t15b, t15l, t15c, t16, ((IntKind.i64.wrap (t17 + (1 : Int))))) h12)) h) (
    Post (.bool true) h)
def slices_EqualFunc_sl_float32_sl_float32_float32_float32.g4 (fr : Frame) : Option Addr × Nat × Nat × Value × Option Addr × Nat × Nat × Int × Int := ((gLb (lget fr 1)), (gLl (lget fr 1)), (gLc (lget fr 1)), (lget fr 2), (gLb (lget fr 15)), (gLl (lget fr 15)), (gLc (lget fr 15)), (gI (lget fr 16)), (gI (lget fr 17)))
def slices_EqualFunc_sl_float32_sl_float32_float32_float32.l4 (Post : Value → Heap → Prop) : Frame → Heap → Prop := fun fr h => GRD (shape (kds 32 [(1, .l), (2, .v), (15, .l), (16, .i .i64), (17, .i .i64)]) fr) (LOOP (slices_EqualFunc_sl_float32_sl_float32_float32_float32.B4 Post) (slices_EqualFunc_sl_float32_sl_float32_float32_float32.g4 fr) h)
def slices_EqualFunc_sl_float32_sl_float32_float32_float32.S (s1_0b : Option Addr) (s1_0l s1_0c : Nat) (s2_1b : Option Addr) (s2_1l s2_1c : Nat) (eq_2 : Value) (Post : Value → Heap → Prop) (h : Heap) : Prop :=
    BIF ((s1_0l : Int) != (s2_1l : Int)) (
    Post (.bool false) h) (
    LOOP (slices_EqualFunc_sl_float32_sl_float32_float32_float32.B4 Post) (s2_1b, s2_1l, s2_1c, eq_2, s1_0b, s1_0l, s1_0c, (s1_0l : Int), (0 : Int)) h)
noncomputable def slices_EqualFunc_sl_float32_sl_float32_float32_float32.code : Code := (Tryz.f89.body).getD .skip
theorem slices_EqualFunc_sl_float32_sl_float32_float32_float32.call {s1_0b : Option Addr} {s1_0l s1_0c : Nat} {s2_1b : Option Addr} {s2_1l s2_1c : Nat} {eq_2 : Value} {Post : Value → Heap → Prop} {h : Heap} (H : slices_EqualFunc_sl_float32_sl_float32_float32_float32.S s1_0b s1_0l s1_0c s2_1b s2_1l s2_1c eq_2 Post h) : CALL prg f_slices_EqualFunc_sl_float32_sl_float32_float32_float32 #[.slice s1_0b s1_0l s1_0c, .slice s2_1b s2_1l s2_1c, eq_2] Post h :=
  fn_call tau_ok mixed (c := slices_EqualFunc_sl_float32_sl_float32_float32_float32.code) (Λ := lookL [(1000004, slices_EqualFunc_sl_float32_sl_float32_float32_float32.l4 Post)]) Tryz.func89 (by kernel_rfl) (by kernel_rfl)
    (Rq.seq (by kernel_rfl) (Rq.free (by kernel_rfl)) (Rq.seq (by kernel_rfl) (Rq.free (by kernel_rfl)) (Rq.seq (by kernel_rfl) (Rq.seq (by kernel_rfl) (Rq.free (by kernel_rfl)) (Rq.block (Rq.loop (slices_EqualFunc_sl_float32_sl_float32_float32_float32.l4 Post) (by kernel_rfl) (segL (g := slices_EqualFunc_sl_float32_sl_float32_float32_float32.g4) tau_ok mixed (Λ := fun N4 => lookL []) (fun _ _ _ => by kernel_rfl) (fun N4 => (Rq.free (by kernel_rfl))))))) (Rq.free (by kernel_rfl)))))
    (Eq.mp (by kernel_rfl) H)

def impl_sameSamples.S (a_0b : Option Addr) (a_0l a_0c : Nat) (b_1b : Option Addr) (b_1l b_1c : Nat) (Post : Value → Heap → Prop) (h : Heap) : Prop :=
    CALL prg f_slices_EqualFunc_sl_float32_sl_float32_float32_float32 #[.slice a_0b a_0l a_0c, .slice b_1b b_1l b_1c, .func (.func 10) #[] #[]] (fun q1 h2 =>
    asB q1 fun b3 =>
    Post (.bool b3) h2) h
noncomputable def impl_sameSamples.code : Code := (Tryz.f39.body).getD .skip
theorem impl_sameSamples.call {a_0b : Option Addr} {a_0l a_0c : Nat} {b_1b : Option Addr} {b_1l b_1c : Nat} {Post : Value → Heap → Prop} {h : Heap} (H : impl_sameSamples.S a_0b a_0l a_0c b_1b b_1l b_1c Post h) : CALL prg f_impl_sameSamples #[.slice a_0b a_0l a_0c, .slice b_1b b_1l b_1c] Post h :=
  fn_call tau_ok mixed (c := impl_sameSamples.code) (Λ := lookL []) Tryz.func39 (by kernel_rfl) (by kernel_rfl)
    (Rq.free (by kernel_rfl))
    (Eq.mp (by kernel_rfl) H)

def impl_SameRing.S (r_0 : Array Value) (s_1 : Array Value) (Post : Value → Heap → Prop) (h : Heap) : Prop :=
    ALC r_0 T_impl_Ring (fun g1 h2 =>
    ALC s_1 T_impl_Ring (fun g3 h4 =>
    oL (cell h4 ⟨g1, 0, none⟩) fun l5b l5l l5c =>
    oL (cell h4 ⟨g3, 0, none⟩) fun l6b l6l l6c =>
    CALL prg f_impl_sameSamples #[.slice l5b l5l l5c, .slice l6b l6l l6c] (fun q7 h8 =>
    asB q7 fun b9 =>
    BIF b9 (
    oI .i64 (cell h8 ⟨g1, 1, none⟩) fun n10 =>
    oI .i64 (cell h8 ⟨g3, 1, none⟩) fun n11 =>
    Post (.bool (n10 == n11)) h8) (
    Post (.bool false) h8)) h4) h2) h
noncomputable def impl_SameRing.code : Code := (Tryz.f57.body).getD .skip
theorem impl_SameRing.call {r_0 : Array Value} {s_1 : Array Value} {Post : Value → Heap → Prop} {h : Heap} (H : impl_SameRing.S r_0 s_1 Post h) : CALL prg f_impl_SameRing #[.agg r_0, .agg s_1] Post h :=
  fn_call tau_ok mixed (c := impl_SameRing.code) (Λ := lookL []) Tryz.func57 (by kernel_rfl) (by kernel_rfl)
    (Rq.free (by kernel_rfl))
    (Eq.mp (by kernel_rfl) H)

def impl_SameFilter.S (f_0 : Array Value) (g_1 : Array Value) (Post : Value → Heap → Prop) (h : Heap) : Prop :=
    ALC f_0 T_impl_Filter (fun g1 h2 =>
    ALC g_1 T_impl_Filter (fun g3 h4 =>
    oI .i64 (cell h4 ⟨g1, 0, none⟩) fun n5 =>
    oI .i64 (cell h4 ⟨g3, 0, none⟩) fun n6 =>
    BIF (n5 == n6) (
    SLB (0 : Int) (3 : Int) (3 : Int) <|
    SLB (0 : Int) (3 : Int) (3 : Int) <|
    CALL prg f_impl_sameSamples #[.slice (some (slP ⟨g1, 1, none⟩ 3 0 1)) (3 - 0) (3 - 0), .slice (some (slP ⟨g3, 1, none⟩ 3 0 1)) (3 - 0) (3 - 0)] (fun q7 h8 =>
    asB q7 fun b9 =>
    BIF b9 (
    SLB (0 : Int) (2 : Int) (2 : Int) <|
    SLB (0 : Int) (2 : Int) (2 : Int) <|
    CALL prg f_impl_sameSamples #[.slice (some (slP ⟨g1, 4, none⟩ 2 0 1)) (2 - 0) (2 - 0), .slice (some (slP ⟨g3, 4, none⟩ 2 0 1)) (2 - 0) (2 - 0)] (fun q10 h11 =>
    asB q10 fun b12 =>
    Post (.bool b12) h11) h8) (
    Post (.bool false) h8)) h4) (
    Post (.bool false) h4)) h2) h
noncomputable def impl_SameFilter.code : Code := (Tryz.f11.body).getD .skip
theorem impl_SameFilter.call {f_0 : Array Value} {g_1 : Array Value} {Post : Value → Heap → Prop} {h : Heap} (H : impl_SameFilter.S f_0 g_1 Post h) : CALL prg f_impl_SameFilter #[.agg f_0, .agg g_1] Post h :=
  fn_call tau_ok mixed (c := impl_SameFilter.code) (Λ := lookL []) Tryz.func11 (by kernel_rfl) (by kernel_rfl)
    (Rq.free (by kernel_rfl))
    (Eq.mp (by kernel_rfl) H)

def impl_SameString.S (x_0 : Array Value) (y_1 : Array Value) (Post : Value → Heap → Prop) (h : Heap) : Prop :=
    ALC x_0 T_impl_String (fun g1 h2 =>
    ALC y_1 T_impl_String (fun g3 h4 =>
    LDA 2 h4 ⟨g1, 0, none⟩ fun a5 =>
    LDA 2 h4 ⟨g3, 0, none⟩ fun a6 =>
    CALL prg f_impl_SameRing #[.agg a5, .agg a6] (fun q7 h8 =>
    asB q7 fun b9 =>
    BIF b9 (
    LDA 6 h8 ⟨g1, 2, none⟩ fun a10 =>
    LDA 6 h8 ⟨g3, 2, none⟩ fun a11 =>
    CALL prg f_impl_SameFilter #[.agg a10, .agg a11] (fun q12 h13 =>
    asB q12 fun b14 =>
    BIF b14 (
    LDA 6 h13 ⟨g1, 8, none⟩ fun a15 =>
    LDA 6 h13 ⟨g3, 8, none⟩ fun a16 =>
    CALL prg f_impl_SameFilter #[.agg a15, .agg a16] (fun q17 h18 =>
    asB q17 fun b19 =>
    BIF b19 (
    oF .f32 (cell h18 ⟨g1, 14, none⟩) fun r20 =>
    oF .f32 (cell h18 ⟨g3, 14, none⟩) fun r21 =>
    CALL prg f_impl_SameSample #[.float .f32 r20, .float .f32 r21] (fun q22 h23 =>
    asB q22 fun b24 =>
    Post (.bool b24) h23) h18) (
    Post (.bool false) h18)) h13) (
    Post (.bool false) h13)) h8) (
    Post (.bool false) h8)) h4) h2) h
noncomputable def impl_SameString.code : Code := (Tryz.f22.body).getD .skip
theorem impl_SameString.call {x_0 : Array Value} {y_1 : Array Value} {Post : Value → Heap → Prop} {h : Heap} (H : impl_SameString.S x_0 y_1 Post h) : CALL prg f_impl_SameString #[.agg x_0, .agg y_1] Post h :=
  fn_call tau_ok mixed (c := impl_SameString.code) (Λ := lookL []) Tryz.func22 (by kernel_rfl) (by kernel_rfl)
    (Rq.free (by kernel_rfl))
    (Eq.mp (by kernel_rfl) H)

end Go.Sx
