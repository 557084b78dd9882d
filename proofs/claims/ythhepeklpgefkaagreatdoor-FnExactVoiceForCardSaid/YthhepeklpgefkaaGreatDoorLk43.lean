/- New strings. -/
import Derived.Test.YthhepeklpgefkaaGreatDoorLk32
import Derived.Test.YthhepeklpgefkaaGreatDoorLh0
import Derived.Test.YthhepeklpgefkaaGreatDoorK9
set_option linter.unusedVariables false
set_option linter.unusedSimpArgs false
namespace Go.Sx
open Go.Proofs Ieee
set_option maxRecDepth 100000
set_option maxHeartbeats 1000000

def allpassFor (f : Nat) : GFilter := if inside f 0 1073741824 then ⟨3, [fdiv .f32 (fsub .f32 1065353216 f) (fadd .f32 1065353216 f), 0, 0], [0, 0]⟩ else z_Filter
def oneZero (m : Nat) : GFilter := ⟨2, [fsub .f32 1065353216 m, m, 0], [0, 0]⟩
def onePole (k : Nat) : GFilter := ⟨1, [fsub .f32 1065353216 k, k, 0], [0, 0]⟩
def strN (p m : Nat) : Nat := if flt .f32 (fsub .f32 (fsub .f32 p m) (FloatKind.f32.nearest ((floorN (fsub .f32 p m) : Nat) : Int))) 1048576000 then floorN (fsub .f32 p m) - 1 else floorN (fsub .f32 p m)
def strOf (p m l : Nat) : GString := { Loop := ⟨List.replicate (strN p m) 0, 0⟩, Tune := allpassFor (fsub .f32 (fsub .f32 p m) (FloatKind.f32.nearest ((strN p m : Nat) : Int))), Damp := oneZero m, Loss := l }
def newString (p m l : Nat) : GString × Int := if inside p 1077936128 1149239296 then if inside m 0 1056964608 then if inside l 0 1065353216 then (strOf p m l, 0) else (z_String, 2) else (z_String, 2) else (z_String, 2)
/-- A filter's cells. -/
def flC (k : Int) (a b c d e : Nat) : List Value := [.int .i64 k, .float .f32 a, .float .f32 b, .float .f32 c, .float .f32 d, .float .f32 e]
theorem filter_ow {k : Int} {a b c d e a' b' c' d' e' : Nat} (ha : FW .f32 a a') (hb : FW .f32 b b') (hc : FW .f32 c c') (hd : FW .f32 d d') (he : FW .f32 e e') : rFilter.ow [] (flC k a b c d e) ⟨k, [a', b', c'], [d', e']⟩ :=
  ⟨[], [], [.int .i64 k], _, rfl, rfl, ⟨rfl, rfl⟩, [], [], [.float .f32 a, .float .f32 b, .float .f32 c], [.float .f32 d, .float .f32 e], rfl, rfl,
    ⟨rfl, [], [], [.float .f32 a], _, rfl, rfl, ⟨rfl, a, rfl, ha⟩, [], [], [.float .f32 b], _, rfl, rfl, ⟨rfl, b, rfl, hb⟩, [], [], [.float .f32 c], [], rfl, rfl, ⟨rfl, c, rfl, hc⟩, rfl, rfl⟩,
    ⟨rfl, [], [], [.float .f32 d], _, rfl, rfl, ⟨rfl, d, rfl, hd⟩, [], [], [.float .f32 e], [], rfl, rfl, ⟨rfl, e, rfl, he⟩, rfl, rfl⟩⟩
theorem string_ow {x : GString} {B : List Blk} {b : Option Addr} {l c : Nat} {v1 v2 : List Value} {y : Nat} (O : SlO T_float32 (rF .f32) B b l c x.Loop.Samples) (h1 : rFilter.ow [] v1 x.Tune) (h2 : rFilter.ow [] v2 x.Damp) (hy : FW .f32 y x.Loss) :
    rString.ow B ([.slice b l c, .int .i64 x.Loop.At] ++ (v1 ++ (v2 ++ [.float .f32 y]))) x :=
  ⟨B, [], [.slice b l c, .int .i64 x.Loop.At], _, by simp, rfl, ⟨B, [], [.slice b l c], [.int .i64 x.Loop.At], by simp, rfl, ⟨b, l, c, rfl, O⟩, ⟨rfl, rfl⟩⟩, [], [], v1, _, rfl, rfl, h1, [], [], v2, [.float .f32 y], rfl, rfl, h2, ⟨rfl, y, rfl, hy⟩⟩
theorem ring_cells {B : List Blk} {cs : Array Value} {r : GRing} (O : rRing.ow B cs.toList r) : ∃ b l c, cs = ⟨[.slice b l c, .int .i64 r.At]⟩ ∧ SlO T_float32 (rF .f32) B b l c r.Samples := by
  obtain ⟨B1, B2, v1, v2, rfl, e, ⟨b, l, c, rfl, O1⟩, ⟨rfl, rfl⟩⟩ := O
  exact ⟨b, l, c, by cases cs; simpa using e, by simpa using O1⟩
theorem ring_ow {B : List Blk} {b : Option Addr} {l c : Nat} {r : GRing} (O : SlO T_float32 (rF .f32) B b l c r.Samples) : rRing.ow B [.slice b l c, .int .i64 r.At] r :=
  ⟨B, [], [.slice b l c], [.int .i64 r.At], by simp, rfl, ⟨b, l, c, rfl, O⟩, ⟨rfl, rfl⟩⟩
theorem near_int32 {n : Nat} (h : n < 2 ^ 24) : (FloatKind.f32.decode (FloatKind.f32.nearest (n : Int))).toInt .zero = some (n : Int) := by
  rw [nearest_nat]
  by_cases h0 : n = 0
  · subst h0
    have : FloatKind.f32.format.read (FloatKind.f32.format.nearest false 0 0) = .number false 0 (-149) := by rw [nearest_zero]; exact zero32 false
    rw [int_pos this]; rfl
  · have hl : n.log2 ≤ 23 := by
      have := (Nat.log2_lt h0 (k := 24)).2 h
      omega
    rw [int_pos (read32 false h0 h (by decide) (by decide))]
    unfold whole
    rw [show (0 + (n.log2 : Int) - 23).toNat = 0 by omega, Nat.shiftLeft_zero, show (-(0 + (n.log2 : Int) - 23)).toNat = 23 - n.log2 by omega, Nat.mul_div_cancel _ (Nat.two_pow_pos _)]
theorem sub_one {n : Nat} (h1 : 1 ≤ n) (h : n < 2 ^ 24) : fsub .f32 (FloatKind.f32.nearest (n : Int)) 1065353216 = FloatKind.f32.nearest ((n - 1 : Nat) : Int) := by
  have hl : n.log2 ≤ 23 := by
    have := (Nat.log2_lt (n := n) (by omega) (k := 24)).2 h
    omega
  have r1 : FloatKind.f32.format.read 1065353216 = .number false (2 ^ 23) (-23) := by decide +kernel
  have rn := read32 false (m := n) (p := 0) (by omega) h (by decide) (by decide)
  have hsum : (Datum.number false (n * 2 ^ (23 - n.log2)) (0 + (n.log2 : Int) - 23)).sum (Datum.number false (2 ^ 23) (-23)).opposite = some (.number false ((n - 1) * 2 ^ 23) (-23)) := by
    show some (Datum.number _ _ _) = _
    have hb : min (0 + (n.log2 : Int) - 23) (-23) = -23 := by omega
    have ht : signed false (n * 2 ^ (23 - n.log2)) (0 + (n.log2 : Int) - 23 - -23).toNat + signed (!false) (2 ^ 23) ((-23 : Int) - -23).toNat = (((n - 1) * 2 ^ 23 : Nat) : Int) := by
      show signed false _ _ + signed true _ _ = _
      rw [signed_f, signed_t, Nat.mul_assoc, ← Nat.pow_add, show 23 - n.log2 + (0 + (n.log2 : Int) - 23 - -23).toNat = 23 by omega, show ((-23 : Int) - -23).toNat = 0 by decide, Nat.pow_zero, Nat.mul_one, Nat.sub_mul]
      omega
    rw [hb, ht]
    by_cases h0 : n = 1
    · subst h0; rfl
    · rw [if_neg (by omega), Int.natAbs_natCast, decide_eq_false (by omega)]
  have hsub : FloatKind.f32.format.sub (FloatKind.f32.nearest (n : Int)) 1065353216 = some (FloatKind.f32.nearest ((n - 1 : Nat) : Int)) := by
    rw [nearest_nat, nearest_nat]
    unfold Format.sub
    rw [rn, r1, hsum]
    exact congrArg some (scale_eq _ _ 23 rfl (by decide))
  unfold fsub
  rw [hsub, Option.getD_some]
  exact (fw_nearest .f32 _).self
theorem c2 : FW .f32 1073741824 1073741824 := fw_c32 (by decide) (by decide)
theorem c3 : FW .f32 1077936128 1077936128 := fw_c32 (by decide) (by decide)
theorem c1024 : FW .f32 1149239296 1149239296 := fw_c32 (by decide) (by decide)
theorem c025 : FW .f32 1048576000 1048576000 := fw_c32 (by decide) (by decide)
section
variable {h : Heap} {x a : Nat}
/-- What AllpassFor answers. -/
def ApR (u : Value) (f : Nat) : Prop := ∃ (k n : Int) (y : Nat), u = .tuple ⟨[.agg ⟨flC k y 0 0 0 0⟩, .int .i64 n]⟩ ∧ rFilter.ow [] (flC k y 0 0 0 0) (allpassFor f)
theorem AllpassFor_c (hx : FW .f32 x a) : CALL prg f_impl_AllpassFor #[.float .f32 x] (fun u h' => ApR u a ∧ Ext h h') h := by
  refine impl_AllpassFor.call ((Mem.start h).alc fun g1 h1 x1 M => ?_)
  rw [ord_eq hx fw0, ord_eq hx c2]
  have bad : allpassFor a = z_Filter → STA 6 h1 ⟨g1, 0, none⟩ ⟨Z_impl_Filter⟩ fun h8 => LDA 6 h8 ⟨g1, 0, none⟩ fun a9 => ApR (.tuple ⟨[.agg a9, .int .i64 (2 : Int)]⟩) a ∧ Ext h h8 := fun e =>
    M.sta0 .here rfl (all_one rfl) rfl .here fun h3 M => M.lda0 .here rfl ⟨⟨0, 2, 0, rfl, by rw [e]; exact zow_Filter⟩, M.ext⟩
  refine br (fun k1 => brN (fun k2 => bad (by rw [allpassFor, inside, fge, fle, k1, k2]; rfl)) fun k2 => ?_) fun k1 => bad (by rw [allpassFor, inside, fge, k1]; rfl)
  have e : inside a 0 1073741824 = true := by rw [inside, fge, fle, k1, k2]; rfl
  unfold impl_AllpassFor.J3
  refine fS c1 hx fun r7 h7 => fA c1 hx fun r8 h8 => fD h7 h8 fun r9 h9 => siz rfl (M.sta0 .here rfl (all_one rfl) rfl .here fun h3 M => M.lda0 .here rfl ⟨⟨3, 0, r9, rfl, ?_⟩, M.ext⟩)
  rw [allpassFor, e, if_pos rfl]
  exact filter_ow h9 fw0 fw0 fw0 fw0
theorem spec_AllpassFor_c (hx : FW .f32 x a) : CALL prg f_spec_AllpassFor #[.float .f32 x] (fun u h' => ApR u a ∧ Ext h h') h := by
  refine spec_AllpassFor.call ((Mem.start h).alc fun g1 h1 x1 M => ?_)
  rw [ord_eq hx fw0, ord_eq hx c2]
  have bad : allpassFor a = z_Filter → STA 6 h1 ⟨g1, 0, none⟩ ⟨Z_impl_Filter⟩ fun h8 => LDA 6 h8 ⟨g1, 0, none⟩ fun a9 => ApR (.tuple ⟨[.agg a9, .int .i64 (2 : Int)]⟩) a ∧ Ext h h8 := fun e =>
    M.sta0 .here rfl (all_one rfl) rfl .here fun h3 M => M.lda0 .here rfl ⟨⟨0, 2, 0, rfl, by rw [e]; exact zow_Filter⟩, M.ext⟩
  refine br (fun k1 => brN (fun k2 => bad (by rw [allpassFor, inside, fge, fle, k1, k2]; rfl)) fun k2 => ?_) fun k1 => bad (by rw [allpassFor, inside, fge, k1]; rfl)
  have e : inside a 0 1073741824 = true := by rw [inside, fge, fle, k1, k2]; rfl
  unfold spec_AllpassFor.J3
  refine fS c1 hx fun r7 h7 => fA c1 hx fun r8 h8 => fD h7 h8 fun r9 h9 => siz rfl (M.sta0 .here rfl (all_one rfl) rfl .here fun h3 M => M.lda0 .here rfl ⟨⟨3, 0, r9, rfl, ?_⟩, M.ext⟩)
  rw [allpassFor, e, if_pos rfl]
  exact filter_ow h9 fw0 fw0 fw0 fw0
/-- A filter's cells that stand for one. -/
def FlR (u : Value) (f : GFilter) : Prop := ∃ (k : Int) (y z : Nat), u = .agg ⟨flC k y z 0 0 0⟩ ∧ rFilter.ow [] (flC k y z 0 0 0) f
theorem OneZero_c (hx : FW .f32 x a) : CALL prg f_impl_OneZero #[.float .f32 x] (fun u h' => FlR u (oneZero a) ∧ Ext h h') h :=
  impl_OneZero.call ((Mem.start h).alc fun g1 h1 x1 M => fS c1 hx fun r3 h3 => siz rfl (M.sta0 .here rfl (all_one rfl) rfl .here fun h3' M => M.lda0 .here rfl ⟨⟨2, r3, x, rfl, filter_ow h3 hx fw0 fw0 fw0⟩, M.ext⟩))
theorem spec_OneZero_c (hx : FW .f32 x a) : CALL prg f_spec_OneZero #[.float .f32 x] (fun u h' => FlR u (oneZero a) ∧ Ext h h') h :=
  spec_OneZero.call ((Mem.start h).alc fun g1 h1 x1 M => fS c1 hx fun r3 h3 => siz rfl (M.sta0 .here rfl (all_one rfl) rfl .here fun h3' M => M.lda0 .here rfl ⟨⟨2, r3, x, rfl, filter_ow h3 hx fw0 fw0 fw0⟩, M.ext⟩))
theorem OnePole_c (hx : FW .f32 x a) : CALL prg f_impl_OnePole #[.float .f32 x] (fun u h' => FlR u (onePole a) ∧ Ext h h') h :=
  impl_OnePole.call ((Mem.start h).alc fun g1 h1 x1 M => fS c1 hx fun r3 h3 => siz rfl (M.sta0 .here rfl (all_one rfl) rfl .here fun h3' M => M.lda0 .here rfl ⟨⟨1, r3, x, rfl, filter_ow h3 hx fw0 fw0 fw0⟩, M.ext⟩))
theorem spec_OnePole_c (hx : FW .f32 x a) : CALL prg f_spec_OnePole #[.float .f32 x] (fun u h' => FlR u (onePole a) ∧ Ext h h') h :=
  spec_OnePole.call ((Mem.start h).alc fun g1 h1 x1 M => fS c1 hx fun r3 h3 => siz rfl (M.sta0 .here rfl (all_one rfl) rfl .here fun h3' M => M.lda0 .here rfl ⟨⟨1, r3, x, rfl, filter_ow h3 hx fw0 fw0 fw0⟩, M.ext⟩))
end
end Go.Sx
/- New strings: the rule's and the program's. -/
set_option linter.unusedVariables false
set_option linter.unusedSimpArgs false
namespace Go.Sx
open Go.Proofs Ieee
set_option maxRecDepth 100000
set_option maxHeartbeats 1000000

section
variable {h : Heap} {x a p q m n : Nat}
theorem str_fine {p m l : Nat} (h1 : inside p 1077936128 1149239296 = true) (h2 : inside m 0 1056964608 = true) : ∃ k e, FloatKind.f32.format.read (fsub .f32 p m) = .number false k e ∧ floorN (fsub .f32 p m) = whole k e ∧ 2 ≤ whole k e ∧ whole k e ≤ 1024 ∧ 1 ≤ strN p m ∧ strN p m ≤ 1024 := by
  obtain ⟨k, e, hr, g1, g2⟩ := period_sub h1 h2
  have hf : floorN (fsub .f32 p m) = whole k e := by unfold floorN; rw [hr]
  refine ⟨k, e, hr, hf, g1, g2, ?_⟩
  unfold strN
  rw [hf]
  split <;> omega
theorem spec_NewString_c {l z : Nat} (hp : FW .f32 x p) (hm : FW .f32 a m) (hl : FW .f32 z l) : CALL prg f_spec_NewString #[.float .f32 x, .float .f32 a, .float .f32 z] (fun u h' => PairR rString h h' u (newString p m l).1 (newString p m l).2) h := by
  refine spec_NewString.call ((Mem.start h).alc fun g1 h1 x1 M => ?_)
  rw [ord_eq hp c3, ord_eq hp c1024, ord_eq hm fw0, ord_eq hm c05, ord_eq hl fw0, ord_eq hl c1]
  have bad : newString p m l = (z_String, 2) → STA 15 h1 ⟨g1, 0, none⟩ ⟨Z_impl_String⟩ fun h8 => LDA 15 h8 ⟨g1, 0, none⟩ fun a9 => PairR rString h h8 (.tuple ⟨[.agg a9, .int .i64 (2 : Int)]⟩) (newString p m l).1 (newString p m l).2 := fun e => by
    rw [e]
    exact M.sta0 .here rfl (all_one rfl) rfl .here fun h3 M => M.lda0 .here rfl ⟨_, [], rfl, zow_String, (Mem.start h).grow M.ext⟩
  refine br (fun k1 => brN (fun k2 => bad (by rw [newString, inside, fge, fle, k1, k2]; rfl)) fun k2 => ?_) fun k1 => bad (by rw [newString, inside, fge, k1]; rfl)
  have e1 : inside p 1077936128 1149239296 = true := by rw [inside, fge, fle, k1, k2]; rfl
  refine br (fun k3 => brN (fun k4 => bad (by rw [newString, e1, inside, fge, fle, k3, k4]; rfl)) fun k4 => ?_) fun k3 => bad (by rw [newString, e1, inside, fge, k3]; rfl)
  have e2 : inside m 0 1056964608 = true := by rw [inside, fge, fle, k3, k4]; rfl
  refine br (fun k5 => brN (fun k6 => bad (by rw [newString, e1, e2, inside, fge, fle, k5, k6]; rfl)) fun k6 => ?_) fun k5 => bad (by rw [newString, e1, e2, inside, fge, k5]; rfl)
  have e3 : inside l 0 1065353216 = true := by rw [inside, fge, fle, k5, k6]; rfl
  have fine : newString p m l = (strOf p m l, 0) := by rw [newString, e1, e2, e3]; rfl
  rw [fine]
  obtain ⟨k, e, hr, hf, g1', g2', g3, g4⟩ := str_fine (l := l) e1 e2
  have fin : ∀ {hh : Heap} {B : List Blk} {cells : List Value}, Mem h hh ((g1, T_impl_String, ⟨Z_impl_String⟩) :: B) → rString.ow B cells (strOf p m l) → STA 15 hh ⟨g1, 0, none⟩ ⟨cells⟩ fun h34 => LDA 15 h34 ⟨g1, 0, none⟩ fun a35 => PairR rString h h34 (.tuple ⟨[.agg a35, .int .i64 (0 : Int)]⟩) (strOf p m l) 0 := fun M O =>
    M.sta0 .here (rString.olen O) (rString.oone O) rfl .here fun h34 M => M.lda0 .here (rString.olen O) ⟨_, _, rfl, O, M.drop⟩
  have key : ∀ n9 : Nat, n9 = strN p m → ∀ {r15 : Nat}, FW .f32 r15 (fsub .f32 p m) → spec_NewString.J7 (fun u h' => PairR rString h h' u (strOf p m l) 0) a z ⟨g1, 0, none⟩ r15 (n9 : Int) h1 := by
    intro n9 hn r15 h15
    subst hn
    unfold spec_NewString.J7
    refine fS h15 (fw_nearest .f32 _) fun r18 h18 => (spec_AllpassFor_c h18).mono ?_
    rintro _ h2 ⟨⟨k2, n2, y2, rfl, O2⟩, x2⟩
    refine tup2 (as_a (as_i ((M.grow x2).alc fun g25 h3 x3 M => M.sta0 .here rfl (all_one rfl) rfl .here fun h4 M => M.lda0 .here rfl ⟨?_, ?_⟩)))
    · have P : RdP rFilter h4 ⟨g25, 0, none⟩ _ := M.rdp .here (rFilter.look O2 M (List.nil_sublist _))
      refine make_sl (r := rF .f32) (z := 0) (zc := [.float .f32 0]) ⟨rfl, 0, rfl, fw0⟩ rfl rfl (by decide) M (by show 4 * strN p m ≤ 2 ^ 48; omega) (Nat.le_trans g4 (by decide)) fun g29 h5 x5 M O => P.pin rfl x5 ?_
      refine (spec_OneZero_c hm).mono ?_
      rintro _ h6 ⟨⟨k3, y3, z3, rfl, O3⟩, x6⟩
      refine as_a (P.pin rfl (x5.trans x6) (siz rfl (siz rfl (siz rfl (fin ((M.grow x6).cnt (fun p => by simp only [cnt_app, cnt_cons, cnt_nil] at *; omega)) (string_ow (x := strOf p m l) O O2 O3 hl))))))
    · have P : RdP rFilter h4 ⟨g25, 0, none⟩ _ := M.rdp .here (rFilter.look O2 M (List.nil_sublist _))
      refine (spec_OneZero_c hm).mono ?_
      rintro _ h5 ⟨⟨k3, y3, z3, rfl, O3⟩, x5⟩
      refine as_a (P.pin rfl x5 ?_)
      refine make_sl (r := rF .f32) (z := 0) (zc := [.float .f32 0]) ⟨rfl, 0, rfl, fw0⟩ rfl rfl (by decide) (M.grow x5) (by show 4 * strN p m ≤ 2 ^ 48; omega) (Nat.le_trans g4 (by decide)) fun g29 h6 x6 M O => P.pin rfl (x5.trans x6) ?_
      exact siz rfl (siz rfl (siz rfl (fin (M.cnt (fun p => by simp only [cnt_app, cnt_cons, cnt_nil] at *; omega)) (string_ow (x := strOf p m l) O O2 O3 hl))))
  unfold spec_NewString.J3
  refine fS hp hm fun r15 h15 => ?_
  have hn15 : nan .f32 (fsub .f32 p m) = false := by unfold Sx.nan; rw [hr]; rfl
  have h15e := h15.eq hn15
  subst h15e
  refine ficI (int_pos hr) (by omega) (by omega) (fS h15 (fw_nearest .f32 _) fun r17 h17 => ?_)
  rw [ord_eq h17 c025, ← hf]
  rw [← hf] at g1'
  refine br (fun kk => ?_) fun kk => ?_
  · rw [wrap_pred (by omega) (by omega)]
    exact key _ (by unfold strN flt; rw [if_pos kk]) h15
  · exact key _ (by unfold strN flt; rw [kk]; rfl) h15
theorem NewString_c {l z : Nat} (hp : FW .f32 x p) (hm : FW .f32 a m) (hl : FW .f32 z l) : CALL prg f_impl_NewString #[.float .f32 x, .float .f32 a, .float .f32 z] (fun u h' => PairR rString h h' u (newString p m l).1 (newString p m l).2) h := by
  refine impl_NewString.call ((Mem.start h).alc fun g1 h1 x1 M => ?_)
  have bad : ∀ {hh : Heap}, Mem h hh [(g1, T_impl_String, ⟨Z_impl_String⟩)] → newString p m l = (z_String, 2) → STA 15 hh ⟨g1, 0, none⟩ ⟨Z_impl_String⟩ fun h8 => LDA 15 h8 ⟨g1, 0, none⟩ fun a9 => PairR rString h h8 (.tuple ⟨[.agg a9, .int .i64 (2 : Int)]⟩) (newString p m l).1 (newString p m l).2 := fun M e => by
    rw [e]
    exact M.sta0 .here rfl (all_one rfl) rfl .here fun h3 M => M.lda0 .here rfl ⟨_, [], rfl, zow_String, (Mem.start h).grow M.ext⟩
  refine goM M (inside_c hp c3 c1024 _) fun h2 M => as_b (brN (fun e => bad M (by rw [newString, e]; rfl)) fun e1 => ?_)
  refine goM M (inside_c hm fw0 c05 _) fun h3 M => as_b (brN (fun e => bad M (by rw [newString, e1, e]; rfl)) fun e2 => ?_)
  refine goM M (inside_c hl fw0 c1 _) fun h4 M => as_b (brN (fun e => bad M (by rw [newString, e1, e2, e]; rfl)) fun e3 => ?_)
  have fine : newString p m l = (strOf p m l, 0) := by rw [newString, e1, e2, e3]; rfl
  rw [fine]
  obtain ⟨k, e, hr, hf, g1', g2', g3, g4⟩ := str_fine (l := l) e1 e2
  have fin : ∀ {hh : Heap} {B : List Blk} {cells : List Value}, Mem h hh ((g1, T_impl_String, ⟨Z_impl_String⟩) :: B) → rString.ow B cells (strOf p m l) → STA 15 hh ⟨g1, 0, none⟩ ⟨cells⟩ fun h34 => LDA 15 h34 ⟨g1, 0, none⟩ fun a35 => PairR rString h h34 (.tuple ⟨[.agg a35, .int .i64 (0 : Int)]⟩) (strOf p m l) 0 := fun M O =>
    M.sta0 .here (rString.olen O) (rString.oone O) rfl .here fun h34 M => M.lda0 .here (rString.olen O) ⟨_, _, rfl, O, M.drop⟩
  have key : ∀ n9 : Nat, n9 = strN p m → ∀ {hh : Heap} {r15 y9 : Nat}, Mem h hh [(g1, T_impl_String, ⟨Z_impl_String⟩)] → FW .f32 r15 (fsub .f32 p m) → FW .f32 y9 (FloatKind.f32.nearest (n9 : Int)) → impl_NewString.J7 (fun u h' => PairR rString h h' u (strOf p m l) 0) a z ⟨g1, 0, none⟩ r15 y9 hh := by
    intro n9 hn hh r15 y9 M h15 h9
    subst hn
    unfold impl_NewString.J7
    have h9e := h9.eq (nearest_not_nan _ _)
    subst h9e
    refine ficI (near_int32 (by omega)) (by omega) (by omega) ((NewRing_c _ _).mono ?_)
    rintro _ h2 ⟨cR, BR, rfl, OR, N⟩
    have hin : inR ((strN p m : Nat) : Int) 1 1024 = true := by rw [inR, decide_eq_true (by omega), decide_eq_true (by omega)]; rfl
    rw [hin] at OR
    obtain ⟨b, l', c', rfl, OS⟩ := ring_cells OR
    have OS : SlO T_float32 (rF .f32) BR b l' c' (List.replicate (strN p m) 0) := OS
    have M := M.join N
    refine tup2 (as_a (as_i (M.alc fun g33 h3 x3 M => M.sta0 .here rfl (all_one rfl) rfl .here fun h4 M => fS h15 h9 fun r36 h36 => (AllpassFor_c h36).mono ?_)))
    rintro _ h5 ⟨⟨k2, n2, y2, rfl, O2⟩, x5⟩
    refine tup2 (as_a (as_i ((M.grow x5).alc fun g43 h6 x6 M => M.sta0 .here rfl (all_one rfl) rfl .here fun h7 M => M.lda0 (.there .here) rfl (M.lda0 .here rfl ((OneZero_c hm).mono ?_)))))
    rintro _ h8 ⟨⟨k3, y3, z3, rfl, O3⟩, x8⟩
    have P : RdP rFilter h7 ⟨g43, 0, none⟩ _ := M.rdp .here (rFilter.look O2 M (List.nil_sublist _))
    have Q : RdP rRing h7 ⟨g33, 0, none⟩ ⟨List.replicate (strN p m) 0, 0⟩ := M.rdp (.there .here) (rRing.look (ring_ow (r := ⟨List.replicate (strN p m) 0, 0⟩) OS) (M.cnt (W := BR) (fun p => by simp only [cnt_app, cnt_cons, cnt_nil] at *; omega)) (List.Sublist.refl _))
    refine as_a (P.pin rfl x8 (Q.pin rfl x8 (siz rfl (siz rfl (siz rfl (fin ((M.grow x8).cnt (fun p => by simp only [cnt_app, cnt_cons, cnt_nil] at *; omega)) (string_ow (x := strOf p m l) OS O2 O3 hl)))))))
  unfold impl_NewString.J3
  refine fS hp hm fun r15 h15 => ?_
  have hn15 : nan .f32 (fsub .f32 p m) = false := by unfold Sx.nan; rw [hr]; rfl
  obtain ⟨B, hB⟩ : ∃ B : Nat, 1100 ≤ B := ⟨1100, Nat.le_refl _⟩
  obtain ⟨_, _, hw, _⟩ := wide_read hB hr
  have hwid : wid (fsub .f32 p m) = wide (fsub .f32 p m) := number_cn hw
  have hnw : nan .f64 (wide (fsub .f32 p m)) = false := by unfold Sx.nan; rw [hw]; rfl
  obtain ⟨_, _, hwr, _⟩ := whole_read hB false (N := whole k e) (by omega)
  have hnf : nan .f64 (flr (wide (fsub .f32 p m))) = false := by rw [flr_pos hr]; unfold Sx.nan; rw [hwr]; rfl
  obtain ⟨nf1, nf2⟩ := nar_whole (N := whole k e) (by omega)
  refine ffc_wide h15 fun r19 h19 => ?_
  rw [hwid] at h19
  have h19e := h19.eq hnw
  subst h19e
  refine goM M (Floor_c hnw _) fun h5 M => as_f ?_
  refine ffc_nar (flr_fw hnf) (by rw [flr_pos hr]; exact nf1) fun r23 h23 => ?_
  rw [flr_pos hr, nf2, ← nearest_nat, ← hf] at h23
  rw [← hf] at g1'
  refine fS h15 h23 fun r24 h24 => ?_
  rw [ord_eq h24 c025]
  refine br (fun kk => fS h23 c1 fun r25 h25 => ?_) fun kk => ?_
  · rw [sub_one (by omega) (by omega)] at h25
    exact key _ (by unfold strN flt; rw [if_pos kk]) M h15 h25
  · exact key _ (by unfold strN flt; rw [kk]; rfl) M h15 h23
end
end Go.Sx
