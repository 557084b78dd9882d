/- The program: which events are good, which scores. -/
import Derived.Test.YthgnpepchedpbaaGreatLr4
import Derived.Test.YthgnpepchedpbaaGreatLm6
import Derived.Test.YthgnpepchedpbaaGreatTab
import Derived.Test.YthgnpepchedpbaaGreatLk7
import Derived.Test.YthgnpepchedpbaaGreatLk8
set_option linter.unusedVariables false
set_option linter.unusedSimpArgs false
namespace Go.Sx
open Go.Proofs
set_option maxRecDepth 100000
set_option maxHeartbeats 2000000

noncomputable def GScore.ok (s : GScore) : Bool := inside s.Rate 1065353216 1232348160 && s.Tuning.ok && (decide (s.Instruments.length ≤ 6) && instOk s.Instruments) && evOk s.Events s.Instruments.length
end Go.Sx
/- Tunings: cents, frequencies, periods. -/
set_option linter.unusedVariables false
set_option linter.unusedSimpArgs false
namespace Go.Sx
open Go.Proofs Ieee
set_option maxRecDepth 100000
set_option maxHeartbeats 1000000

def GTuning.turn (t : GTuning) (key : Int) : Nat := fdiv .f32 (t.centsOf key) 1150681088
def GTuning.hz (t : GTuning) (key : Int) : Nat := fmul .f32 t.Base (twoTo (t.turn key))
def GTuning.asked (t : GTuning) (key : Int) : Nat × Int := if t.ok then if inR key (-100) 100 then if inTwo (t.turn key) then (t.hz key, 0) else (0, 2) else (0, 2) else (0, 1)
def GTuning.period (t : GTuning) (key : Int) (rate : Nat) : Nat × Int := if (t.asked key).2 = 0 then if inside rate 1065353216 1232348160 then (fdiv .f32 rate (t.asked key).1, 0) else (0, 2) else (0, (t.asked key).2)
end Go.Sx
/- What the laws have in common: values marked and compared among others. -/
set_option linter.unusedVariables false
set_option linter.unusedSimpArgs false
namespace Go.Sx
open Go.Proofs
set_option maxRecDepth 100000

theorem PairR.go {α : Type} {r : Rep α} {P : Program} {f : FuncId} {args : Array Value} {a : α} {code : Int} {hb h : Heap} {L : List Blk} {K : Value → Heap → Prop} (M : Mem hb h L) (c : CALL P f args (fun u h' => PairR r h h' u a code) h)
    (H : ∀ h' cs B, Mem hb h' (B ++ L) → r.ow B cs.toList a → cs.size = r.sz → K (.tuple ⟨[.agg cs, .int .i64 code]⟩) h') : CALL P f args K h :=
  c.mono fun u h' ⟨cs, B, e, O, N⟩ => by subst e; exact H h' cs B (M.join N) O (by simpa using r.olen O)
theorem eqB {a : Int} {p q : Prop} (H : q) : BIF (a != a) p q := by
  rw [show (a != a) = false by simp]; exact H
end Go.Sx
/- What functions of this seat's program compute, told in words (a predicate over heaps for each), and the proofs that the words are no more than the code's own weakest precondition. -/
namespace Go.Sx
open Go.Proofs
set_option linter.unusedVariables false
set_option maxRecDepth 100000

def spec_OnePole.S (keep_0 : Nat) (Post : Value → Heap → Prop) (h : Heap) : Prop :=
    ALC ⟨Z_impl_Filter⟩ T_impl_Filter (fun g1 h2 =>
    FOP .f32 (FloatKind.f32.format.sub 1065353216 keep_0) fun r3 =>
    SIZ (Array.size (⟨[.float .f32 r3, .float .f32 keep_0, .float .f32 0]⟩ : Array Value)) 3 <|
    STA 6 h2 ⟨g1, 0, none⟩ (⟨[.int .i64 (1 : Int), .float .f32 r3, .float .f32 keep_0, .float .f32 0, .float .f32 0, .float .f32 0]⟩ : Array Value) fun h4 =>
    LDA 6 h4 ⟨g1, 0, none⟩ fun a5 =>
    Post (.agg a5) h4) h
noncomputable def spec_OnePole.code : Code := (Tryz.f120.body).getD .skip
theorem spec_OnePole.call {keep_0 : Nat} {Post : Value → Heap → Prop} {h : Heap} (H : spec_OnePole.S keep_0 Post h) : CALL prg f_spec_OnePole #[.float .f32 keep_0] Post h :=
  fn_call tau_ok mixed (c := spec_OnePole.code) (Λ := lookL []) Tryz.func120 (by kernel_rfl) (by kernel_rfl)
    (Rq.free (by kernel_rfl))
    (Eq.mp (by kernel_rfl) H)

def spec_l00Max.S (a_0 : Int) (b_1 : Int) (Post : Value → Heap → Prop) (h : Heap) : Prop :=
    BIF (decide (b_1 < a_0)) (
    Post (.int .i64 a_0) h) (
    Post (.int .i64 b_1) h)
noncomputable def spec_l00Max.code : Code := (Tryz.f122.body).getD .skip
theorem spec_l00Max.call {a_0 : Int} {b_1 : Int} {Post : Value → Heap → Prop} {h : Heap} (H : spec_l00Max.S a_0 b_1 Post h) : CALL prg f_spec_l00Max #[.int .i64 a_0, .int .i64 b_1] Post h :=
  fn_call tau_ok mixed (c := spec_l00Max.code) (Λ := lookL []) Tryz.func122 (by kernel_rfl) (by kernel_rfl)
    (Rq.free (by kernel_rfl))
    (Eq.mp (by kernel_rfl) H)

end Go.Sx
/- New strings. -/
set_option linter.unusedVariables false
set_option linter.unusedSimpArgs false
namespace Go.Sx
open Go.Proofs Ieee
set_option maxRecDepth 100000
set_option maxHeartbeats 1000000

def allpassFor (f : Nat) : GFilter := if inside f 0 1073741824 then ⟨3, [fdiv .f32 (fsub .f32 1065353216 f) (fadd .f32 1065353216 f), 0, 0], [0, 0]⟩ else z_Filter
def oneZero (m : Nat) : GFilter := ⟨2, [fsub .f32 1065353216 m, m, 0], [0, 0]⟩
def onePole (k : Nat) : GFilter := ⟨1, [fsub .f32 1065353216 k, k, 0], [0, 0]⟩
def strN (p m : Nat) : Nat := if flt .f32 (fsub .f32 (fsub .f32 p m) (FloatKind.f32.nearest ((floorN (fsub .f32 p m) : Nat) : Int))) 1048576000 then floorN (fsub .f32 p m) - 1 else floorN (fsub .f32 p m)
def strOf (p m l : Nat) : GString := { Loop := ⟨List.replicate (strN p m) 0, 0⟩, Tune := allpassFor (fsub .f32 (fsub .f32 p m) (FloatKind.f32.nearest ((strN p m : Nat) : Int))), Damp := oneZero m, Loss := l }
def newString (p m l : Nat) : GString × Int := if inside p 1077936128 1149239296 then if inside m 0 1056964608 then if inside l 0 1065353216 then (strOf p m l, 0) else (z_String, 2) else (z_String, 2) else (z_String, 2)
/-- A filter's cells. -/
def flC (k : Int) (a b c d e : Nat) : List Value := [.int .i64 k, .float .f32 a, .float .f32 b, .float .f32 c, .float .f32 d, .float .f32 e]
theorem filter_ow {k : Int} {a b c d e a' b' c' d' e' : Nat} (ha : FW .f32 a a') (hb : FW .f32 b b') (hc : FW .f32 c c') (hd : FW .f32 d d') (he : FW .f32 e e') : rFilter.ow [] (flC k a b c d e) ⟨k, [a', b', c'], [d', e']⟩ :=
  ⟨[], [], [.int .i64 k], _, rfl, rfl, ⟨rfl, rfl⟩, [], [], [.float .f32 a, .float .f32 b, .float .f32 c], [.float .f32 d, .float .f32 e], rfl, rfl,
    ⟨rfl, [], [], [.float .f32 a], _, rfl, rfl, ⟨rfl, a, rfl, ha⟩, [], [], [.float .f32 b], _, rfl, rfl, ⟨rfl, b, rfl, hb⟩, [], [], [.float .f32 c], [], rfl, rfl, ⟨rfl, c, rfl, hc⟩, rfl, rfl⟩,
    ⟨rfl, [], [], [.float .f32 d], _, rfl, rfl, ⟨rfl, d, rfl, hd⟩, [], [], [.float .f32 e], [], rfl, rfl, ⟨rfl, e, rfl, he⟩, rfl, rfl⟩⟩
theorem c2 : FW .f32 1073741824 1073741824 := fw_c32 (by decide) (by decide)
theorem c3 : FW .f32 1077936128 1077936128 := fw_c32 (by decide) (by decide)
section
variable {h : Heap} {x a : Nat}
/-- A filter's cells that stand for one. -/
def FlR (u : Value) (f : GFilter) : Prop := ∃ (k : Int) (y z : Nat), u = .agg ⟨flC k y z 0 0 0⟩ ∧ rFilter.ow [] (flC k y z 0 0 0) f
theorem spec_OnePole_c (hx : FW .f32 x a) : CALL prg f_spec_OnePole #[.float .f32 x] (fun u h' => FlR u (onePole a) ∧ Ext h h') h :=
  spec_OnePole.call ((Mem.start h).alc fun g1 h1 x1 M => fS c1 hx fun r3 h3 => siz rfl (M.sta0 .here rfl (all_one rfl) rfl .here fun h3' M => M.lda0 .here rfl ⟨⟨1, r3, x, rfl, filter_ow h3 hx fw0 fw0 fw0⟩, M.ext⟩))
end
end Go.Sx
/- What functions of this seat's program compute, told in words (a predicate over heaps for each), and the proofs that the words are no more than the code's own weakest precondition. -/
namespace Go.Sx
open Go.Proofs
set_option linter.unusedVariables false
set_option maxRecDepth 100000

def spec_l02SameList.B4 (Post : Value → Heap → Prop) (N4 : (Option Addr × Nat × Nat × Option Addr × Nat × Nat × Int) → Heap → Prop) : Option Addr × Nat × Nat × Option Addr × Nat × Nat × Int → Heap → Prop
  | (a_0b, a_0l, a_0c, b_1b, b_1l, b_1c, i_5), h =>
    BIF ((decide (i_5 < (a_0l : Int)))) (
    IDXS a_0b i_5 a_0l fun p7 =>
    oF .f32 (cell h ((Addr.add p7 ((Int.toNat i_5) * 1)))) fun r8 =>
    IDXS b_1b i_5 b_1l fun p9 =>
    oF .f32 (cell h ((Addr.add p9 ((Int.toNat i_5) * 1)))) fun r10 =>
    CALL prg f_spec_l01Same #[.float .f32 r8, .float .f32 r10] (fun q11 h12 =>
    asB q11 fun b13 =>
    BIF (!b13) (
    Post (.bool false) h12) (
    N4 (a_0b, a_0l, a_0c, b_1b, b_1l, b_1c, ((IntKind.i64.wrap (i_5 + (1 : Int))))) h12)) h) (
    Post (.bool true) h)
def spec_l02SameList.g4 (fr : Frame) : Option Addr × Nat × Nat × Option Addr × Nat × Nat × Int := ((gLb (lget fr 0)), (gLl (lget fr 0)), (gLc (lget fr 0)), (gLb (lget fr 1)), (gLl (lget fr 1)), (gLc (lget fr 1)), (gI (lget fr 5)))
def spec_l02SameList.l4 (Post : Value → Heap → Prop) : Frame → Heap → Prop := fun fr h => GRD (shape (kds 27 [(0, .l), (1, .l), (5, .i .i64)]) fr) (LOOP (spec_l02SameList.B4 Post) (spec_l02SameList.g4 fr) h)
def spec_l02SameList.S (a_0b : Option Addr) (a_0l a_0c : Nat) (b_1b : Option Addr) (b_1l b_1c : Nat) (Post : Value → Heap → Prop) (h : Heap) : Prop :=
    BIF ((a_0l : Int) != (b_1l : Int)) (
    Post (.bool false) h) (
    LOOP (spec_l02SameList.B4 Post) (a_0b, a_0l, a_0c, b_1b, b_1l, b_1c, (0 : Int)) h)
noncomputable def spec_l02SameList.code : Code := (Tryz.f132.body).getD .skip
theorem spec_l02SameList.call {a_0b : Option Addr} {a_0l a_0c : Nat} {b_1b : Option Addr} {b_1l b_1c : Nat} {Post : Value → Heap → Prop} {h : Heap} (H : spec_l02SameList.S a_0b a_0l a_0c b_1b b_1l b_1c Post h) : CALL prg f_spec_l02SameList #[.slice a_0b a_0l a_0c, .slice b_1b b_1l b_1c] Post h :=
  fn_call tau_ok mixed (c := spec_l02SameList.code) (Λ := lookL [(1000004, spec_l02SameList.l4 Post)]) Tryz.func132 (by kernel_rfl) (by kernel_rfl)
    (Rq.seq (by kernel_rfl) (Rq.free (by kernel_rfl)) (Rq.seq (by kernel_rfl) (Rq.free (by kernel_rfl)) (Rq.seq (by kernel_rfl) (Rq.seq (by kernel_rfl) (Rq.free (by kernel_rfl)) (Rq.block (Rq.loop (spec_l02SameList.l4 Post) (by kernel_rfl) (segL (g := spec_l02SameList.g4) tau_ok mixed (Λ := fun N4 => lookL []) (fun _ _ _ => by kernel_rfl) (fun N4 => (Rq.free (by kernel_rfl))))))) (Rq.free (by kernel_rfl)))))
    (Eq.mp (by kernel_rfl) H)

def spec_l02Same.B4 (Post : Value → Heap → Prop) (N4 : (Addr × Addr × Int) → Heap → Prop) : Addr × Addr × Int → Heap → Prop
  | (f_0, g_1, i_5), h =>
    BIF ((decide (i_5 < (3 : Int)))) (
    IDX i_5 3 <|
    oF .f32 (cell h ((Addr.add (Addr.add f_0 1) ((Int.toNat i_5) * 1)))) fun r3 =>
    IDX i_5 3 <|
    oF .f32 (cell h ((Addr.add (Addr.add g_1 1) ((Int.toNat i_5) * 1)))) fun r4 =>
    CALL prg f_spec_l01Same #[.float .f32 r3, .float .f32 r4] (fun q5 h6 =>
    asB q5 fun b7 =>
    BIF (!b7) (
    Post (.bool false) h6) (
    N4 (f_0, g_1, ((IntKind.i64.wrap (i_5 + (1 : Int))))) h6)) h) (
    IDX (0 : Int) 2 <|
    oF .f32 (cell h (Addr.add f_0 4)) fun r8 =>
    IDX (0 : Int) 2 <|
    oF .f32 (cell h (Addr.add g_1 4)) fun r9 =>
    CALL prg f_spec_l01Same #[.float .f32 r8, .float .f32 r9] (fun q10 h11 =>
    asB q10 fun b12 =>
    BIF b12 (
    IDX (1 : Int) 2 <|
    oF .f32 (cell h11 (Addr.add f_0 5)) fun r13 =>
    IDX (1 : Int) 2 <|
    oF .f32 (cell h11 (Addr.add g_1 5)) fun r14 =>
    CALL prg f_spec_l01Same #[.float .f32 r13, .float .f32 r14] (fun q15 h16 =>
    asB q15 fun b17 =>
    Post (.bool b17) h16) h11) (
    Post (.bool false) h11)) h)
def spec_l02Same.g4 (fr : Frame) : Addr × Addr × Int := ((gP (lget fr 0)), (gP (lget fr 1)), (gI (lget fr 5)))
def spec_l02Same.l4 (Post : Value → Heap → Prop) : Frame → Heap → Prop := fun fr h => GRD (shape (kds 57 [(0, .p), (1, .p), (5, .i .i64)]) fr) (LOOP (spec_l02Same.B4 Post) (spec_l02Same.g4 fr) h)
def spec_l02Same.S (f_0 : Addr) (g_1 : Addr) (Post : Value → Heap → Prop) (h : Heap) : Prop :=
    oI .i64 (cell h f_0) fun n1 =>
    oI .i64 (cell h g_1) fun n2 =>
    BIF (n1 != n2) (
    Post (.bool false) h) (
    LOOP (spec_l02Same.B4 Post) (f_0, g_1, (0 : Int)) h)
noncomputable def spec_l02Same.code : Code := (Tryz.f110.body).getD .skip
theorem spec_l02Same.call {f_0 : Addr} {g_1 : Addr} {Post : Value → Heap → Prop} {h : Heap} (H : spec_l02Same.S f_0 g_1 Post h) : CALL prg f_spec_l02Same #[.pointer (some f_0), .pointer (some g_1)] Post h :=
  fn_call tau_ok mixed (c := spec_l02Same.code) (Λ := lookL [(1000004, spec_l02Same.l4 Post)]) Tryz.func110 (by kernel_rfl) (by kernel_rfl)
    (Rq.seq (by kernel_rfl) (Rq.free (by kernel_rfl)) (Rq.seq (by kernel_rfl) (Rq.free (by kernel_rfl)) (Rq.seq (by kernel_rfl) (Rq.seq (by kernel_rfl) (Rq.free (by kernel_rfl)) (Rq.block (Rq.loop (spec_l02Same.l4 Post) (by kernel_rfl) (segL (g := spec_l02Same.g4) tau_ok mixed (Λ := fun N4 => lookL []) (fun _ _ _ => by kernel_rfl) (fun N4 => (Rq.free (by kernel_rfl))))))) (Rq.free (by kernel_rfl)))))
    (Eq.mp (by kernel_rfl) H)

def spec_l04SameRings.B4 (Post : Value → Heap → Prop) (N4 : (Option Addr × Nat × Nat × Option Addr × Nat × Nat × Int) → Heap → Prop) : Option Addr × Nat × Nat × Option Addr × Nat × Nat × Int → Heap → Prop
  | (a_0b, a_0l, a_0c, b_1b, b_1l, b_1c, i_5), h =>
    BIF ((decide (i_5 < (a_0l : Int)))) (
    IDXS a_0b i_5 a_0l fun p7 =>
    oI .i64 (cell h ((Addr.add ((Addr.add p7 ((Int.toNat i_5) * 2))) 1))) fun n8 =>
    IDXS b_1b i_5 b_1l fun p9 =>
    oI .i64 (cell h ((Addr.add ((Addr.add p9 ((Int.toNat i_5) * 2))) 1))) fun n10 =>
    BIF (n8 != n10) (
    Post (.bool false) h) (
    IDXS a_0b i_5 a_0l fun p11 =>
    oL (cell h ((Addr.add p11 ((Int.toNat i_5) * 2)))) fun l12b l12l l12c =>
    IDXS b_1b i_5 b_1l fun p13 =>
    oL (cell h ((Addr.add p13 ((Int.toNat i_5) * 2)))) fun l14b l14l l14c =>
    CALL prg f_spec_l02SameList #[.slice l12b l12l l12c, .slice l14b l14l l14c] (fun q15 h16 =>
    asB q15 fun b17 =>
    BIF (!b17) (
    Post (.bool false) h16) (
    N4 (a_0b, a_0l, a_0c, b_1b, b_1l, b_1c, ((IntKind.i64.wrap (i_5 + (1 : Int))))) h16)) h)) (
    Post (.bool true) h)
def spec_l04SameRings.g4 (fr : Frame) : Option Addr × Nat × Nat × Option Addr × Nat × Nat × Int := ((gLb (lget fr 0)), (gLl (lget fr 0)), (gLc (lget fr 0)), (gLb (lget fr 1)), (gLl (lget fr 1)), (gLc (lget fr 1)), (gI (lget fr 5)))
def spec_l04SameRings.l4 (Post : Value → Heap → Prop) : Frame → Heap → Prop := fun fr h => GRD (shape (kds 42 [(0, .l), (1, .l), (5, .i .i64)]) fr) (LOOP (spec_l04SameRings.B4 Post) (spec_l04SameRings.g4 fr) h)
def spec_l04SameRings.S (a_0b : Option Addr) (a_0l a_0c : Nat) (b_1b : Option Addr) (b_1l b_1c : Nat) (Post : Value → Heap → Prop) (h : Heap) : Prop :=
    BIF ((a_0l : Int) != (b_1l : Int)) (
    Post (.bool false) h) (
    LOOP (spec_l04SameRings.B4 Post) (a_0b, a_0l, a_0c, b_1b, b_1l, b_1c, (0 : Int)) h)
noncomputable def spec_l04SameRings.code : Code := (Tryz.f107.body).getD .skip
theorem spec_l04SameRings.call {a_0b : Option Addr} {a_0l a_0c : Nat} {b_1b : Option Addr} {b_1l b_1c : Nat} {Post : Value → Heap → Prop} {h : Heap} (H : spec_l04SameRings.S a_0b a_0l a_0c b_1b b_1l b_1c Post h) : CALL prg f_spec_l04SameRings #[.slice a_0b a_0l a_0c, .slice b_1b b_1l b_1c] Post h :=
  fn_call tau_ok mixed (c := spec_l04SameRings.code) (Λ := lookL [(1000004, spec_l04SameRings.l4 Post)]) Tryz.func107 (by kernel_rfl) (by kernel_rfl)
    (Rq.seq (by kernel_rfl) (Rq.free (by kernel_rfl)) (Rq.seq (by kernel_rfl) (Rq.free (by kernel_rfl)) (Rq.seq (by kernel_rfl) (Rq.seq (by kernel_rfl) (Rq.free (by kernel_rfl)) (Rq.block (Rq.loop (spec_l04SameRings.l4 Post) (by kernel_rfl) (segL (g := spec_l04SameRings.g4) tau_ok mixed (Λ := fun N4 => lookL []) (fun _ _ _ => by kernel_rfl) (fun N4 => (Rq.free (by kernel_rfl))))))) (Rq.free (by kernel_rfl)))))
    (Eq.mp (by kernel_rfl) H)

end Go.Sx
