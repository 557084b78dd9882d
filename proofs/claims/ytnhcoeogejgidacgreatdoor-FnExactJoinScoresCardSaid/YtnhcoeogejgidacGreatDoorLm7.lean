/- What strings, bows, voices and players do, plain. -/
import Derived.Test.YtnhcoeogejgidacGreatDoorLk21
import Derived.Test.YtnhcoeogejgidacGreatDoorLm6
import Derived.Test.YtnhcoeogejgidacGreatDoorLfl
import Derived.Test.YtnhcoeogejgidacGreatDoorLp2
import Derived.Test.YtnhcoeogejgidacGreatDoorTabE
import Derived.Test.YtnhcoeogejgidacGreatDoorLk25
import Derived.Test.YtnhcoeogejgidacGreatDoorTab
import Derived.Test.YtnhcoeogejgidacGreatDoorLk32
import Derived.Test.YtnhcoeogejgidacGreatDoorLk24
import Derived.Test.YtnhcoeogejgidacGreatDoorLg
import Derived.Test.YtnhcoeogejgidacGreatDoorLp7
import Derived.Test.YtnhcoeogejgidacGreatDoorLh0
import Derived.Test.YtnhcoeogejgidacGreatDoorLm14
import Derived.Test.YtnhcoeogejgidacGreatDoorLk37
import Derived.Test.YtnhcoeogejgidacGreatDoorLm20
import Derived.Test.YtnhcoeogejgidacGreatDoorLk19
import Derived.Test.YtnhcoeogejgidacGreatDoorJoinScores
set_option linter.unusedVariables false
set_option linter.unusedSimpArgs false
namespace Go.Sx
def GString.step (x : GString) (a : Nat) : GString × Nat :=
  let o := x.Loop.old
  let t := x.Tune.step o
  let d := x.Damp.step t.2
  ({ x with Loop := x.Loop.push (kept (fadd .f32 (fmul .f32 d.2 x.Loss) a)), Tune := t.1, Damp := d.1 }, o)
def friction (s d : Nat) : Nat :=
  let w := fadd .f32 (fabs (fmul .f32 s d)) 1061158912
  let v := fmul .f32 w w
  let f := fdiv .f32 1065353216 (fmul .f32 v v)
  if fgt .f32 f 1065353216 then 1065353216 else f
def GBow.e (x : GBow) : GFilter × Nat := x.Damp.step x.Bridge.old
def GBow.u (x : GBow) : Nat := fneg .f32 (fmul .f32 x.Loss x.e.2)
def GBow.v (x : GBow) : Nat := fneg .f32 x.Neck.old
def GBow.d (x : GBow) (a : Nat) : Nat := fsub .f32 a (fadd .f32 x.u x.v)
def GBow.w (x : GBow) (a : Nat) : Nat := fmul .f32 (x.d a) (friction x.Slope (x.d a))
def GBow.step (x : GBow) (a : Nat) : GBow × Nat :=
  ({ x with Neck := x.Neck.push (kept (fadd .f32 x.u (x.w a))), Bridge := x.Bridge.push (kept (fadd .f32 x.v (x.w a))), Damp := x.e.1 }, x.Bridge.old)
end Go.Sx
/- Floats between powers of two: rounding keeps such bounds. -/
set_option linter.unusedVariables false
set_option linter.unusedSimpArgs false
namespace Go.Sx
open Ieee

/-- m * 2 ^ p is at most 2 ^ j. -/
def VLE (m : Nat) (p j : Int) : Prop := m = 0 ∨ (p ≤ j ∧ m ≤ 2 ^ (j - p).toNat)
/-- m * 2 ^ p is at least 2 ^ i. -/
def VGE (m : Nat) (p i : Int) : Prop := m ≠ 0 ∧ 2 ^ (i - p).toNat ≤ m
end Go.Sx
/- Powers of two, sums, products and quotients between bounds, whole parts. -/
set_option linter.unusedVariables false
set_option linter.unusedSimpArgs false
namespace Go.Sx
open Ieee

def pow2 (k : Int) : Nat := FloatKind.f64.format.nearest false 1 k
/-- Neither negative nor greater than a power of two. -/
def Up (k : FloatKind) (w : Nat) (j : Int) : Prop := ∃ (m : Nat) (p : Int), k.format.read w = .number false m p ∧ VLE m p j
/-- Between two powers of two, and normal. -/
def Btw (w : Nat) (i j : Int) : Prop := ∃ (m : Nat) (p : Int), FloatKind.f64.format.read w = .number false m p ∧ VLE m p j ∧ VGE m p i ∧ 2 ^ 52 ≤ m ∧ m < 2 ^ 53
theorem Btw.up {w : Nat} {i j : Int} (h : Btw w i j) : Up .f64 w j := by obtain ⟨m, p, h1, h2, _⟩ := h; exact ⟨m, p, h1, h2⟩
theorem VLE.mono {m : Nat} {p i j : Int} (h : VLE m p i) (hij : i ≤ j) : VLE m p j := by
  rcases h with h | ⟨h1, h2⟩
  · exact .inl h
  · exact .inr ⟨by omega, Nat.le_trans h2 (Nat.pow_le_pow_right (by decide) (by omega))⟩
theorem VLE.mul {m n : Nat} {p q i j : Int} (h : VLE m p i) (g : VLE n q j) : VLE (m * n) (p + q) (i + j) := by
  rcases h with h | ⟨h1, h2⟩
  · exact .inl (by rw [h, Nat.zero_mul])
  rcases g with g | ⟨g1, g2⟩
  · exact .inl (by rw [g, Nat.mul_zero])
  refine .inr ⟨by omega, ?_⟩
  have := Nat.mul_le_mul h2 g2
  rwa [← Nat.pow_add, show (i - p).toNat + (j - q).toNat = (i + j - (p + q)).toNat by omega] at this
end Go.Sx
/- math.Floor of a float32 that is not great; what is left. -/
set_option linter.unusedVariables false
set_option linter.unusedSimpArgs false
namespace Go.Sx
open Ieee

/-- math.Floor. -/
def flr (w : Nat) : Nat := FloatKind.f64.encode ((FloatKind.f64.decode w).integral .down)
/-- The whole part of a number that is not negative. -/
def whole (m : Nat) (e : Int) : Nat := (m <<< e.toNat) / 2 ^ (-e).toNat
end Go.Sx
/- Tunings' periods: plain; what TwoTo computes lies between bounds. -/
set_option linter.unusedVariables false
set_option linter.unusedSimpArgs false
namespace Go.Sx
open Ieee
def GTuning.centsOf (t : GTuning) (key : Int) : Nat := fadd .f32 (fmul .f32 t.Octave (FloatKind.f32.nearest (key / t.Degrees.length))) t.Degrees[(key % t.Degrees.length).toNat]!
/-- The polynomial of TwoTo. -/
def twoS (y : Nat) (s : Nat) (ms : List Nat) : Nat := ms.foldl (fun s (m : Nat) => fadd .f64 4607182418800017408 (fmul .f64 (fdiv .f64 y (FloatKind.f64.nearest ((m : Nat) : Int))) s)) s
def ms14 : List Nat := [14, 13, 12, 11, 10, 9, 8, 7, 6, 5, 4, 3, 2, 1]
def twoY (x : Nat) : Nat := fmul .f64 (fsub .f64 (wid x) (flr (wid x))) 4604418534313441775
def twoK (x : Nat) : Int := ((FloatKind.f64.decode (flr (wid x))).toInt .zero).getD 0
def twoM (x : Nat) : Nat := twoS (twoY x) 4607182418800017408 ms14
def inTwo (x : Nat) : Bool := inside x 3270508544 1123024896
/-- 2 to a power, nearly. -/
def twoTo (x : Nat) : Nat := nar (fmul .f64 (twoM x) (pow2 (twoK x)))

end Go.Sx
/- Tunings: cents, powers of two, frequencies, periods. -/
set_option linter.unusedVariables false
set_option linter.unusedSimpArgs false
namespace Go.Sx
open Go.Proofs Ieee
set_option maxRecDepth 100000
set_option maxHeartbeats 1000000

abbrev S2 := Nat × Nat × Nat × Int
end Go.Sx
/- Tunings: cents, frequencies, periods. -/
set_option linter.unusedVariables false
set_option linter.unusedSimpArgs false
namespace Go.Sx
open Go.Proofs Ieee
set_option maxRecDepth 100000
set_option maxHeartbeats 1000000

def GTuning.turn (t : GTuning) (key : Int) : Nat := fdiv .f32 (t.centsOf key) 1150681088
def GTuning.hz (t : GTuning) (key : Int) : Nat := fmul .f32 t.Base (twoTo (t.turn key))
def GTuning.asked (t : GTuning) (key : Int) : Nat × Int := if t.ok then if inR key (-100) 100 then if inTwo (t.turn key) then (t.hz key, 0) else (0, 2) else (0, 2) else (0, 1)
end Go.Sx
/- New strings. -/
set_option linter.unusedVariables false
set_option linter.unusedSimpArgs false
namespace Go.Sx
open Go.Proofs Ieee
set_option maxRecDepth 100000
set_option maxHeartbeats 1000000

theorem c2 : FW .f32 1073741824 1073741824 := fw_c32 (by decide) (by decide)
theorem c3 : FW .f32 1077936128 1077936128 := fw_c32 (by decide) (by decide)
end Go.Sx
/- Cells that stay; blocks changed behind others. -/
set_option linter.unusedVariables false
set_option linter.unusedSimpArgs false
namespace Go.Sx
section
variable {h : Heap}
theorem Upd.skip {B L L' : List Blk} {g : Nat} {cs : Array Value} (k : Upd L g cs L') : Upd (B ++ L) g cs (B ++ L') := by
  induction B with
  | nil => exact k
  | cons p B ih => exact .there ih
end
end Go.Sx
/- New pipes of one section: the program's. -/
set_option linter.unusedVariables false
set_option linter.unusedSimpArgs false
namespace Go.Sx
open Go.Proofs Ieee
set_option maxRecDepth 100000
set_option maxHeartbeats 4000000

theorem pinM {h0 h h1 h' : Heap} {L L' : List Blk} {g j n : Nat} {cs : Array Value} {p : Prop} (M : Mem h0 h L) (l : Look L g cs) (M' : Mem h1 h' L') (l' : Look L' g cs) (H : p) : PIN h ⟨g, j, none⟩ n h' p :=
  ⟨fun i _ => by rw [add_none, M.cell l, M'.cell l'], H⟩
end Go.Sx
/- What functions of this seat's program compute, told in words (a predicate over heaps for each), and the proofs that the words are no more than the code's own weakest precondition. -/
namespace Go.Sx
open Go.Proofs
set_option linter.unusedVariables false
set_option maxRecDepth 100000

def slices_ContainsFunc_sl_impl_Event_impl_Event.S (s_0b : Option Addr) (s_0l s_0c : Nat) (f_1 : Value) (Post : Value → Heap → Prop) (h : Heap) : Prop :=
    CALL prg f_slices_IndexFunc_sl_impl_Event_impl_Event #[.slice s_0b s_0l s_0c, f_1] (fun q1 h2 =>
    asI .i64 q1 fun n3 =>
    Post (.bool ((decide ((0 : Int) ≤ n3)))) h2) h
noncomputable def slices_ContainsFunc_sl_impl_Event_impl_Event.code : Code := (Tryz.f40.body).getD .skip
theorem slices_ContainsFunc_sl_impl_Event_impl_Event.call {s_0b : Option Addr} {s_0l s_0c : Nat} {f_1 : Value} {Post : Value → Heap → Prop} {h : Heap} (H : slices_ContainsFunc_sl_impl_Event_impl_Event.S s_0b s_0l s_0c f_1 Post h) : CALL prg f_slices_ContainsFunc_sl_impl_Event_impl_Event #[.slice s_0b s_0l s_0c, f_1] Post h :=
  fn_call tau_ok mixed (c := slices_ContainsFunc_sl_impl_Event_impl_Event.code) (Λ := lookL []) Tryz.func40 (by kernel_rfl) (by kernel_rfl)
    (Rq.free (by kernel_rfl))
    (Eq.mp (by kernel_rfl) H)

end Go.Sx
/- The voice of a start: both. -/
set_option linter.unusedVariables false
set_option linter.unusedSimpArgs false
namespace Go.Sx
open Go.Proofs Ieee
set_option maxRecDepth 100000
set_option maxHeartbeats 4000000

section
variable {h : Heap} {x a : Nat}
theorem ContainsFunc_Event_c {b : Option Addr} {l c : Nat} {xs : List GEvent} {f : Value} {p : GEvent → Bool} (S : SlR rEvent h b l c xs) (T : TellsR prg rEvent h f p) :
    CALL prg f_slices_ContainsFunc_sl_impl_Event_impl_Event #[.slice b l c, f] (fun u h' => u = .bool (xs.any p) ∧ Ext h h') h :=
  slices_ContainsFunc_sl_impl_Event_impl_Event.call (goX (IndexFunc_Event_c S T) fun h1 x1 => as_i ⟨by rw [firstAt_any], x1⟩)
end
end Go.Sx
/- Scores joined by the program. -/
set_option linter.unusedVariables false
set_option linter.unusedSimpArgs false
namespace Go.Sx
open Go.Proofs
set_option maxRecDepth 100000
set_option maxHeartbeats 1000000

section
variable {h : Heap} {s t : GScore} {n : Int}
theorem late_tells {h0 : Heap} {g : Nat} (R : RdP (rI .i64) h0 ⟨g, 0, none⟩ n) : TellsR prg rEvent h0 (.func (.func f_impl_JoinScores_c1) #[] #[.pointer (some ⟨g, 0, none⟩)]) (fun e => decide (IntKind.i64.wrap (100000 - n) < e.At)) := fun ce e hx xx Re => by
  show CALL prg f_impl_JoinScores_c1 #[.agg ce, .pointer (some ⟨g, 0, none⟩)] _ hx
  exact impl_JoinScores_c1.call (alcR Re fun g1 h' x' R' => R'.oI2 ((R.ext (xx.trans x')).oI1 ⟨rfl, x'⟩))
theorem map_step {α β : Type} [Inhabited α] (f : α → β) (l : List α) {i : Nat} (hi : i < l.length) : (l.take (i + 1)).map f = (l.take i).map f ++ [f l[i]!] := by
  rw [take_snoc hi, List.map_append]; rfl
theorem splice_ev {cs : Array Value} {zs : List Value} (hs : cs.size = 6) (hz : zs.length = 6 := by rfl) : (⟨splice 0 6 cs zs⟩ : Array Value) = cs := by
  rw [splice_all (n := 6) hz]
theorem joinI_10 {hh : Heap} {g1 g3 g5 g7 : Nat} {ca cb : Array Value} (R0 : rScore.rd h ca.toList s) (T0 : rScore.rd h cb.toList t) (hs : s.ok = true) (ht : t.ok = true)
    (hr : inR n 0 100000 = true) (hl : t.Events.all (fun e => decide (e.At + n ≤ 100000)) = true) (hg : s.ground t = true) (hm : s.Events.length + t.Events.length ≤ 128)
    (M : Mem h hh [(g7, T_impl_Score, ⟨Z_impl_Score⟩), (g5, T_int64, #[.int .i64 n]), (g3, T_impl_Score, cb), (g1, T_impl_Score, ca)]) :
    impl_JoinScores.J10 (fun u h' => PairR rScore h h' u (s.join t n).1 (s.join t n).2) ⟨g1, 0, none⟩ ⟨g3, 0, none⟩ ⟨g5, 0, none⟩ ⟨g7, 0, none⟩ hh := by
  have G := score_ev hs
  have G' := score_ev ht
  have e1 := G.even
  have e2 := G'.even
  have hmx : 128 ≤ maxLen := by decide
  have hn2 : 0 ≤ n ∧ n ≤ 100000 := by simp only [inR, Bool.and_eq_true, decide_eq_true_eq] at hr; exact hr
  obtain ⟨ns, I⟩ := NInv.exist G
  obtain ⟨ms, J⟩ := NInv.exist G'
  have ej : s.join t n = ({ s with Events := ordE (ns ++ ms.map (shN n)) }, 0) := by
    unfold GScore.join
    rw [hs, ht, hr, hl, hg, if_pos (by rfl), if_pos (by rfl), if_pos rfl, if_pos hm, notesE_eq G I, notesE_eq G' J]
  rw [ej]
  unfold impl_JoinScores.J10
  have R : RdP rScore hh ⟨g1, 0, none⟩ s := M.rdp (.there (.there (.there .here))) (rScore.ext M.ext R0)
  refine R.oL (off := 5) fun b l c S => goM M (length_Event_c b l c _) fun h46 M => as_i (nz (by decide) ?_)
  obtain rfl : s.Events.length = l := S.len
  rw [half_wrap (by omega)]
  refine M.lda0 (.there (.there (.there .here))) (rsz R0 rfl) (NewR.go M (Score_clone_c (rScore.ext M.ext R0) hs) fun h50 c5 B5 M O5 s5 => as_a ?_)
  have M := M.cnt (W := (g1, T_impl_Score, ca) :: (B5 ++ [(g7, T_impl_Score, ⟨Z_impl_Score⟩), (g5, T_int64, #[.int .i64 n]), (g3, T_impl_Score, cb)])) (fun p => by simp only [cnt_app, cnt_cons, cnt_nil] at *; omega)
  refine M.sta0 .here s5 (rScore.oone O5) (rsz R0 rfl) .here fun h52 M => ?_
  have P : Pt rScore h h52 ⟨g1, 0, none⟩ ⟨g1, T_impl_Score, [], []⟩ [(g7, T_impl_Score, ⟨Z_impl_Score⟩), (g5, T_int64, #[.int .i64 n]), (g3, T_impl_Score, cb)] s := Pt.new O5 M
  obtain ⟨v, ec, b, lt, ct, ev, St⟩ := rd_cell T0 foc_Score_Events rfl
  obtain rfl : v = .slice b lt ct := by simpa using ev
  have hlt : t.Events.length = lt := St.len
  have ec2 : cell h52 ⟨g3, 5, none⟩ = some (.slice b lt ct) := by rw [P.mem.cell (.there (.there .here)), ec]
  have nsl : ns.length = s.Events.length / 2 := I.len
  refine o_l ec2 (loop (fun y hh => ∃ i : Nat, y = ((⟨g1, 0, none⟩ : Addr), (⟨g5, 0, none⟩ : Addr), (⟨g7, 0, none⟩ : Addr), ((s.Events.length / 2 : Nat) : Int), b, lt, ct, (lt : Int), (i : Int)) ∧ i ≤ lt ∧
      Pt rScore h hh ⟨g1, 0, none⟩ ⟨g1, T_impl_Score, [], []⟩ [(g7, T_impl_Score, ⟨Z_impl_Score⟩), (g5, T_int64, #[.int .i64 n]), (g3, T_impl_Score, cb)] { s with Events := s.Events ++ (t.Events.take i).map (shE n ns.length) })
    (fun y => ((lt : Int) - y.2.2.2.2.2.2.2.2).toNat) ⟨0, rfl, by omega, by simpa using P⟩ ?_)
  clear P M ec2
  rintro y hh ⟨i, rfl, hi, P⟩
  refine brd (fun hc => ?_) fun hc => ?_
  · have hit : i < t.Events.length := by omega
    refine (St.ext P.ext).idn ev_sz (show i < lt by omega) fun a Ra => Ra.lda1 rfl fun c57 R57 => ?_
    refine (Mem.start hh).alc fun g58 h59 x59 M2 => M2.sta0 .here (rsz R57 rfl) (rEvent.rone R57) rfl .here fun h60 M2 => ?_
    have PE : Pt rEvent hh h60 ⟨g58, 0, none⟩ ⟨g58, T_impl_Event, [], []⟩ [] t.Events[i]! := Pt.new (B := []) (flat_Event _ _ _ R57) M2
    have Rn : RdP (rI .i64) h60 ⟨g5, 0, none⟩ n := (P.grow PE.ext).mem.rdp (.there .here) rI_rd
    have pk := G'.part i hit
    have pn := G'.note i hit
    have hA : 0 ≤ t.Events[i]!.At ∧ t.Events[i]!.At ≤ 100000 := by
      unfold evPart at pk
      simp only [Bool.and_eq_true, inR, decide_eq_true_eq] at pk
      exact pk.1
    refine PE.rd.oI1 (Rn.oI1 (PE.stI1 fun h63 PE => PE.rd.oI2 (PE.stI2 fun h65 PE => ?_)))
    rw [wrap64 (n := t.Events[i]!.At + n) (by omega) (by omega), wrap64 (n := t.Events[i]!.Note + ((s.Events.length / 2 : Nat) : Int)) (by omega) (by omega)] at PE
    have PE : Pt rEvent hh h65 ⟨g58, 0, none⟩ ⟨g58, T_impl_Event, [], []⟩ [] (shE n ns.length t.Events[i]!) := by rw [nsl]; exact PE
    have P := P.grow PE.ext
    have hsz : (s.Events ++ (t.Events.take i).map (shE n ns.length)).length = s.Events.length + i := by rw [List.length_append, List.length_map, List.length_take]; omega
    obtain ⟨b5, l5, c5', e5, _⟩ := P.hdr (off := 5) (e := T_impl_Event) (s := rEvent)
    refine o_l e5 (PE.rd.lda1 rfl fun c67 R67 => ?_)
    have K67 : ∃ b l c, cell h65 ((⟨g1, 0, none⟩ : Addr).add 5) = some (.slice b l c) ∧ _ := Pt.pushX (Bn := []) (off := 5) (cs := c67) (ty := T_sl_impl_Event) P E_sl_impl_Event (flat_Event _ _ _ R67) (by show (s.Events ++ (t.Events.take i).map (shE n ns.length)).length + 1 ≤ maxLen; rw [hsz]; omega) (by show ((s.Events ++ (t.Events.take i).map (shE n ns.length)).length + 1) * 48 ≤ _; rw [hsz]; omega)
    obtain ⟨b6, l6, c6, e6, H6⟩ := K67
    rw [e5] at e6
    cases e6
    refine siz (rsz R67 rfl) ?_
    rw [splice_ev (rsz R67 rfl)]
    refine H6 _ fun h9 P => ?_
    refine ⟨⟨i + 1, by rw [wrap64_succ (by omega)], by omega, ?_⟩, by rw [wrap64_succ (by omega)]; show ((lt : Int) - ((i + 1 : Nat) : Int)).toNat < ((lt : Int) - (i : Int)).toNat; omega⟩
    have : Pt rScore h h9 ⟨g1, 0, none⟩ ⟨g1, T_impl_Score, [], []⟩ _ { s with Events := (s.Events ++ (t.Events.take i).map (shE n ns.length)) ++ [shE n ns.length t.Events[i]!] } := P
    rw [List.append_assoc, ← map_step (shE n ns.length) t.Events hit] at this
    exact this
  · obtain rfl : i = lt := by omega
    rw [show t.Events.take i = t.Events by rw [← hlt, List.take_length]] at P
    refine Pt.sortE (off := 5) P (join_perm G G' I J) (by show (s.Events ++ t.Events.map (shE n ns.length)).length ≤ _; simp; omega) fun h81 P => ?_
    have P : Pt rScore h h81 ⟨g1, 0, none⟩ ⟨g1, T_impl_Score, [], []⟩ _ { s with Events := ordE (ns ++ ms.map (shN n)) } := P
    obtain ⟨cs', B', M', O'⟩ := P.out
    refine M'.lda0 .here (osz O' rfl) ?_
    have M' := M'.cnt (W := (g7, T_impl_Score, ⟨Z_impl_Score⟩) :: B') (fun p => by simp only [cnt_app, cnt_cons, cnt_nil] at *; omega)
    exact M'.sta0 .here (osz O' rfl) (rScore.oone O') rfl .here fun h3 M => M.lda0 .here (osz O' rfl) ⟨_, B', rfl, O', M.drop⟩
theorem JoinScores_c {ca cb : Array Value} (hn : -9223372036854775808 ≤ n ∧ n < 9223372036854775808) (R0 : rScore.rd h ca.toList s) (T0 : rScore.rd h cb.toList t) : CALL prg f_impl_JoinScores #[.agg ca, .agg cb, .int .i64 n] (fun u h' => PairR rScore h h' u (s.join t n).1 (s.join t n).2) h := by
  refine impl_JoinScores.call ((Mem.start h).alc fun g1 h1 x1 M => M.alc fun g3 h2 x2 M => M.alc fun g5 h3 x3 M => M.alc fun g7 h4 x4 M => ?_)
  have bad : ∀ {hh : Heap} {L : List Blk} {k : Int}, Mem h hh ((g7, T_impl_Score, ⟨Z_impl_Score⟩) :: L) → s.join t n = (z_Score, k) →
      STA 6 hh ⟨g7, 0, none⟩ ⟨Z_impl_Score⟩ fun h8 => LDA 6 h8 ⟨g7, 0, none⟩ fun a9 => PairR rScore h h8 (.tuple ⟨[.agg a9, .int .i64 k]⟩) (s.join t n).1 (s.join t n).2 := fun M e => by
    rw [e]
    exact M.sta0 .here rfl (all_one rfl) rfl .here fun h3 M => M.lda0 .here rfl ⟨_, [], rfl, zow_Score, (Mem.start h).grow M.ext⟩
  have J5 : ∀ {hh : Heap} {l : Bool}, Mem h hh [(g7, T_impl_Score, ⟨Z_impl_Score⟩), (g5, T_int64, #[.int .i64 n]), (g3, T_impl_Score, cb), (g1, T_impl_Score, ca)] → (s.ok && t.ok) = true → (l = true → s.join t n = (z_Score, 2)) → (l = false → inR n 0 100000 = true ∧ t.Events.all (fun e => decide (e.At + n ≤ 100000)) = true) →
      impl_JoinScores.J5 (fun u h' => PairR rScore h h' u (s.join t n).1 (s.join t n).2) ⟨g1, 0, none⟩ ⟨g3, 0, none⟩ ⟨g5, 0, none⟩ ⟨g7, 0, none⟩ l hh := fun {hh l} M hst ht hf => by
    unfold impl_JoinScores.J5
    refine br (fun hl => bad M (ht hl)) fun hl => ?_
    obtain ⟨hr, ha⟩ := hf hl
    have hrl : (inR n 0 100000 && t.Events.all (fun e => decide (e.At + n ≤ 100000))) = true := by rw [hr, ha]; rfl
    refine M.lda0 (.there (.there (.there .here))) (rsz R0 rfl) (M.lda0 (.there (.there .here)) (rsz T0 rfl) (goM M (sameGround_c (rScore.ext M.ext R0) (rScore.ext M.ext T0)) fun h6 M => as_b (brN (fun hb => bad M ?_) fun hb => ?_)))
    · have hb : s.ground t = false := hb
      unfold GScore.join
      rw [hst, hrl, hb]; rfl
    · have hb : s.ground t = true := hb
      simp only [Bool.and_eq_true] at hst
      obtain ⟨hs, ht⟩ := hst
      have ls := (score_small hs).2.2
      have lt := (score_small ht).2.2
      have R : RdP rScore h6 ⟨g1, 0, none⟩ s := M.rdp (.there (.there (.there .here))) (rScore.ext M.ext R0)
      have T : RdP rScore h6 ⟨g3, 0, none⟩ t := M.rdp (.there (.there .here)) (rScore.ext M.ext T0)
      refine R.oL (off := 5) fun b l c S => T.oL (off := 5) fun b' l' c' S' => ?_
      obtain rfl : s.Events.length = l := S.len
      obtain rfl : t.Events.length = l' := S'.len
      refine brd (fun k => bad M ?_) fun k => ?_
      · rw [wrap64 (by omega) (by omega)] at k
        unfold GScore.join
        rw [hs, ht, hrl, hb, if_pos (by rfl), if_pos rfl, if_pos rfl, if_neg (by omega)]
      · rw [wrap64 (by omega) (by omega)] at k
        exact joinI_10 R0 T0 hs ht hr ha hb (by omega) M
  have J3 : ∀ {hh : Heap} {v : Bool}, Mem h hh [(g7, T_impl_Score, ⟨Z_impl_Score⟩), (g5, T_int64, #[.int .i64 n]), (g3, T_impl_Score, cb), (g1, T_impl_Score, ca)] → v = !(s.ok && t.ok) →
      impl_JoinScores.J3 (fun u h' => PairR rScore h h' u (s.join t n).1 (s.join t n).2) ⟨g1, 0, none⟩ ⟨g3, 0, none⟩ ⟨g5, 0, none⟩ ⟨g7, 0, none⟩ (t.Events.any fun e => decide (IntKind.i64.wrap (100000 - n) < e.At)) v hh := fun {hh v} M hv => by
    unfold impl_JoinScores.J3
    refine br (fun hb => bad M ?_) fun hb => ?_
    · have : (s.ok && t.ok) = false := by rw [hb] at hv; cases e : (s.ok && t.ok) with | true => rw [e] at hv; cases hv | false => rfl
      unfold GScore.join; rw [this]; rfl
    · have hst : (s.ok && t.ok) = true := by rw [hb] at hv; cases e : (s.ok && t.ok) with | false => rw [e] at hv; cases hv | true => rfl
      have Rn : RdP (rI .i64) hh ⟨g5, 0, none⟩ n := M.rdp (.there .here) rI_rd
      refine Rn.oI1 (goM M (within_c _ _ _ _) fun h6 M => as_b (brN (fun hr => J5 M hst (fun _ => ?_) (fun e => by cases e)) fun hr => J5 M hst (fun hl => ?_) fun hl => ⟨hr, ?_⟩))
      · unfold GScore.join; rw [hst, hr]; rfl
      · have hn2 : 0 ≤ n ∧ n ≤ 100000 := by simp only [inR, Bool.and_eq_true, decide_eq_true_eq] at hr; exact hr
        rw [wrap64 (by omega) (by omega), List.any_eq_true] at hl
        obtain ⟨e, he, hk⟩ := hl
        have : t.Events.all (fun e => decide (e.At + n ≤ 100000)) = false := by
          rw [Bool.eq_false_iff]
          intro ha
          have := List.all_eq_true.1 ha e he
          simp only [decide_eq_true_eq] at this hk
          omega
        unfold GScore.join; rw [hst, hr, this]; rfl
      · have hn2 : 0 ≤ n ∧ n ≤ 100000 := by simp only [inR, Bool.and_eq_true, decide_eq_true_eq] at hr; exact hr
        rw [wrap64 (by omega) (by omega)] at hl
        rw [List.all_eq_true]
        intro e he
        have := List.any_eq_false.1 hl e he
        simp only [decide_eq_true_eq] at this ⊢
        omega
  have T : RdP rScore h4 ⟨g3, 0, none⟩ t := M.rdp (.there (.there .here)) (rScore.ext M.ext T0)
  have Rn : RdP (rI .i64) h4 ⟨g5, 0, none⟩ n := M.rdp (.there .here) rI_rd
  refine T.oL2 (off := 5) fun b l c S => goM M (ContainsFunc_Event_c S (late_tells Rn)) fun h5 M => as_b ?_
  refine M.lda0 (.there (.there (.there .here))) (rsz R0 rfl) (goM M (ValidScore_c (rScore.ext M.ext R0)) fun h6 M => as_b (brN (fun hb => J3 M (by rw [hb]; rfl)) fun hs => ?_))
  refine M.lda0 (.there (.there .here)) (rsz T0 rfl) (goM M (ValidScore_c (rScore.ext M.ext T0)) fun h7 M => as_b (J3 M (by rw [hs]; rfl)))
end
end Go.Sx
