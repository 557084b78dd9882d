/- What functions of this seat's program compute, told in words (a predicate over heaps for each), and the proofs that the words are no more than the code's own weakest precondition. -/
import Derived.Test.YtgbjfohgmpmjoaaGreatDoorTab
import Derived.Test.YtgbjfohgmpmjoaaGreatDoorK2
import Derived.Test.YtgbjfohgmpmjoaaGreatDoorLk4
import Derived.Test.YtgbjfohgmpmjoaaGreatDoorLk54
import Derived.Test.YtgbjfohgmpmjoaaGreatDoorLdr
import Derived.Test.YtgbjfohgmpmjoaaGreatDoorLk59
import Derived.Test.YtgbjfohgmpmjoaaGreatDoorLk43
import Derived.Test.YtgbjfohgmpmjoaaGreatDoorLk45
namespace Go.Sx
open Go.Proofs
set_option linter.unusedVariables false
set_option maxRecDepth 100000

def impl_steps.B20 (N8 : (Int × Option Addr × Nat × Nat × Value × Value × Option Addr × Nat × Nat × Int) → Heap → Prop) (Post : Value → Heap → Prop) (N20 : (Int × Option Addr × Nat × Nat × Value × Value × Option Addr × Nat × Nat × Int × Option Addr × Nat × Nat × Int × Int) → Heap → Prop) : Int × Option Addr × Nat × Nat × Value × Value × Option Addr × Nat × Nat × Int × Option Addr × Nat × Nat × Int × Int → Heap → Prop
  | (most_0, rings_1b, rings_1l, rings_1c, isStill_2, step_3, runs_10b, runs_10l, runs_10c, n_13, t69b, t69l, t69c, t70, t71), h =>
    BIF (decide (t71 < t70)) (
    IDXS t69b t71 t69l fun p32 =>
    oP (cell h ((Addr.add p32 ((Int.toNat t71) * 1)))) fun p33 =>
    IDXS runs_10b t71 runs_10l fun p34 =>
    oI .i64 (cell h ((Addr.add p34 ((Int.toNat t71) * 1)))) fun n35 =>
    IDXS runs_10b t71 runs_10l fun p36 =>
    ST1 h ((Addr.add p36 ((Int.toNat t71) * 1))) (.int .i64 ((IntKind.i64.wrap (n35 + (1 : Int))))) fun h37 =>
    LDA 2 h37 p33 fun a38 =>
    CALL prg f_impl_Ring_back #[.agg a38, .int .i64 (1 : Int)] (fun q39 h40 =>
    asF .f32 q39 fun r41 =>
    BIF (FloatKind.f32.format.order r41 0 != some .eq) (
    IDXS runs_10b t71 runs_10l fun p42 =>
    ST1 h40 ((Addr.add p42 ((Int.toNat t71) * 1))) (.int .i64 (0 : Int)) fun h43 =>
    N20 (most_0, rings_1b, rings_1l, rings_1c, isStill_2, step_3, runs_10b, runs_10l, runs_10c, n_13, t69b, t69l, t69c, t70, ((IntKind.i64.wrap (t71 + (1 : Int))))) h43) (
    N20 (most_0, rings_1b, rings_1l, rings_1c, isStill_2, step_3, runs_10b, runs_10l, runs_10c, n_13, t69b, t69l, t69c, t70, ((IntKind.i64.wrap (t71 + (1 : Int))))) h40)) h37) (
    N8 (most_0, rings_1b, rings_1l, rings_1c, isStill_2, step_3, runs_10b, runs_10l, runs_10c, ((IntKind.i64.wrap (n_13 + (1 : Int))))) h)
def impl_steps.g20 (fr : Frame) : Int × Option Addr × Nat × Nat × Value × Value × Option Addr × Nat × Nat × Int × Option Addr × Nat × Nat × Int × Int := ((gI (lget fr 0)), (gLb (lget fr 1)), (gLl (lget fr 1)), (gLc (lget fr 1)), (lget fr 2), (lget fr 3), (gLb (lget fr 10)), (gLl (lget fr 10)), (gLc (lget fr 10)), (gI (lget fr 13)), (gLb (lget fr 69)), (gLl (lget fr 69)), (gLc (lget fr 69)), (gI (lget fr 70)), (gI (lget fr 71)))
def impl_steps.l20 (N8 : (Int × Option Addr × Nat × Nat × Value × Value × Option Addr × Nat × Nat × Int) → Heap → Prop) (Post : Value → Heap → Prop) : Frame → Heap → Prop := fun fr h => GRD (shape (kds 91 [(0, .i .i64), (1, .l), (2, .v), (3, .v), (10, .l), (13, .i .i64), (69, .l), (70, .i .i64), (71, .i .i64)]) fr) (LOOP (impl_steps.B20 N8 Post) (impl_steps.g20 fr) h)
def impl_steps.B12 (N8 : (Int × Option Addr × Nat × Nat × Value × Value × Option Addr × Nat × Nat × Int) → Heap → Prop) (Post : Value → Heap → Prop) (N12 : (Int × Option Addr × Nat × Nat × Value × Value × Option Addr × Nat × Nat × Int × Bool × Option Addr × Nat × Nat × Int × Int) → Heap → Prop) : Int × Option Addr × Nat × Nat × Value × Value × Option Addr × Nat × Nat × Int × Bool × Option Addr × Nat × Nat × Int × Int → Heap → Prop
  | (most_0, rings_1b, rings_1l, rings_1c, isStill_2, step_3, runs_10b, runs_10l, runs_10c, n_13, silent_14, t44b, t44l, t44c, t45, t46), h =>
    BIF (decide (t46 < t45)) (
    IDXS t44b t46 t44l fun p20 =>
    oP (cell h ((Addr.add p20 ((Int.toNat t46) * 1)))) fun p21 =>
    BIF silent_14 (
    IDXS runs_10b t46 runs_10l fun p22 =>
    oI .i64 (cell h ((Addr.add p22 ((Int.toNat t46) * 1)))) fun n23 =>
    oL (cell h p21) fun l24b l24l l24c =>
    CALL prg f_impl_length_float32 #[.slice l24b l24l l24c] (fun q25 h26 =>
    asI .i64 q25 fun n27 =>
    PIN h ((Addr.add p22 ((Int.toNat t46) * 1))) 1 h26 <|
    N12 (most_0, rings_1b, rings_1l, rings_1c, isStill_2, step_3, runs_10b, runs_10l, runs_10c, n_13, (decide (n27 ≤ n23)), t44b, t44l, t44c, t45, ((IntKind.i64.wrap (t46 + (1 : Int))))) h26) h) (
    N12 (most_0, rings_1b, rings_1l, rings_1c, isStill_2, step_3, runs_10b, runs_10l, runs_10c, n_13, false, t44b, t44l, t44c, t45, ((IntKind.i64.wrap (t46 + (1 : Int))))) h)) (
    BIF silent_14 (
    Post (.tuple ⟨[.int .i64 n_13, .int .i64 (0 : Int)]⟩) h) (
    CALLD prg step_3 #[] (fun q28 h29 =>
    LOOP (impl_steps.B20 N8 Post) (most_0, rings_1b, rings_1l, rings_1c, isStill_2, step_3, runs_10b, runs_10l, runs_10c, n_13, rings_1b, rings_1l, rings_1c, (rings_1l : Int), (0 : Int)) h29) h))
def impl_steps.g12 (fr : Frame) : Int × Option Addr × Nat × Nat × Value × Value × Option Addr × Nat × Nat × Int × Bool × Option Addr × Nat × Nat × Int × Int := ((gI (lget fr 0)), (gLb (lget fr 1)), (gLl (lget fr 1)), (gLc (lget fr 1)), (lget fr 2), (lget fr 3), (gLb (lget fr 10)), (gLl (lget fr 10)), (gLc (lget fr 10)), (gI (lget fr 13)), (gB (lget fr 14)), (gLb (lget fr 44)), (gLl (lget fr 44)), (gLc (lget fr 44)), (gI (lget fr 45)), (gI (lget fr 46)))
def impl_steps.l12 (N8 : (Int × Option Addr × Nat × Nat × Value × Value × Option Addr × Nat × Nat × Int) → Heap → Prop) (Post : Value → Heap → Prop) : Frame → Heap → Prop := fun fr h => GRD (shape (kds 91 [(0, .i .i64), (1, .l), (2, .v), (3, .v), (10, .l), (13, .i .i64), (14, .b), (44, .l), (45, .i .i64), (46, .i .i64)]) fr) (LOOP (impl_steps.B12 N8 Post) (impl_steps.g12 fr) h)
def impl_steps.B8 (Post : Value → Heap → Prop) (N8 : (Int × Option Addr × Nat × Nat × Value × Value × Option Addr × Nat × Nat × Int) → Heap → Prop) : Int × Option Addr × Nat × Nat × Value × Value × Option Addr × Nat × Nat × Int → Heap → Prop
  | (most_0, rings_1b, rings_1l, rings_1c, isStill_2, step_3, runs_10b, runs_10l, runs_10c, n_13), h =>
    BIF (decide (n_13 ≤ most_0)) (
    CALLD prg isStill_2 #[] (fun q15 h16 =>
    asB q15 fun b17 =>
    LOOP (impl_steps.B12 N8 Post) (most_0, rings_1b, rings_1l, rings_1c, isStill_2, step_3, runs_10b, runs_10l, runs_10c, n_13, b17, rings_1b, rings_1l, rings_1c, (rings_1l : Int), (0 : Int)) h16) h) (
    Post (.tuple ⟨[.int .i64 (0 : Int), .int .i64 (7 : Int)]⟩) h)
def impl_steps.g8 (fr : Frame) : Int × Option Addr × Nat × Nat × Value × Value × Option Addr × Nat × Nat × Int := ((gI (lget fr 0)), (gLb (lget fr 1)), (gLl (lget fr 1)), (gLc (lget fr 1)), (lget fr 2), (lget fr 3), (gLb (lget fr 10)), (gLl (lget fr 10)), (gLc (lget fr 10)), (gI (lget fr 13)))
def impl_steps.l8 (Post : Value → Heap → Prop) : Frame → Heap → Prop := fun fr h => GRD (shape (kds 91 [(0, .i .i64), (1, .l), (2, .v), (3, .v), (10, .l), (13, .i .i64)]) fr) (LOOP (impl_steps.B8 Post) (impl_steps.g8 fr) h)
def impl_steps.B3 (Post : Value → Heap → Prop) (N3 : (Int × Option Addr × Nat × Nat × Value × Value × Option Addr × Nat × Nat × Option Addr × Nat × Nat × Int × Int) → Heap → Prop) : Int × Option Addr × Nat × Nat × Value × Value × Option Addr × Nat × Nat × Option Addr × Nat × Nat × Int × Int → Heap → Prop
  | (most_0, rings_1b, rings_1l, rings_1c, isStill_2, step_3, runs_10b, runs_10l, runs_10c, t22b, t22l, t22c, t23, t24), h =>
    BIF (decide (t24 < t23)) (
    IDXS t22b t24 t22l fun p7 =>
    oP (cell h ((Addr.add p7 ((Int.toNat t24) * 1)))) fun p8 =>
    LDA 2 h p8 fun a9 =>
    CALL prg f_impl_Ring_quiet #[.agg a9] (fun q10 h11 =>
    asI .i64 q10 fun n12 =>
    IDXS runs_10b t24 runs_10l fun p13 =>
    ST1 h11 ((Addr.add p13 ((Int.toNat t24) * 1))) (.int .i64 n12) fun h14 =>
    N3 (most_0, rings_1b, rings_1l, rings_1c, isStill_2, step_3, runs_10b, runs_10l, runs_10c, t22b, t22l, t22c, t23, ((IntKind.i64.wrap (t24 + (1 : Int))))) h14) h) (
    LOOP (impl_steps.B8 Post) (most_0, rings_1b, rings_1l, rings_1c, isStill_2, step_3, runs_10b, runs_10l, runs_10c, (0 : Int)) h)
def impl_steps.g3 (fr : Frame) : Int × Option Addr × Nat × Nat × Value × Value × Option Addr × Nat × Nat × Option Addr × Nat × Nat × Int × Int := ((gI (lget fr 0)), (gLb (lget fr 1)), (gLl (lget fr 1)), (gLc (lget fr 1)), (lget fr 2), (lget fr 3), (gLb (lget fr 10)), (gLl (lget fr 10)), (gLc (lget fr 10)), (gLb (lget fr 22)), (gLl (lget fr 22)), (gLc (lget fr 22)), (gI (lget fr 23)), (gI (lget fr 24)))
def impl_steps.l3 (Post : Value → Heap → Prop) : Frame → Heap → Prop := fun fr h => GRD (shape (kds 91 [(0, .i .i64), (1, .l), (2, .v), (3, .v), (10, .l), (22, .l), (23, .i .i64), (24, .i .i64)]) fr) (LOOP (impl_steps.B3 Post) (impl_steps.g3 fr) h)
def impl_steps.S (most_0 : Int) (rings_1b : Option Addr) (rings_1l rings_1c : Nat) (isStill_2 : Value) (step_3 : Value) (Post : Value → Heap → Prop) (h : Heap) : Prop :=
    MKS ti_int64 T_int64 (rings_1l : Int) (rings_1l : Int) (fun g3 h4 =>
    LOOP (impl_steps.B3 Post) (most_0, rings_1b, rings_1l, rings_1c, isStill_2, step_3, (some ⟨g3, 0, none⟩), rings_1l, rings_1l, rings_1b, rings_1l, rings_1c, (rings_1l : Int), (0 : Int)) h4) h
noncomputable def impl_steps.code : Code := (Tryz.f73.body).getD .skip
theorem impl_steps.call {most_0 : Int} {rings_1b : Option Addr} {rings_1l rings_1c : Nat} {isStill_2 : Value} {step_3 : Value} {Post : Value → Heap → Prop} {h : Heap} (H : impl_steps.S most_0 rings_1b rings_1l rings_1c isStill_2 step_3 Post h) : CALL prg f_impl_steps #[.int .i64 most_0, .slice rings_1b rings_1l rings_1c, isStill_2, step_3] Post h :=
  fn_call tau_ok mixed (c := impl_steps.code) (Λ := lookL [(1000003, impl_steps.l3 Post), (1000008, impl_steps.l8 Post)]) Tryz.func73 (by kernel_rfl) (by kernel_rfl)
    (Rq.seq (by kernel_rfl) (Rq.free (by kernel_rfl)) (Rq.seq (by kernel_rfl) (Rq.free (by kernel_rfl)) (Rq.seq (by kernel_rfl) (Rq.seq (by kernel_rfl) (Rq.free (by kernel_rfl)) (Rq.block (Rq.loop (impl_steps.l3 Post) (by kernel_rfl) (segL (g := impl_steps.g3) tau_ok mixed (Λ := fun N3 => lookL []) (fun _ _ _ => by kernel_rfl) (fun N3 => (Rq.free (by kernel_rfl))))))) (Rq.seq (by kernel_rfl) (Rq.seq (by kernel_rfl) (Rq.free (by kernel_rfl)) (Rq.block (Rq.loop (impl_steps.l8 Post) (by kernel_rfl) (segL (g := impl_steps.g8) tau_ok mixed (Λ := fun N8 => lookL [(1000012, impl_steps.l12 N8 Post), (1000020, impl_steps.l20 N8 Post)]) (fun _ _ _ => by kernel_rfl) (fun N8 => (Rq.seq (by kernel_rfl) (Rq.free (by kernel_rfl)) (Rq.seq (by kernel_rfl) (Rq.block (Rq.seq (by kernel_rfl) (Rq.free (by kernel_rfl)) (Rq.seq (by kernel_rfl) (Rq.seq (by kernel_rfl) (Rq.free (by kernel_rfl)) (Rq.block (Rq.loop (impl_steps.l12 N8 Post) (by kernel_rfl) (segL (g := impl_steps.g12) tau_ok mixed (Λ := fun N12 => lookL []) (fun _ _ _ => by kernel_rfl) (fun N12 => (Rq.free (by kernel_rfl))))))) (Rq.seq (by kernel_rfl) (Rq.free (by kernel_rfl)) (Rq.seq (by kernel_rfl) (Rq.free (by kernel_rfl)) (Rq.seq (by kernel_rfl) (Rq.free (by kernel_rfl)) (Rq.block (Rq.loop (impl_steps.l20 N8 Post) (by kernel_rfl) (segL (g := impl_steps.g20) tau_ok mixed (Λ := fun N20 => lookL []) (fun _ _ _ => by kernel_rfl) (fun N20 => (Rq.free (by kernel_rfl)))))))))))) (Rq.free (by kernel_rfl))))))))) (Rq.free (by kernel_rfl))))))
    (Eq.mp (by kernel_rfl) H)

end Go.Sx
/- How long a room sounds, as the rule and the program tell it. -/
set_option linter.unusedVariables false
set_option linter.unusedSimpArgs false
namespace Go.Sx
open Go.Proofs
set_option maxRecDepth 100000
set_option maxHeartbeats 1000000

section
variable {h0 h : Heap} {x : GRoom} {most : Int}
def tup (r : Int × Int) : Value := .tuple ⟨[.int .i64 r.1, .int .i64 r.2]⟩
/-- Integers in a block. -/
def ivs (rs : List Int) : Array Value := ⟨rs.map (.int .i64)⟩
theorem ivs_get {rs : List Int} {i : Nat} (hi : i < rs.length) : (ivs rs)[i]? = some (.int .i64 rs[i]!) := by
  unfold ivs
  rw [List.getElem?_toArray, List.getElem?_map, List.getElem?_eq_getElem hi, getElem!_pos _ i hi]; rfl
theorem Look.oV {L : List Blk} {g i : Nat} {rs : List Int} {K : Int → Prop} (l : Look L g (ivs rs)) (M : Mem h0 h L) (hi : i < rs.length) (H : K rs[i]!) : Sx.oI .i64 (cell h ((⟨g, 0, none⟩ : Addr).add (i * 1))) K := by
  rw [add_none, Nat.zero_add, Nat.mul_one]
  exact o_i (by rw [M.cell l, ivs_get hi]) H
end
end Go.Sx
/- Rooms muted, as the program does it. -/
set_option linter.unusedVariables false
set_option linter.unusedSimpArgs false
namespace Go.Sx
open Go.Proofs
set_option maxRecDepth 100000

def GRoom.muted (x : GRoom) : GRoom × Int := if x.ok then (x.mute, 0) else (z_Room, 1)
end Go.Sx
/- Rooms made by the rule: valid for drawn numbers. -/
set_option linter.unusedVariables false
set_option linter.unusedSimpArgs false
namespace Go.Sx
open Go.Proofs
set_option maxRecDepth 100000
set_option maxHeartbeats 1000000

section
variable {h0 h : Heap} {q : Addr} {F : Fr} {L : List Blk} {y k : Nat}
/-- A room of which the first n loops are made. -/
structure Made (x : GRoom) (n : Nat) : Prop where
  e : x.Early.okf = true
  t : x.Taps = []
  c2 : x.Combs.length = 2
  c : x.Combs.all GComb.ok = true
  l4 : x.Loops.length = 4
  d4 : x.Damps.length = 4
  g4 : x.Gains.length = 4
  l : ∀ i, i < n → x.Loops[i]!.okf = true
  d : ∀ i, i < n → (x.Damps[i]!.ok && x.Damps[i]!.Kind == 1) = true
  g : ∀ i, i < n → fin x.Gains[i]! = true
  dry : fin x.Dry = true
  wet : fin x.Wet = true
theorem all_idx {α : Type} [Inhabited α] {l : List α} {p : α → Bool} (H : ∀ i, i < l.length → p l[i]! = true) : l.all p = true := by
  rw [List.all_eq_true]
  intro a ha
  obtain ⟨i, hi, rfl⟩ := List.mem_iff_getElem.1 ha
  have := H i hi
  rwa [getElem!_pos l i hi] at this
theorem Made.ok {x : GRoom} (M : Made x 4) : x.ok = true := by
  rw [room_ok, M.e, M.c, M.t, M.dry, M.wet]
  rw [all_idx (l := x.Loops) (p := GRing.okf) fun i hi => M.l i (by rw [M.l4] at hi; exact hi)]
  rw [all_idx (l := x.Damps) (p := fun f => f.ok && f.Kind == 1) fun i hi => M.d i (by rw [M.d4] at hi; exact hi)]
  unfold allFin
  rw [all_idx (l := x.Gains) (p := fin) fun i hi => M.g i (by rw [M.g4] at hi; exact hi)]
  rfl
theorem setGet {α : Type} [Inhabited α] {l : List α} {i j : Nat} {a : α} (hj : j < l.length) : (l.set i a)[j]! = if i = j then a else l[j]! := by
  rw [getElem!_pos _ j (by rw [List.length_set]; exact hj), List.getElem_set]
  split
  · rfl
  · rw [getElem!_pos _ j hj]
theorem Made.step {x : GRoom} {n : Nat} {r : GRing} {f : GFilter} {g : Nat} (M : Made x n) (hn : n < 4) (hr : r.okf = true) (hf : (f.ok && f.Kind == 1) = true) (hg : fin g = true) : Made { x with Loops := x.Loops.set n r, Damps := x.Damps.set n f, Gains := x.Gains.set n g } (n + 1) := by
  obtain ⟨e, t, c2, c, l4, d4, g4, l, d, gg, dry, wet⟩ := M
  refine ⟨e, t, c2, c, by rw [List.length_set]; exact l4, by rw [List.length_set]; exact d4, by rw [List.length_set]; exact g4, fun i hi => ?_, fun i hi => ?_, fun i hi => ?_, dry, wet⟩
  · show (x.Loops.set n r)[i]!.okf = true
    rw [setGet (by omega)]
    split
    · exact hr
    · exact l i (by omega)
  · show ((x.Damps.set n f)[i]!.ok && (x.Damps.set n f)[i]!.Kind == 1) = true
    rw [setGet (by omega)]
    split
    · exact hf
    · exact d i (by omega)
  · show fin (x.Gains.set n g)[i]! = true
    rw [setGet (by omega)]
    split
    · exact hg
    · exact gg i (by omega)
end
end Go.Sx
/- Drawn rooms are valid. -/
set_option linter.unusedVariables false
set_option linter.unusedSimpArgs false
namespace Go.Sx
open Go.Proofs
set_option maxRecDepth 100000
set_option maxHeartbeats 1000000

section
variable {h0 h h' : Heap} {L W : List Blk} {g : Nat} {cb : Option Addr} {cc K : Nat} {xs : List Int} {n : Int}
theorem Src.alc {cs : Array Value} {T : Nat} {F : Nat → Heap → Prop} (S : Src h0 h L g cb xs.length cc K) (H : ∀ g' h', Src h0 h' ((g', T, cs) :: L) g cb xs.length cc K → F g' h') : ALC cs T F h := by
  obtain ⟨p, st, hp, M⟩ := S
  exact M.alc fun g' h' x M => H g' h' ⟨p, st, hp, M.cnt fun p => by simp only [cnt_app, cnt_cons, cnt_nil]; omega⟩
theorem Src.sta {cs vs : Array Value} {T g' m : Nat} {F : Heap → Prop} (S : Src h0 h ((g', T, cs) :: L) g cb xs.length cc K) (hv : vs.size = m) (ho : ∀ v ∈ vs.toList, v.oneCell' = true) (hn : cs.size = m) (H : ∀ h', Src h0 h' ((g', T, vs) :: L) g cb xs.length cc K → F h') : STA m h ⟨g', 0, none⟩ vs F := by
  obtain ⟨p, st, hp, M⟩ := S
  have M := M.cnt (W := (g', T, cs) :: (g, T_spec_l00Src, ⟨[.slice cb xs.length cc, .int .i64 (p : Int), .int .u64 st]⟩) :: L) (fun p => by simp only [cnt_app, cnt_cons, cnt_nil]; omega)
  exact M.sta0 .here hv ho hn .here fun h' M => H h' ⟨p, st, hp, M.cnt fun p => by simp only [cnt_app, cnt_cons, cnt_nil]; omega⟩
end
end Go.Sx
/- Drawn bows are valid. -/
set_option linter.unusedVariables false
set_option linter.unusedSimpArgs false
namespace Go.Sx
open Go.Proofs Ieee
set_option maxRecDepth 100000
set_option maxHeartbeats 2000000

/-- What a drawn thing is. -/
def Drawn {α : Type} (r : Rep α) (ok : α → Bool) (h0 h' : Heap) (L : List Blk) (u : Value) : Prop := ∃ cs B x, u = .agg cs ∧ r.ow B cs.toList x ∧ ok x = true ∧ Mem h0 h' (B ++ L)
/-- A valid new thing. -/
def NewOk {α : Type} (r : Rep α) (ok : α → Bool) (h h' : Heap) (u : Value) : Prop := ∃ cs B x, u = .tuple ⟨[.agg cs, .int .i64 (0 : Int)]⟩ ∧ r.ow B cs.toList x ∧ ok x = true ∧ Mem h h' B
theorem NewOk.go {α : Type} {r : Rep α} {ok : α → Bool} {P : Program} {f : FuncId} {args : Array Value} {hh : Heap} {Q : Value → Heap → Prop} (c : CALL P f args (fun u h' => NewOk r ok hh h' u) hh) (H : ∀ h' cs B x, r.ow B cs.toList x → ok x = true → Mem hh h' B → Q (.tuple ⟨[.agg cs, .int .i64 (0 : Int)]⟩) h') : CALL P f args Q hh :=
  c.mono fun u h' ⟨cs, B, x, e, O, hx, N⟩ => by subst e; exact H h' cs B x O hx N
section
variable {α : Type} {rp : Rep α} {h0 h h' : Heap} {L W : List Blk} {g T : Nat} {cb : Option Addr} {cc K : Nat} {xs : List Int} {n : Int}
theorem Src.joinG {hh : Heap} {B : List Blk} (S : Src h0 h L g cb xs.length cc K) (N : Mem h hh B) : Src h0 hh (B ++ L) g cb xs.length cc K := by
  obtain ⟨p, st, hp, M⟩ := S
  exact ⟨p, st, hp, (M.join N).cnt fun p => by simp only [cnt_app, cnt_cons, cnt_nil]; omega⟩
/-- A thing in a block, beside the machine. -/
def DG (rp : Rep α) (T : Nat) (h0 h : Heap) (L : List Blk) (g : Nat) (cb : Option Addr) (cl cc K r : Nat) (x : α) : Prop := ∃ cs B, rp.ow B cs.toList x ∧ Src h0 h ((r, T, cs) :: (B ++ L)) g cb cl cc K
theorem DG.pt {r : Nat} {x : α} (D : DG rp T h0 h L g cb xs.length cc K r x) : ∃ (p : Nat) (st : Int), p ≤ K ∧ Pt rp h0 h ⟨r, 0, none⟩ ⟨r, T, [], []⟩ ((g, T_spec_l00Src, ⟨[.slice cb xs.length cc, .int .i64 (p : Int), .int .u64 st]⟩) :: L) x := by
  obtain ⟨cs, B, O, p, st, hp, M⟩ := D
  exact ⟨p, st, hp, Pt.new O (M.cnt fun p => by simp only [cnt_app, cnt_cons, cnt_nil]; omega)⟩
theorem DG.of {r p : Nat} {st : Int} {x : α} (hp : p ≤ K) (P : Pt rp h0 h ⟨r, 0, none⟩ ⟨r, T, [], []⟩ ((g, T_spec_l00Src, ⟨[.slice cb xs.length cc, .int .i64 (p : Int), .int .u64 st]⟩) :: L) x) : DG rp T h0 h L g cb xs.length cc K r x := by
  obtain ⟨cs, B, M, O⟩ := P.out
  exact ⟨cs, B, O, p, st, hp, M.cnt fun p => by simp only [cnt_app, cnt_cons, cnt_nil]; omega⟩
end
end Go.Sx
