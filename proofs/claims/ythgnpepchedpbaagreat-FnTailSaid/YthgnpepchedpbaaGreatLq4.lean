/- How long a room sounds, as the program tells it. -/
import Derived.Test.YthgnpepchedpbaaGreatLq3
import Derived.Test.YthgnpepchedpbaaGreatLp7
import Derived.Test.YthgnpepchedpbaaGreatLk7
import Derived.Test.YthgnpepchedpbaaGreatTab
import Derived.Test.YthgnpepchedpbaaGreatLs3
set_option linter.unusedVariables false
set_option linter.unusedSimpArgs false
namespace Go.Sx
open Go.Proofs
set_option maxRecDepth 100000
set_option maxHeartbeats 1000000

section
variable {h0 h : Heap} {x : GRoom} {most : Int} {g : Nat} {F : Fr} {L BR : List Blk} {bR : Option Addr} {cR : Nat}
theorem all_take7 {f : Nat → Bool} {n : Nat} : (List.range (n + 1)).all f = ((List.range n).all f && f n) := by rw [List.range_succ, List.all_append]; simp
theorem cellV {L : List Blk} {g i j T : Nat} {rs : List Int} (M : Mem h0 h ((g, T, ivs rs) :: L)) (hi : i < rs.length) (hj : j < 1) : cell h (((⟨g, 0, none⟩ : Addr).add ((Int.toNat (i : Int)) * 1)).add j) = some (.int .i64 rs[i]!) := by
  have e : j = 0 := Nat.lt_one_iff.1 hj
  rw [e, add0, add_none, Nat.zero_add, Int.toNat_natCast, Nat.mul_one, M.cell .here, ivs_get hi]
theorem steps_c (P : Pt rRoom h0 h ⟨g, 0, none⟩ F (BR ++ L) x) (R : x.Runs) (OR : SlO T_p_impl_Ring rP BR bR 7 cR (ringPs ⟨g, 0, none⟩)) (hm : 0 ≤ most ∧ most ≤ 20000) :
    CALL prg f_impl_steps #[.int .i64 most, .slice bR 7 cR, .func (.func f_p_impl_Room_isStill) #[.pointer (some ⟨g, 0, none⟩)] #[], .func (.func f_impl_TailOf_c1) #[] #[.pointer (some ⟨g, 0, none⟩)]] (fun u h' => u = tup (tailFrom x 0 (most.toNat + 1)) ∧ Ext h0 h') h := by
  have z0 : (rI .i64).ow [] [.int .i64 0] 0 := ⟨rfl, rfl⟩
  refine impl_steps.call (make_sl (n := 7) z0 rfl rfl (by decide) (Mem.start h) (by decide) (by decide) fun gr h1 x1 N _ => ?_)
  have P : Pt rRoom h0 h1 ⟨g, 0, none⟩ F ((gr, T_int64, ivs (List.replicate 7 0)) :: (BR ++ L)) x := P.join N
  have lkR : ∀ {hh : Heap} {X : GRoom} {cr : Array Value}, Pt rRoom h0 hh ⟨g, 0, none⟩ F ((gr, T_int64, cr) :: (BR ++ L)) X → SlR rP hh bR 7 cR (ringPs ⟨g, 0, none⟩) := fun P => OR.look P.mem ((List.sublist_append_left _ _).trans (List.sublist_cons_self _ _))
  refine loop (fun y hh => ∃ n : Nat, y = (most, bR, 7, cR, .func (.func f_p_impl_Room_isStill) #[.pointer (some ⟨g, 0, none⟩)] #[], .func (.func f_impl_TailOf_c1) #[] #[.pointer (some ⟨g, 0, none⟩)], some ⟨gr, 0, none⟩, 7, 7, bR, 7, cR, ((7 : Nat) : Int), (n : Int)) ∧ n ≤ 7 ∧
    Pt rRoom h0 hh ⟨g, 0, none⟩ F ((gr, T_int64, ivs (mapI (fun i => ((getR x i).quiet : Int)) (List.replicate 7 0) n)) :: (BR ++ L)) x) (fun y => (7 - y.2.2.2.2.2.2.2.2.2.2.2.2.2).toNat) ⟨0, rfl, by omega, by rw [mapI_zero]; exact P⟩ ?_
  rintro y hh ⟨n, rfl, hn, P⟩
  refine brd (fun hc => ?_) fun hc => ?_
  · have hlen : n < (List.replicate 7 (0 : Int)).length := by rw [List.length_replicate]; omega
    refine (lkR P).idx (by decide) (by omega) (by omega) fun p Rp => Rp.oP1 ?_
    rw [Int.toNat_natCast, ringPs_get _ (by omega)]
    refine (P.rd.foc (foc_ring n (by omega))).lda1 rfl fun cs Rc => (goX (Ring_quiet_c Rc (getR_ok R (by omega))) fun h2 x2 => as_i (idxs (by omega) (by omega) ?_))
    refine Pt.blkV (P.grow x2) .here .here (i := n) (by rw [mapI_len]; exact hlen) fun h3 P => ⟨⟨n + 1, by rw [wrap64_succ (by omega)], by omega, ?_⟩, by rw [wrap64_succ (by omega)]; show _ < _; simp; omega⟩
    rw [← mapI_set hlen]; exact P
  obtain rfl : n = 7 := by omega
  have K0 : Kept7 x (mapI (fun i => ((getR x i).quiet : Int)) (List.replicate 7 0) 7) 0 := by
    rw [mapI_all (by decide)]; exact kept_init R
  generalize mapI (fun i => ((getR x i).quiet : Int)) (List.replicate 7 0) 7 = rs0 at P K0
  refine loop (fun y hh => ∃ (m k : Nat) (X : GRoom) (rs : List Int), y = (most, bR, 7, cR, .func (.func f_p_impl_Room_isStill) #[.pointer (some ⟨g, 0, none⟩)] #[], .func (.func f_impl_TailOf_c1) #[] #[.pointer (some ⟨g, 0, none⟩)], some ⟨gr, 0, none⟩, 7, 7, (m : Int)) ∧ most.toNat + 1 = m + k ∧ X.Runs ∧ tailFrom X m k = tailFrom x 0 (most.toNat + 1) ∧ Kept7 X rs m ∧
    Pt rRoom h0 hh ⟨g, 0, none⟩ F ((gr, T_int64, ivs rs) :: (BR ++ L)) X) (fun y => (most + 1 - y.2.2.2.2.2.2.2.2.2).toNat) ⟨0, most.toNat + 1, x, rs0, rfl, by omega, R, rfl, K0, P⟩ ?_
  rintro y hh ⟨m, k, X, rs, rfl, hk, hr, e, K, P⟩
  refine brd (fun hc => ?_) fun hc => ?_
  · obtain ⟨k, rfl⟩ : ∃ k', k = k' + 1 := ⟨k - 1, by omega⟩
    show CALL prg f_p_impl_Room_isStill #[.pointer (some ⟨g, 0, none⟩)] _ hh
    refine goX (Room_isStill_c P.rd) fun h8 x8 => as_b ?_
    have P := P.grow x8
    refine loop (fun y hh => ∃ n : Nat, y = (most, bR, 7, cR, .func (.func f_p_impl_Room_isStill) #[.pointer (some ⟨g, 0, none⟩)] #[], .func (.func f_impl_TailOf_c1) #[] #[.pointer (some ⟨g, 0, none⟩)], some ⟨gr, 0, none⟩, 7, 7, (m : Int), X.stillD && (List.range n).all (fun i => (getR X i).zero), bR, 7, cR, ((7 : Nat) : Int), (n : Int)) ∧ n ≤ 7 ∧
      Pt rRoom h0 hh ⟨g, 0, none⟩ F ((gr, T_int64, ivs rs) :: (BR ++ L)) X) (fun y => (7 - y.2.2.2.2.2.2.2.2.2.2.2.2.2.2.2).toNat) ⟨0, by simp, by omega, P⟩ ?_
    rintro y hh ⟨n, rfl, hn, P⟩
    refine brd (fun hc => ?_) fun hc => ?_
    · refine (lkR P).idx (by decide) (by omega) (by omega) fun p Rp => Rp.oP1 ?_
      rw [Int.toNat_natCast, ringPs_get _ (by omega)]
      refine br (fun hs => ?_) fun hs => ?_
      · refine idxs (by omega) (by omega) ((Look.here).oV P.mem (i := n) (by rw [K.len]; omega) ((P.rd.foc (foc_ring n (by omega))).oL1 fun b3 l3 c3 S3 => goX (length_f32_c _ _ _ _) fun h9 x9 => as_i ?_))
        have hl3 : (getR X n).Samples.length = l3 := S3.len
        have hz := kept_zero hr K (i := n) (by omega)
        rw [hl3] at hz
        have P2 := P.grow x9
        refine Sx.pin x9 (fun j hj => ⟨.int .i64 rs[n]!, cellV P.mem (by rw [K.len]; omega) hj⟩) ⟨⟨n + 1, ?_, by omega, P2⟩, by rw [wrap64_succ (by omega)]; show _ < _; simp; omega⟩
        rw [wrap64_succ (by omega), all_take7, ← Bool.and_assoc, hs, Bool.true_and, ← hz]
      · refine ⟨⟨n + 1, ?_, by omega, P⟩, by rw [wrap64_succ (by omega)]; show _ < _; simp; omega⟩
        rw [wrap64_succ (by omega), all_take7, ← Bool.and_assoc, hs, Bool.false_and]
    obtain rfl : n = 7 := by omega
    have ez : (X.stillD && (List.range 7).all (fun i => (getR X i).zero)) = X.zero := by rw [zero_eq, zeroR_eq hr.c2 hr.l4, Bool.and_comm]
    rw [ez]
    refine br (fun hb => ⟨by rw [← e, tf_zero hb]; rfl, P.ext⟩) fun hb => ?_
    show CALL prg f_impl_TailOf_c1 #[.pointer (some ⟨g, 0, none⟩)] _ hh
    refine impl_TailOf_c1.call ((Room_step_c P hr fw0).mono ?_)
    rintro _ h9 ⟨⟨y, rfl, _⟩, P⟩
    refine as_f ?_
    have hr' := step_runs hr 0
    have K' := kept_step hr (by omega) K 0
    refine loop (fun y hh => ∃ n : Nat, y = (most, bR, 7, cR, .func (.func f_p_impl_Room_isStill) #[.pointer (some ⟨g, 0, none⟩)] #[], .func (.func f_impl_TailOf_c1) #[] #[.pointer (some ⟨g, 0, none⟩)], some ⟨gr, 0, none⟩, 7, 7, (m : Int), bR, 7, cR, ((7 : Nat) : Int), (n : Int)) ∧ n ≤ 7 ∧
      Pt rRoom h0 hh ⟨g, 0, none⟩ F ((gr, T_int64, ivs (mapI (runsNext (X.step 0).1 rs) rs n)) :: (BR ++ L)) (X.step 0).1) (fun y => (7 - y.2.2.2.2.2.2.2.2.2.2.2.2.2.2).toNat) ⟨0, rfl, by omega, by rw [mapI_zero]; exact P⟩ ?_
    rintro y hh ⟨n, rfl, hn, P⟩
    refine brd (fun hc => ?_) fun hc => ?_
    · have hlen : n < rs.length := by rw [K.len]; omega
      have hlm : n < (mapI (runsNext (X.step 0).1 rs) rs n).length := by rw [mapI_len]; exact hlen
      have hkn := K.k n (by omega)
      refine (lkR P).idx (by decide) (by omega) (by omega) fun p Rp => Rp.oP1 ?_
      rw [Int.toNat_natCast, ringPs_get _ (by omega)]
      refine idxs (by omega) (by omega) ((Look.here).oV P.mem (i := n) hlm (idxs (by omega) (by omega) (Pt.blkV P .here .here (i := n) hlm fun h3 P => ?_)))
      rw [mapI_ge hlen (Nat.le_refl _), wrap64 (by omega) (by omega)] at P
      refine (P.rd.foc (foc_ring n (by omega))).lda1 rfl fun cs Rc => (Ring_back_c Rc (getR_ok hr' (by omega)) (k := 1) (by have := at_lt (getR_ok hr' (i := n) (by omega)); unfold inR GRing.len; simp only [Bool.and_eq_true, decide_eq_true_eq]; omega)).mono ?_
      rintro _ h4 ⟨⟨y, rfl, hy⟩, x4⟩
      refine as_f ?_
      rw [ordN hy]
      refine br (fun hb => ?_) fun hb => ?_
      · refine idxs (by omega) (by omega) (Pt.blkV (P.grow x4) .here .here (i := n) (by rw [List.length_set]; exact hlm) fun h5 P => ⟨⟨n + 1, by rw [wrap64_succ (by omega)], by omega, ?_⟩, by rw [wrap64_succ (by omega)]; show _ < _; simp; omega⟩)
        have en : runsNext (X.step 0).1 rs n = 0 := by unfold runsNext; rw [nt hb]; rfl
        rw [List.set_set, ← en, mapI_set hlen] at P
        exact P
      · refine ⟨⟨n + 1, by rw [wrap64_succ (by omega)], by omega, ?_⟩, by rw [wrap64_succ (by omega)]; show _ < _; simp; omega⟩
        have en : runsNext (X.step 0).1 rs n = rs[n]! + 1 := by unfold runsNext; rw [nf hb]; rfl
        have P := P.grow x4
        rw [← en, mapI_set hlen] at P
        exact P
    obtain rfl : n = 7 := by omega
    refine ⟨⟨m + 1, k, _, _, by rw [wrap64_succ (by omega)], by omega, hr', ?_, K', P⟩, by rw [wrap64_succ (by omega)]; show _ < _; simp; omega⟩
    rw [← e, tf_step hb]; rfl
  · obtain rfl : k = 0 := by omega
    exact ⟨by rw [← e]; rfl, P.ext⟩
end
section
variable {h : Heap} {x : GRoom} {most : Int}
theorem impl_TailOf_c {cs : Array Value} (R0 : rRoom.rd h cs.toList x) : CALL prg f_impl_TailOf #[.agg cs, .int .i64 most] (fun u h' => u = tup (x.tailOf most) ∧ Ext h h') h := by
  refine impl_TailOf.call ((Mem.start h).alc fun g1 h1 x1 M => M.lda0 .here (rsz R0 rfl) ?_)
  refine goM M (ValidRoom_c (rRoom.ext M.ext R0)) fun h3 M => as_b (br (fun hb => ⟨by rw [tail1 (nt hb)]; rfl, M.ext⟩) fun hb => ?_)
  have hok := nf hb
  refine goM M (within_c _ _ _ _) fun h4 M => as_b (br (fun hb => ⟨by rw [tail2 hok (nt hb)]; rfl, M.ext⟩) fun hb => ?_)
  have hin := nf hb
  rw [tail0 hok hin]
  have hm : 0 ≤ most ∧ most ≤ 20000 := by unfold inR at hin; simpa using hin
  refine M.lda0 .here (rsz R0 rfl) (NewR.go M (Room_clone_c (rRoom.ext M.ext R0) (ok_small hok)) fun h5 c5 B5 M O5 s5 => as_a ?_)
  have M := M.cnt (W := (g1, T_impl_Room, cs) :: (B5 ++ [])) (fun p => by simp only [cnt_app, cnt_cons, cnt_nil] at *; omega)
  refine M.sta0 .here s5 (rRoom.oone O5) (rsz R0 rfl) .here fun h6 M => ?_
  have P : Pt rRoom h h6 ⟨g1, 0, none⟩ ⟨g1, T_impl_Room, [], []⟩ [] x := Pt.new O5 M
  refine (rings_c _ _).mono ?_
  rintro _ h7 ⟨bR, cR, BR, rfl, OR, N⟩
  refine as_l ((steps_c (P.join N) (room_runs R0 hok) OR hm).mono ?_)
  rintro _ h8 ⟨rfl, X⟩
  exact tup2 (as_i (as_i ⟨rfl, X⟩))
end
end Go.Sx
/- One element appended to an own slice beside own data. -/
set_option linter.unusedVariables false
set_option linter.unusedSimpArgs false
namespace Go.Sx
open Go.Proofs
set_option maxRecDepth 100000
set_option maxHeartbeats 1000000

section
variable {α β : Type} {r : Rep α} {s : Rep β} {P : Program} {h0 h : Heap} {q : Addr} {F : Fr} {B L : List Blk} {d : α} {t e bytes ty : Nat} {b : Option Addr} {l c : Nat} {xs : List β} {K : Value → Heap → Prop}
/-- One element appended to an own slice beside own data. -/
theorem Pt.push {cs : Array Value} {x : β} (Pa : Pt r h0 h q F (B ++ L) d) (E : ElemT P t e s.sz bytes) (O : SlO e s B b l c xs) (Ox : s.ow [] cs.toList x) (hmax : l + 1 ≤ maxLen) (hbytes : (l + 1) * bytes ≤ 140737488355328)
    (H : ∀ b' c' h' B', SlO e s B' b' (l + 1) c' (xs ++ [x]) → Pt r h0 h' q F (B' ++ L) d → K (.slice b' (l + 1) c') h') :
    ALC cs e (fun g h => SEMV P (Builtin.append_ #[t, t] ty #[.slice b l c, .slice (some ⟨g, 0, none⟩) 1 1]) K h) h := by
  obtain ⟨e1, mid, BR, M, OR⟩ := Pa
  refine push_own (Bn := []) (L := (F.g, F.T, ⟨F.pre ++ (mid ++ F.post)⟩) :: (BR ++ L)) E O (M.cnt fun p => by simp only [cnt_app, cnt_cons, cnt_nil]; omega) Ox hmax hbytes fun b' c' h' B' O' M' => H b' c' h' B' O' ⟨e1, mid, BR, M'.cnt fun p => ?_, OR⟩
  simp only [cnt_app, cnt_cons, cnt_nil]; omega
end
end Go.Sx
/- What functions of this seat's program compute, told in words (a predicate over heaps for each), and the proofs that the words are no more than the code's own weakest precondition. -/
namespace Go.Sx
open Go.Proofs
set_option linter.unusedVariables false
set_option maxRecDepth 100000

def impl_PlayRoom.B8 (Post : Value → Heap → Prop) (N8 : (Addr × Addr × Option Addr × Nat × Nat × Option Addr × Nat × Nat × Int × Int) → Heap → Prop) : Addr × Addr × Option Addr × Nat × Nat × Option Addr × Nat × Nat × Int × Int → Heap → Prop
  | (x_2, t4, out_7b, out_7l, out_7c, t22b, t22l, t22c, t23, t24), h =>
    BIF (decide (t24 < t23)) (
    IDXS t22b t24 t22l fun p22 =>
    oF .f32 (cell h ((Addr.add p22 ((Int.toNat t24) * 1)))) fun r23 =>
    CALL prg f_p_impl_Room_step #[.pointer (some x_2), .float .f32 r23] (fun q24 h25 =>
    asF .f32 q24 fun r26 =>
    ALC ⟨[.float .f32 r26]⟩ T_float32 (fun g27 h28 =>
    SEMV prg (Builtin.append_ #[T_sl_float32, T_sl_float32] T_sl_float32 #[.slice out_7b out_7l out_7c, .slice (some ⟨g27, 0, none⟩) 1 1]) (fun q29 h30 =>
    asL q29 fun l31b l31l l31c =>
    N8 (x_2, t4, l31b, l31l, l31c, t22b, t22l, t22c, t23, ((IntKind.i64.wrap (t24 + (1 : Int))))) h30) h28) h25) h) (
    LDA 47 h x_2 fun a32 =>
    STA 47 h t4 a32 fun h33 =>
    LDA 47 h33 t4 fun a34 =>
    Post (.tuple ⟨[.agg a34, .slice out_7b out_7l out_7c, .int .i64 (0 : Int)]⟩) h33)
def impl_PlayRoom.g8 (fr : Frame) : Addr × Addr × Option Addr × Nat × Nat × Option Addr × Nat × Nat × Int × Int := ((gP (lget fr 2)), (gP (lget fr 4)), (gLb (lget fr 7)), (gLl (lget fr 7)), (gLc (lget fr 7)), (gLb (lget fr 22)), (gLl (lget fr 22)), (gLc (lget fr 22)), (gI (lget fr 23)), (gI (lget fr 24)))
def impl_PlayRoom.l8 (Post : Value → Heap → Prop) : Frame → Heap → Prop := fun fr h => GRD (shape (kds 36 [(2, .p), (4, .p), (7, .l), (22, .l), (23, .i .i64), (24, .i .i64)]) fr) (LOOP (impl_PlayRoom.B8 Post) (impl_PlayRoom.g8 fr) h)
def impl_PlayRoom.S (x_0 : Array Value) (in_1b : Option Addr) (in_1l in_1c : Nat) (Post : Value → Heap → Prop) (h : Heap) : Prop :=
    ALC x_0 T_impl_Room (fun g1 h2 =>
    ALC ⟨Z_impl_Room⟩ T_impl_Room (fun g3 h4 =>
    LDA 47 h4 ⟨g1, 0, none⟩ fun a5 =>
    CALL prg f_impl_ValidRoom #[.agg a5] (fun q6 h7 =>
    asB q6 fun b8 =>
    BIF (!b8) (
    STA 47 h7 ⟨g3, 0, none⟩ (⟨[.slice none 0 0, .int .i64 (0 : Int), .slice none 0 0, .slice none 0 0, .int .i64 (0 : Int), .float .f32 0, .slice none 0 0, .int .i64 (0 : Int), .float .f32 0, .slice none 0 0, .int .i64 (0 : Int), .slice none 0 0, .int .i64 (0 : Int), .slice none 0 0, .int .i64 (0 : Int), .slice none 0 0, .int .i64 (0 : Int), .int .i64 (0 : Int), .float .f32 0, .float .f32 0, .float .f32 0, .float .f32 0, .float .f32 0, .int .i64 (0 : Int), .float .f32 0, .float .f32 0, .float .f32 0, .float .f32 0, .float .f32 0, .int .i64 (0 : Int), .float .f32 0, .float .f32 0, .float .f32 0, .float .f32 0, .float .f32 0, .int .i64 (0 : Int), .float .f32 0, .float .f32 0, .float .f32 0, .float .f32 0, .float .f32 0, .float .f32 0, .float .f32 0, .float .f32 0, .float .f32 0, .float .f32 0, .float .f32 0]⟩ : Array Value) fun h9 =>
    LDA 47 h9 ⟨g3, 0, none⟩ fun a10 =>
    Post (.tuple ⟨[.agg a10, .slice none 0 0, .int .i64 (1 : Int)]⟩) h9) (
    BIF ((decide ((4096 : Int) < (in_1l : Int)))) (
    STA 47 h7 ⟨g3, 0, none⟩ (⟨[.slice none 0 0, .int .i64 (0 : Int), .slice none 0 0, .slice none 0 0, .int .i64 (0 : Int), .float .f32 0, .slice none 0 0, .int .i64 (0 : Int), .float .f32 0, .slice none 0 0, .int .i64 (0 : Int), .slice none 0 0, .int .i64 (0 : Int), .slice none 0 0, .int .i64 (0 : Int), .slice none 0 0, .int .i64 (0 : Int), .int .i64 (0 : Int), .float .f32 0, .float .f32 0, .float .f32 0, .float .f32 0, .float .f32 0, .int .i64 (0 : Int), .float .f32 0, .float .f32 0, .float .f32 0, .float .f32 0, .float .f32 0, .int .i64 (0 : Int), .float .f32 0, .float .f32 0, .float .f32 0, .float .f32 0, .float .f32 0, .int .i64 (0 : Int), .float .f32 0, .float .f32 0, .float .f32 0, .float .f32 0, .float .f32 0, .float .f32 0, .float .f32 0, .float .f32 0, .float .f32 0, .float .f32 0, .float .f32 0]⟩ : Array Value) fun h13 =>
    LDA 47 h13 ⟨g3, 0, none⟩ fun a14 =>
    Post (.tuple ⟨[.agg a14, .slice none 0 0, .int .i64 (3 : Int)]⟩) h13) (
    LDA 47 h7 ⟨g1, 0, none⟩ fun a15 =>
    CALL prg f_impl_Room_clone #[.agg a15] (fun q16 h17 =>
    asA q16 fun a18 =>
    STA 47 h17 ⟨g1, 0, none⟩ a18 fun h19 =>
    LOOP (impl_PlayRoom.B8 Post) (⟨g1, 0, none⟩, ⟨g3, 0, none⟩, none, 0, 0, in_1b, in_1l, in_1c, (in_1l : Int), (0 : Int)) h19) h7))) h4) h2) h
noncomputable def impl_PlayRoom.code : Code := (Tryz.f10.body).getD .skip
theorem impl_PlayRoom.call {x_0 : Array Value} {in_1b : Option Addr} {in_1l in_1c : Nat} {Post : Value → Heap → Prop} {h : Heap} (H : impl_PlayRoom.S x_0 in_1b in_1l in_1c Post h) : CALL prg f_impl_PlayRoom #[.agg x_0, .slice in_1b in_1l in_1c] Post h :=
  fn_call tau_ok mixed (c := impl_PlayRoom.code) (Λ := lookL [(1000008, impl_PlayRoom.l8 Post)]) Tryz.func10 (by kernel_rfl) (by kernel_rfl)
    (Rq.seq (by kernel_rfl) (Rq.free (by kernel_rfl)) (Rq.seq (by kernel_rfl) (Rq.free (by kernel_rfl)) (Rq.seq (by kernel_rfl) (Rq.free (by kernel_rfl)) (Rq.seq (by kernel_rfl) (Rq.free (by kernel_rfl)) (Rq.seq (by kernel_rfl) (Rq.seq (by kernel_rfl) (Rq.free (by kernel_rfl)) (Rq.block (Rq.loop (impl_PlayRoom.l8 Post) (by kernel_rfl) (segL (g := impl_PlayRoom.g8) tau_ok mixed (Λ := fun N8 => lookL []) (fun _ _ _ => by kernel_rfl) (fun N8 => (Rq.free (by kernel_rfl))))))) (Rq.free (by kernel_rfl)))))))
    (Eq.mp (by kernel_rfl) H)

end Go.Sx
/- PlayRoom: the rule, the program, and the law. -/
set_option linter.unusedVariables false
set_option linter.unusedSimpArgs false
namespace Go.Sx
open Go.Proofs
set_option maxRecDepth 100000
set_option maxHeartbeats 1000000

/-- A room, a slice of floats and a code, told by a call. -/
def TriL (h h' : Heap) (u : Value) (x : GRoom) (ys : List Nat) (code : Int) : Prop := ∃ cs B b l c C, u = .tuple ⟨[.agg cs, .slice b l c, .int .i64 code]⟩ ∧ rRoom.ow B cs.toList x ∧ SlO T_float32 (rF .f32) C b l c ys ∧ Mem h h' (B ++ C)
theorem TriL.go {P : Program} {f : FuncId} {args : Array Value} {x : GRoom} {ys : List Nat} {code : Int} {hb h : Heap} {L : List Blk} {K : Value → Heap → Prop} (M : Mem hb h L) (k : CALL P f args (fun u h' => TriL h h' u x ys code) h)
    (H : ∀ h' cs B b l c C, Mem hb h' ((B ++ C) ++ L) → rRoom.ow B cs.toList x → cs.size = rRoom.sz → SlO T_float32 (rF .f32) C b l c ys → K (.tuple ⟨[.agg cs, .slice b l c, .int .i64 code]⟩) h') : CALL P f args K h :=
  k.mono fun u h' ⟨cs, B, b, l, c, C, e, O, S, N⟩ => by subst e; exact H h' cs B b l c C (M.join N) O (by simpa using rRoom.olen O) S
def GRoom.played (x : GRoom) (xs : List Nat) : GRoom × List Nat × Int := if x.ok then if xs.length ≤ 4096 then ((x.play xs).1, (x.play xs).2, 0) else (z_Room, [], 3) else (z_Room, [], 1)
section
variable {h : Heap} {x : GRoom} {xs : List Nat} {b : Option Addr} {l c : Nat}
theorem played1 (h1 : x.ok = false) : x.played xs = (z_Room, [], 1) := by unfold GRoom.played; rw [h1]; rfl
theorem played3 (h1 : x.ok = true) (h2 : 4096 < xs.length) : x.played xs = (z_Room, [], 3) := by unfold GRoom.played; rw [h1, if_pos rfl, if_neg (by omega)]
theorem played0 (h1 : x.ok = true) (h2 : xs.length ≤ 4096) : x.played xs = ((x.play xs).1, (x.play xs).2, 0) := by unfold GRoom.played; rw [h1, if_pos rfl, if_pos h2]
theorem play_step {n : Nat} (hn : n < xs.length) : x.play (xs.take (n + 1)) = (((x.play (xs.take n)).1.step xs[n]!).1, (x.play (xs.take n)).2 ++ [((x.play (xs.take n)).1.step xs[n]!).2]) := by rw [take_snoc hn, play_append]
theorem impl_PlayRoom_c {cs : Array Value} (R0 : rRoom.rd h cs.toList x) (S0 : SlR (rF .f32) h b l c xs) : CALL prg f_impl_PlayRoom #[.agg cs, .slice b l c] (fun u h' => TriL h h' u (x.played xs).1 (x.played xs).2.1 (x.played xs).2.2) h := by
  have hl := S0.len
  have hm : (4097 : Nat) ≤ maxLen := by decide
  refine impl_PlayRoom.call ((Mem.start h).alc fun g1 h1 x1 M => M.alc fun g3 h2 x2 M => M.lda0 (.there .here) (rsz R0 rfl) ?_)
  refine goM M (ValidRoom_c (rRoom.ext M.ext R0)) fun h3 M => as_b (br (fun hb => ?_) fun hb => ?_)
  · rw [played1 (nt hb)]
    exact M.sta0 .here rfl (all_one rfl) rfl .here fun h3 M => M.lda0 .here rfl ⟨_, [], _, _, _, [], rfl, zow_Room, SlO.nil, M.drop.drop⟩
  have hok := nf hb
  refine brd (fun hc => ?_) fun hc => ?_
  · rw [played3 hok (by omega)]
    exact M.sta0 .here rfl (all_one rfl) rfl .here fun h3 M => M.lda0 .here rfl ⟨_, [], _, _, _, [], rfl, zow_Room, SlO.nil, M.drop.drop⟩
  rw [played0 hok (by omega)]
  have hr := room_runs R0 hok
  refine M.lda0 (.there .here) (rsz R0 rfl) (NewR.go M (Room_clone_c (rRoom.ext M.ext R0) (ok_small hok)) fun h4 c4 B4 M O4 s4 => as_a ?_)
  have M := M.cnt (W := (g1, T_impl_Room, cs) :: (B4 ++ [(g3, T_impl_Room, ⟨Z_impl_Room⟩)])) (fun p => by simp only [cnt_app, cnt_cons, cnt_nil] at *; omega)
  refine M.sta0 .here s4 (rRoom.oone O4) (rsz R0 rfl) .here fun h6 M => ?_
  have P : Pt rRoom h h6 ⟨g1, 0, none⟩ ⟨g1, T_impl_Room, [], []⟩ [(g3, T_impl_Room, ⟨Z_impl_Room⟩)] x := Pt.new O4 M
  refine loop (fun y hh => ∃ (n : Nat) (b' : Option Addr) (c' : Nat) (B : List Blk), y = (⟨g1, 0, none⟩, ⟨g3, 0, none⟩, b', n, c', b, l, c, (l : Int), (n : Int)) ∧ n ≤ l ∧ SlO T_float32 (rF .f32) B b' n c' (x.play (xs.take n)).2 ∧
    Pt rRoom h hh ⟨g1, 0, none⟩ ⟨g1, T_impl_Room, [], []⟩ (B ++ [(g3, T_impl_Room, ⟨Z_impl_Room⟩)]) (x.play (xs.take n)).1) (fun y => (l - y.2.2.2.2.2.2.2.2.2).toNat)
    ⟨0, _, _, [], rfl, by omega, SlO.nil, P⟩ ?_
  rintro y hh ⟨n, b', c', B, rfl, hn, O, P⟩
  refine brd (fun hc => ?_) fun hc => ?_
  · refine (S0.ext P.ext).idx (by decide) (by omega) (by omega) fun p Rp => Rp.oF1 fun w hw => ((Room_step_c P (play_runs hr _) hw).mono ?_)
    rintro _ h8 ⟨⟨y, rfl, hy⟩, P⟩
    refine as_f (Pt.push P E_sl_float32 O ⟨rfl, _, rfl, hy⟩ (by omega) (by omega) fun b2 c2 h9 B2 O2 P2 => as_l ⟨⟨n + 1, b2, c2, B2, by rw [wrap64_succ (by omega)], by omega, ?_, ?_⟩, by rw [wrap64_succ (by omega)]; show _ < _; simp; omega⟩)
    · rw [play_step (by omega)]; exact O2
    · rw [play_step (by omega)]; exact P2
  obtain rfl : n = l := by omega
  rw [← hl, List.take_length] at O P
  obtain ⟨cs, BR, M, OR⟩ := P.out
  refine M.lda0 .here (osz OR rfl) ?_
  have M := M.cnt (W := (g3, T_impl_Room, ⟨Z_impl_Room⟩) :: (BR ++ B)) (fun p => by simp only [cnt_app, cnt_cons, cnt_nil] at *; omega)
  refine M.sta0 .here (osz OR rfl) (rRoom.oone OR) rfl .here fun h3 M => M.lda0 .here (osz OR rfl) ?_
  rw [← hl]
  exact ⟨_, BR, _, _, _, B, rfl, OR, O, M.drop⟩
end
end Go.Sx
