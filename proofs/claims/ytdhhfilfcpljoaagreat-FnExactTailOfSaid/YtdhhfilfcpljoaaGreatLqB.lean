/- How long a room sounds, as the rule and the program tell it. -/
import Derived.Test.YtdhhfilfcpljoaaGreatLqA
import Derived.Test.YtdhhfilfcpljoaaGreatLs4
import Derived.Test.YtdhhfilfcpljoaaGreatLw0
import Derived.Test.YtdhhfilfcpljoaaGreatTailOf
set_option linter.unusedVariables false
set_option linter.unusedSimpArgs false
namespace Go.Sx
open Go.Proofs
set_option maxRecDepth 100000
set_option maxHeartbeats 1000000

section
variable {h0 h : Heap} {x : GRoom} {most : Int}
theorem tf_zero {x : GRoom} {n : Int} {k : Nat} (h : x.zero = true) : tailFrom x n (k + 1) = (n, 0) := by unfold tailFrom; rw [if_pos h]
theorem tf_step {x : GRoom} {n : Int} {k : Nat} (h : x.zero = false) : tailFrom x n (k + 1) = tailFrom (x.step 0).1 (n + 1) k := by rw [tailFrom, h]; rfl
def tup (r : Int × Int) : Value := .tuple ⟨[.int .i64 r.1, .int .i64 r.2]⟩
theorem tail1 (h1 : x.ok = false) : x.tailOf most = (0, 1) := by unfold GRoom.tailOf; rw [h1]; rfl
theorem tail2 (h1 : x.ok = true) (h2 : inR most 0 20000 = false) : x.tailOf most = (0, 2) := by unfold GRoom.tailOf; rw [h1, h2]; rfl
theorem tail0 (h1 : x.ok = true) (h2 : inR most 0 20000 = true) : x.tailOf most = tailFrom x 0 (most.toNat + 1) := by unfold GRoom.tailOf; rw [h1, h2]; rfl
theorem spec_TailOf_c {cs : Array Value} (R0 : rRoom.rd h cs.toList x) : CALL prg f_spec_TailOf #[.agg cs, .int .i64 most] (fun u h' => u = tup (x.tailOf most) ∧ Ext h h') h := by
  refine spec_TailOf.call ((Mem.start h).alc fun g1 h1 x1 M => ?_)
  have R : RdP rRoom h1 ⟨g1, 0, none⟩ x := M.rdp .here (rRoom.ext M.ext R0)
  refine goM M (l06Ok_c R) fun h3 M => as_b (br (fun hb => ⟨by rw [tail1 (nt hb)]; rfl, M.ext⟩) fun hb => ?_)
  have hok := nf hb
  refine goM M (l00In_c _ _ _ _) fun h4 M => as_b (br (fun hb => ⟨by rw [tail2 hok (nt hb)]; rfl, M.ext⟩) fun hb => ?_)
  have hin := nf hb
  rw [tail0 hok hin]
  have hm : 0 ≤ most ∧ most ≤ 20000 := by unfold inR at hin; simpa using hin
  have R : RdP rRoom h4 ⟨g1, 0, none⟩ x := M.rdp .here (rRoom.ext M.ext R0)
  refine NewR.go M (l06Copy_c R (ok_small hok)) fun h5 c5 B5 M O5 s5 => as_a (M.alc fun g h6 x6 M => M.sta0 .here s5 (rRoom.oone O5) rfl .here fun h7 M => ?_)
  have P : Pt rRoom h h7 ⟨g, 0, none⟩ ⟨g, T_impl_Room, [], []⟩ [(g1, T_impl_Room, cs)] x := Pt.new O5 M
  refine loop (fun y hh => ∃ (m k : Nat) (X : GRoom), y = (most, ⟨g, 0, none⟩, (m : Int)) ∧ most.toNat + 1 = m + k ∧ X.Runs ∧ tailFrom X m k = tailFrom x 0 (most.toNat + 1) ∧ Pt rRoom h hh ⟨g, 0, none⟩ ⟨g, T_impl_Room, [], []⟩ [(g1, T_impl_Room, cs)] X)
    (fun y => (most + 1 - y.2.2).toNat) ⟨0, most.toNat + 1, x, rfl, by omega, room_runs R0 hok, rfl, P⟩ ?_
  rintro y hh ⟨m, k, X, rfl, hk, hr, e, P⟩
  refine brd (fun hc => ?_) fun hc => ?_
  · obtain ⟨k, rfl⟩ : ∃ k', k = k' + 1 := ⟨k - 1, by omega⟩
    refine (l06Silent_c P.rd).mono ?_
    rintro _ h8 ⟨rfl, x8⟩
    refine as_b (br (fun hb => ⟨by rw [← e, tf_zero hb]; rfl, (P.grow x8).ext⟩) fun hb => ?_)
    refine (l06Step_c (P.grow x8) hr fw0).mono ?_
    rintro _ h9 ⟨⟨y, rfl, _⟩, P⟩
    refine as_f ⟨⟨m + 1, k, _, by rw [wrap64_succ (by omega)], by omega, step_runs hr 0, ?_, P⟩, by rw [wrap64_succ (by omega)]; show _ < _; simp; omega⟩
    rw [← e, tf_step hb]; rfl
  · obtain rfl : k = 0 := by omega
    exact ⟨by rw [← e]; rfl, P.ext⟩
/-- Integers in a block. -/
def ivs (rs : List Int) : Array Value := ⟨rs.map (.int .i64)⟩
theorem ivs_get {rs : List Int} {i : Nat} (hi : i < rs.length) : (ivs rs)[i]? = some (.int .i64 rs[i]!) := by
  unfold ivs
  rw [List.getElem?_toArray, List.getElem?_map, List.getElem?_eq_getElem hi, getElem!_pos _ i hi]; rfl
theorem ivs_set {rs : List Int} {i : Nat} {v : Int} : (ivs rs).setIfInBounds i (.int .i64 v) = ivs (rs.set i v) := by
  unfold ivs
  rw [List.setIfInBounds_toArray, List.map_set]
theorem Look.oV {L : List Blk} {g i : Nat} {rs : List Int} {K : Int → Prop} (l : Look L g (ivs rs)) (M : Mem h0 h L) (hi : i < rs.length) (H : K rs[i]!) : Sx.oI .i64 (cell h ((⟨g, 0, none⟩ : Addr).add (i * 1))) K := by
  rw [add_none, Nat.zero_add, Nat.mul_one]
  exact o_i (by rw [M.cell l, ivs_get hi]) H
theorem Pt.blkV {α : Type} {r : Rep α} {d : α} {q : Addr} {F : Fr} {L L' : List Blk} {g T i : Nat} {v : Int} {rs : List Int} {K : Heap → Prop} (P : Pt r h0 h q F L d) (l : Look L g (ivs rs)) (k : Pick L g T (ivs rs) L') (hi : i < rs.length)
    (H : ∀ h', Pt r h0 h' q F ((g, T, ivs (rs.set i v)) :: L') d → K h') : ST1 h ((⟨g, 0, none⟩ : Addr).add (i * 1)) (.int .i64 v) K := by
  rw [add_none, Nat.zero_add]
  refine P.blk1 l (by unfold ivs; simp; omega) k fun h' P' => H h' ?_
  rw [Nat.mul_one, ivs_set] at P'
  exact P'
end
end Go.Sx
/- How long a room sounds, as the program tells it. -/
set_option linter.unusedVariables false
set_option linter.unusedSimpArgs false
namespace Go.Sx
open Go.Proofs
set_option maxRecDepth 100000
set_option maxHeartbeats 1000000

section
variable {h0 h : Heap} {x : GRoom} {most : Int} {g : Nat} {F : Fr} {L BR : List Blk} {bR : Option Addr} {cR : Nat}
theorem all_take7 {f : Nat → Bool} {n : Nat} : (List.range (n + 1)).all f = ((List.range n).all f && f n) := by rw [List.range_succ, List.all_append]; simp
theorem cellV {L : List Blk} {g i j T : Nat} {rs : List Int} (M : Mem h0 h ((g, T, ivs rs) :: L)) (hi : i < rs.length) (hj : j < 1) : cell h (((⟨g, 0, none⟩ : Addr).add ((Int.toNat (i : Int)) * 1)).add j) = some (.int .i64 rs[i]!) := by
  have e : j = 0 := Nat.lt_one_iff.1 hj
  rw [e, add0, add_none, Nat.zero_add, Int.toNat_natCast, Nat.mul_one, M.cell .here, ivs_get hi]
theorem steps_c (P : Pt rRoom h0 h ⟨g, 0, none⟩ F (BR ++ L) x) (R : x.Runs) (OR : SlO T_p_impl_Ring rP BR bR 7 cR (ringPs ⟨g, 0, none⟩)) (hm : 0 ≤ most ∧ most ≤ 20000) :
    CALL prg f_impl_steps #[.int .i64 most, .slice bR 7 cR, .func (.func f_p_impl_Room_isStill) #[.pointer (some ⟨g, 0, none⟩)] #[], .func (.func f_impl_TailOf_c1) #[] #[.pointer (some ⟨g, 0, none⟩)]] (fun u h' => u = tup (tailFrom x 0 (most.toNat + 1)) ∧ Ext h0 h') h := by
  have z0 : (rI .i64).ow [] [.int .i64 0] 0 := ⟨rfl, rfl⟩
  refine impl_steps.call (make_sl (n := 7) z0 rfl rfl (by decide) (Mem.start h) (by decide) (by decide) fun gr h1 x1 N _ => ?_)
  have P : Pt rRoom h0 h1 ⟨g, 0, none⟩ F ((gr, T_int64, ivs (List.replicate 7 0)) :: (BR ++ L)) x := P.join N
  have lkR : ∀ {hh : Heap} {X : GRoom} {cr : Array Value}, Pt rRoom h0 hh ⟨g, 0, none⟩ F ((gr, T_int64, cr) :: (BR ++ L)) X → SlR rP hh bR 7 cR (ringPs ⟨g, 0, none⟩) := fun P => OR.look P.mem ((List.sublist_append_left _ _).trans (List.sublist_cons_self _ _))
  refine loop (fun y hh => ∃ n : Nat, y = (most, bR, 7, cR, .func (.func f_p_impl_Room_isStill) #[.pointer (some ⟨g, 0, none⟩)] #[], .func (.func f_impl_TailOf_c1) #[] #[.pointer (some ⟨g, 0, none⟩)], some ⟨gr, 0, none⟩, 7, 7, bR, 7, cR, ((7 : Nat) : Int), (n : Int)) ∧ n ≤ 7 ∧
    Pt rRoom h0 hh ⟨g, 0, none⟩ F ((gr, T_int64, ivs (mapI (fun i => ((getR x i).quiet : Int)) (List.replicate 7 0) n)) :: (BR ++ L)) x) (fun y => (7 - y.2.2.2.2.2.2.2.2.2.2.2.2.2).toNat) ⟨0, rfl, by omega, by rw [mapI_zero]; exact P⟩ ?_
  rintro y hh ⟨n, rfl, hn, P⟩
  refine brd (fun hc => ?_) fun hc => ?_
  · have hlen : n < (List.replicate 7 (0 : Int)).length := by rw [List.length_replicate]; omega
    refine (lkR P).idx (by decide) (by omega) (by omega) fun p Rp => Rp.oP1 ?_
    rw [Int.toNat_natCast, ringPs_get _ (by omega)]
    refine (P.rd.foc (foc_ring n (by omega))).lda1 rfl fun cs Rc => (goX (Ring_quiet_c Rc (getR_ok R (by omega))) fun h2 x2 => as_i (idxs (by omega) (by omega) ?_))
    refine Pt.blkV (P.grow x2) .here .here (i := n) (by rw [mapI_len]; exact hlen) fun h3 P => ⟨⟨n + 1, by rw [wrap64_succ (by omega)], by omega, ?_⟩, by rw [wrap64_succ (by omega)]; show _ < _; simp; omega⟩
    rw [← mapI_set hlen]; exact P
  obtain rfl : n = 7 := by omega
  have K0 : Kept7 x (mapI (fun i => ((getR x i).quiet : Int)) (List.replicate 7 0) 7) 0 := by
    rw [mapI_all (by decide)]; exact kept_init R
  generalize mapI (fun i => ((getR x i).quiet : Int)) (List.replicate 7 0) 7 = rs0 at P K0
  refine loop (fun y hh => ∃ (m k : Nat) (X : GRoom) (rs : List Int), y = (most, bR, 7, cR, .func (.func f_p_impl_Room_isStill) #[.pointer (some ⟨g, 0, none⟩)] #[], .func (.func f_impl_TailOf_c1) #[] #[.pointer (some ⟨g, 0, none⟩)], some ⟨gr, 0, none⟩, 7, 7, (m : Int)) ∧ most.toNat + 1 = m + k ∧ X.Runs ∧ tailFrom X m k = tailFrom x 0 (most.toNat + 1) ∧ Kept7 X rs m ∧
    Pt rRoom h0 hh ⟨g, 0, none⟩ F ((gr, T_int64, ivs rs) :: (BR ++ L)) X) (fun y => (most + 1 - y.2.2.2.2.2.2.2.2.2).toNat) ⟨0, most.toNat + 1, x, rs0, rfl, by omega, R, rfl, K0, P⟩ ?_
  rintro y hh ⟨m, k, X, rs, rfl, hk, hr, e, K, P⟩
  refine brd (fun hc => ?_) fun hc => ?_
  · obtain ⟨k, rfl⟩ : ∃ k', k = k' + 1 := ⟨k - 1, by omega⟩
    show CALL prg f_p_impl_Room_isStill #[.pointer (some ⟨g, 0, none⟩)] _ hh
    refine goX (Room_isStill_c P.rd) fun h8 x8 => as_b ?_
    have P := P.grow x8
    refine loop (fun y hh => ∃ n : Nat, y = (most, bR, 7, cR, .func (.func f_p_impl_Room_isStill) #[.pointer (some ⟨g, 0, none⟩)] #[], .func (.func f_impl_TailOf_c1) #[] #[.pointer (some ⟨g, 0, none⟩)], some ⟨gr, 0, none⟩, 7, 7, (m : Int), X.stillD && (List.range n).all (fun i => (getR X i).zero), bR, 7, cR, ((7 : Nat) : Int), (n : Int)) ∧ n ≤ 7 ∧
      Pt rRoom h0 hh ⟨g, 0, none⟩ F ((gr, T_int64, ivs rs) :: (BR ++ L)) X) (fun y => (7 - y.2.2.2.2.2.2.2.2.2.2.2.2.2.2.2).toNat) ⟨0, by simp, by omega, P⟩ ?_
    rintro y hh ⟨n, rfl, hn, P⟩
    refine brd (fun hc => ?_) fun hc => ?_
    · refine (lkR P).idx (by decide) (by omega) (by omega) fun p Rp => Rp.oP1 ?_
      rw [Int.toNat_natCast, ringPs_get _ (by omega)]
      refine br (fun hs => ?_) fun hs => ?_
      · refine idxs (by omega) (by omega) ((Look.here).oV P.mem (i := n) (by rw [K.len]; omega) ((P.rd.foc (foc_ring n (by omega))).oL1 fun b3 l3 c3 S3 => goX (length_f32_c _ _ _ _) fun h9 x9 => as_i ?_))
        have hl3 : (getR X n).Samples.length = l3 := S3.len
        have hz := kept_zero hr K (i := n) (by omega)
        rw [hl3] at hz
        have P2 := P.grow x9
        refine Sx.pin x9 (fun j hj => ⟨.int .i64 rs[n]!, cellV P.mem (by rw [K.len]; omega) hj⟩) ⟨⟨n + 1, ?_, by omega, P2⟩, by rw [wrap64_succ (by omega)]; show _ < _; simp; omega⟩
        rw [wrap64_succ (by omega), all_take7, ← Bool.and_assoc, hs, Bool.true_and, ← hz]
      · refine ⟨⟨n + 1, ?_, by omega, P⟩, by rw [wrap64_succ (by omega)]; show _ < _; simp; omega⟩
        rw [wrap64_succ (by omega), all_take7, ← Bool.and_assoc, hs, Bool.false_and]
    obtain rfl : n = 7 := by omega
    have ez : (X.stillD && (List.range 7).all (fun i => (getR X i).zero)) = X.zero := by rw [zero_eq, zeroR_eq hr.c2 hr.l4, Bool.and_comm]
    rw [ez]
    refine br (fun hb => ⟨by rw [← e, tf_zero hb]; rfl, P.ext⟩) fun hb => ?_
    show CALL prg f_impl_TailOf_c1 #[.pointer (some ⟨g, 0, none⟩)] _ hh
    refine impl_TailOf_c1.call ((Room_step_c P hr fw0).mono ?_)
    rintro _ h9 ⟨⟨y, rfl, _⟩, P⟩
    refine as_f ?_
    have hr' := step_runs hr 0
    have K' := kept_step hr (by omega) K 0
    refine loop (fun y hh => ∃ n : Nat, y = (most, bR, 7, cR, .func (.func f_p_impl_Room_isStill) #[.pointer (some ⟨g, 0, none⟩)] #[], .func (.func f_impl_TailOf_c1) #[] #[.pointer (some ⟨g, 0, none⟩)], some ⟨gr, 0, none⟩, 7, 7, (m : Int), bR, 7, cR, ((7 : Nat) : Int), (n : Int)) ∧ n ≤ 7 ∧
      Pt rRoom h0 hh ⟨g, 0, none⟩ F ((gr, T_int64, ivs (mapI (runsNext (X.step 0).1 rs) rs n)) :: (BR ++ L)) (X.step 0).1) (fun y => (7 - y.2.2.2.2.2.2.2.2.2.2.2.2.2.2).toNat) ⟨0, rfl, by omega, by rw [mapI_zero]; exact P⟩ ?_
    rintro y hh ⟨n, rfl, hn, P⟩
    refine brd (fun hc => ?_) fun hc => ?_
    · have hlen : n < rs.length := by rw [K.len]; omega
      have hlm : n < (mapI (runsNext (X.step 0).1 rs) rs n).length := by rw [mapI_len]; exact hlen
      have hkn := K.k n (by omega)
      refine (lkR P).idx (by decide) (by omega) (by omega) fun p Rp => Rp.oP1 ?_
      rw [Int.toNat_natCast, ringPs_get _ (by omega)]
      refine idxs (by omega) (by omega) ((Look.here).oV P.mem (i := n) hlm (idxs (by omega) (by omega) (Pt.blkV P .here .here (i := n) hlm fun h3 P => ?_)))
      rw [mapI_ge hlen (Nat.le_refl _), wrap64 (by omega) (by omega)] at P
      refine (P.rd.foc (foc_ring n (by omega))).lda1 rfl fun cs Rc => (Ring_back_c Rc (getR_ok hr' (by omega)) (k := 1) (by have := at_lt (getR_ok hr' (i := n) (by omega)); unfold inR GRing.len; simp only [Bool.and_eq_true, decide_eq_true_eq]; omega)).mono ?_
      rintro _ h4 ⟨⟨y, rfl, hy⟩, x4⟩
      refine as_f ?_
      rw [ordN hy]
      refine br (fun hb => ?_) fun hb => ?_
      · refine idxs (by omega) (by omega) (Pt.blkV (P.grow x4) .here .here (i := n) (by rw [List.length_set]; exact hlm) fun h5 P => ⟨⟨n + 1, by rw [wrap64_succ (by omega)], by omega, ?_⟩, by rw [wrap64_succ (by omega)]; show _ < _; simp; omega⟩)
        have en : runsNext (X.step 0).1 rs n = 0 := by unfold runsNext; rw [nt hb]; rfl
        rw [List.set_set, ← en, mapI_set hlen] at P
        exact P
      · refine ⟨⟨n + 1, by rw [wrap64_succ (by omega)], by omega, ?_⟩, by rw [wrap64_succ (by omega)]; show _ < _; simp; omega⟩
        have en : runsNext (X.step 0).1 rs n = rs[n]! + 1 := by unfold runsNext; rw [nf hb]; rfl
        have P := P.grow x4
        rw [← en, mapI_set hlen] at P
        exact P
    obtain rfl : n = 7 := by omega
    refine ⟨⟨m + 1, k, _, _, by rw [wrap64_succ (by omega)], by omega, hr', ?_, K', P⟩, by rw [wrap64_succ (by omega)]; show _ < _; simp; omega⟩
    rw [← e, tf_step hb]; rfl
  · obtain rfl : k = 0 := by omega
    exact ⟨by rw [← e]; rfl, P.ext⟩
end
section
variable {h : Heap} {x : GRoom} {most : Int}
theorem impl_TailOf_c {cs : Array Value} (R0 : rRoom.rd h cs.toList x) : CALL prg f_impl_TailOf #[.agg cs, .int .i64 most] (fun u h' => u = tup (x.tailOf most) ∧ Ext h h') h := by
  refine impl_TailOf.call ((Mem.start h).alc fun g1 h1 x1 M => M.lda0 .here (rsz R0 rfl) ?_)
  refine goM M (ValidRoom_c (rRoom.ext M.ext R0)) fun h3 M => as_b (br (fun hb => ⟨by rw [tail1 (nt hb)]; rfl, M.ext⟩) fun hb => ?_)
  have hok := nf hb
  refine goM M (within_c _ _ _ _) fun h4 M => as_b (br (fun hb => ⟨by rw [tail2 hok (nt hb)]; rfl, M.ext⟩) fun hb => ?_)
  have hin := nf hb
  rw [tail0 hok hin]
  have hm : 0 ≤ most ∧ most ≤ 20000 := by unfold inR at hin; simpa using hin
  refine M.lda0 .here (rsz R0 rfl) (NewR.go M (Room_clone_c (rRoom.ext M.ext R0) (ok_small hok)) fun h5 c5 B5 M O5 s5 => as_a ?_)
  have M := M.cnt (W := (g1, T_impl_Room, cs) :: (B5 ++ [])) (fun p => by simp only [cnt_app, cnt_cons, cnt_nil] at *; omega)
  refine M.sta0 .here s5 (rRoom.oone O5) (rsz R0 rfl) .here fun h6 M => ?_
  have P : Pt rRoom h h6 ⟨g1, 0, none⟩ ⟨g1, T_impl_Room, [], []⟩ [] x := Pt.new O5 M
  refine (rings_c _ _).mono ?_
  rintro _ h7 ⟨bR, cR, BR, rfl, OR, N⟩
  refine as_l ((steps_c (P.join N) (room_runs R0 hok) OR hm).mono ?_)
  rintro _ h8 ⟨rfl, X⟩
  exact tup2 (as_i (as_i ⟨rfl, X⟩))
theorem FnExactTailOf_c {cs : Array Value} (R0 : rRoom.rd h cs.toList x) : CALL prg f_laws_FnExactTailOf #[.agg cs, .int .i64 most] (fun u h' => u = .bool true ∧ Ext h h') h := by
  refine laws_FnExactTailOf.call ((Mem.start h).alc fun g1 h1 x1 M => M.lda0 .here (rsz R0 rfl) (goM M (sz_Room_c (rRoom.ext M.ext R0) 1048576 (by omega) : CALL prg f_laws_szRoom #[.agg cs, .int .i64 (1048576 : Int)] _ _) fun h2 M => as_i (br (fun hb => ⟨rfl, M.ext⟩) fun hb => ?_)))
  have hw := subW_le hb
  refine M.lda0 .here (rsz R0 rfl) (NewR.go M (to_Room_c (rRoom.ext M.ext R0) hw) fun h3 c3 B3 M O3 s3 => as_a ?_)
  refine goM M (spec_TailOf_c (rRoom.look O3 M (List.sublist_append_left _ _))) fun h4 M => tup2 (as_i (as_i ?_))
  refine M.lda0 (Look.skip .here) (rsz R0 rfl) (NewR.go M (to_Room_c (rRoom.ext M.ext R0) hw) fun h7 c7 B7 M O7 s7 => as_a (M.alc fun g24 h8 x8 M => M.sta0 .here s7 (rRoom.oone O7) rfl .here fun h9 M => M.lda0 .here s7 ?_))
  have M := M.cnt (W := (g24, T_impl_Room, c7) :: (g1, T_laws_Room, cs) :: B7) (fun p => by simp only [cnt_app, cnt_cons, cnt_nil] at *; omega)
  have rdO : ∀ {hh : Heap} {W B : List Blk} {c : Array Value} {y : GRoom}, Mem h hh W → (∀ p, Sx.cnt p B ≤ Sx.cnt p W) → rRoom.ow B c.toList y → rRoom.rd hh c.toList y := fun M hc O => rRoom.look O (M.cnt hc) (List.Sublist.refl _)
  refine goM M (impl_TailOf_c (rdO M (fun p => by simp only [cnt_app, cnt_cons, cnt_nil] at *; omega) O7)) fun h13 M => tup2 (as_i (as_i (eqB (eqB ?_))))
  have R7 : rRoom.rd h13 c7.toList x := rdO M (fun p => by simp only [cnt_app, cnt_cons, cnt_nil] at *; omega) O7
  have P7 : RdP rRoom h13 ⟨g24, 0, none⟩ x := M.rdp .here R7
  refine M.lda0 .here s7 (M.lda0 (.there .here) (rsz R0 rfl) (NewR.go (Mem.start h13) (to_Room_c (rRoom.ext M.ext R0) hw) fun h14 c14 B14 N O14 s14 => as_a (P7.pin rfl N.ext ?_)))
  have M := M.join N
  exact goM M (eq_Room_c (rRoom.ext N.ext R7) (rdO M (fun p => by simp only [cnt_app, cnt_cons, cnt_nil] at *; omega) O14)) fun h15 M => as_b (bne_br rfl ⟨rfl, M.ext⟩)
end
end Go.Sx
