/- Rooms made by the rule: valid for drawn numbers. -/
import Derived.Test.YtkgmfiloghhibaaGreatDoorK10
import Derived.Test.YtkgmfiloghhibaaGreatDoorLs3
import Derived.Test.YtkgmfiloghhibaaGreatDoorLfk
import Derived.Test.YtkgmfiloghhibaaGreatDoorMuteRoom
import Derived.Test.YtkgmfiloghhibaaGreatDoorLm7
import Derived.Test.YtkgmfiloghhibaaGreatDoorK2b
import Derived.Test.YtkgmfiloghhibaaGreatDoorLk21
set_option linter.unusedVariables false
set_option linter.unusedSimpArgs false
namespace Go.Sx
open Go.Proofs
set_option maxRecDepth 100000
set_option maxHeartbeats 1000000

section
variable {h0 h : Heap} {q : Addr} {F : Fr} {L : List Blk} {y k : Nat}
theorem l06Tail_c {t : Int} (h0 : 10 ≤ t) (h1 : t < 210) : CALL prg f_spec_l06Tail #[.float .f32 (tailW t)] (fun u h' => u = .bool true ∧ Ext h h') h := by
  have ht := tail_ok h0 h1
  unfold tailOk at ht
  rw [Bool.and_eq_true] at ht
  exact spec_l06Tail.call (br_t ht.1 ⟨by congr 1; exact ht.2, Ext.refl _⟩)
theorem l06Gain_c {l t : Int} (l0 : 1 ≤ l) (l1 : l ≤ 8) (h0 : 10 ≤ t) (h1 : t < 210) : CALL prg f_spec_l06Gain #[.int .i64 l, .float .f32 (tailW t)] (fun u h' => (∃ y, u = .float .f32 y ∧ FW .f32 y (gainW l t)) ∧ Ext h h') h := by
  have hg := gain_ok l0 l1 h0 h1
  have hc : FW .f64 4619463459138379574 4619463459138379574 := fw_c64 (by decide) (by decide)
  have h1' : FW .f64 4607182418800017408 4607182418800017408 := fw_c64 (by decide) (by decide)
  have h2' : FW .f64 4611686018427387904 4611686018427387904 := fw_c64 (by decide) (by decide)
  refine spec_l06Gain.call (fM hc (fw_nearest .f64 l) fun r1 k1 => ffc_wide (fw_nearest .f32 t) fun r2 k2 => fD k1 k2 fun r3 k3 => ?_)
  have k3 : FW .f64 r3 (gainE l t) := k3
  rw [ord_eq k3 h1']
  refine br (fun b => ⟨⟨0, rfl, ?_⟩, Ext.refl _⟩) fun b => fS h1' k3 fun r4 k4 => fM k3 k3 fun r5 k5 => fD k5 h2' fun r6 k6 => fA k4 k6 fun r7 k7 => ?_
  · have b : fgt .f64 (gainE l t) 4607182418800017408 = true := b
    unfold gainW
    rw [if_pos b]; exact fw0
  have b : fgt .f64 (gainE l t) 4607182418800017408 = false := b
  have k7 : FW .f64 r7 (gainX l t) := k7
  unfold gainOk at hg
  rw [b, Bool.false_or, Bool.and_eq_true] at hg
  refine ffc_nar k7 hg.1 fun r8 k8 => ⟨⟨r8, rfl, ?_⟩, Ext.refl _⟩
  unfold gainW
  rw [b, if_neg (by decide)]; exact k8
/-- A room of which the first n loops are made. -/
structure Made (x : GRoom) (n : Nat) : Prop where
  e : x.Early.okf = true
  t : x.Taps = []
  c2 : x.Combs.length = 2
  c : x.Combs.all GComb.ok = true
  l4 : x.Loops.length = 4
  d4 : x.Damps.length = 4
  g4 : x.Gains.length = 4
  l : ∀ i, i < n → x.Loops[i]!.okf = true
  d : ∀ i, i < n → (x.Damps[i]!.ok && x.Damps[i]!.Kind == 1) = true
  g : ∀ i, i < n → fin x.Gains[i]! = true
  dry : fin x.Dry = true
  wet : fin x.Wet = true
theorem all_idx {α : Type} [Inhabited α] {l : List α} {p : α → Bool} (H : ∀ i, i < l.length → p l[i]! = true) : l.all p = true := by
  rw [List.all_eq_true]
  intro a ha
  obtain ⟨i, hi, rfl⟩ := List.mem_iff_getElem.1 ha
  have := H i hi
  rwa [getElem!_pos l i hi] at this
theorem Made.ok {x : GRoom} (M : Made x 4) : x.ok = true := by
  rw [room_ok, M.e, M.c, M.t, M.dry, M.wet]
  rw [all_idx (l := x.Loops) (p := GRing.okf) fun i hi => M.l i (by rw [M.l4] at hi; exact hi)]
  rw [all_idx (l := x.Damps) (p := fun f => f.ok && f.Kind == 1) fun i hi => M.d i (by rw [M.d4] at hi; exact hi)]
  unfold allFin
  rw [all_idx (l := x.Gains) (p := fin) fun i hi => M.g i (by rw [M.g4] at hi; exact hi)]
  rfl
theorem setGet {α : Type} [Inhabited α] {l : List α} {i j : Nat} {a : α} (hj : j < l.length) : (l.set i a)[j]! = if i = j then a else l[j]! := by
  rw [getElem!_pos _ j (by rw [List.length_set]; exact hj), List.getElem_set]
  split
  · rfl
  · rw [getElem!_pos _ j hj]
theorem Made.step {x : GRoom} {n : Nat} {r : GRing} {f : GFilter} {g : Nat} (M : Made x n) (hn : n < 4) (hr : r.okf = true) (hf : (f.ok && f.Kind == 1) = true) (hg : fin g = true) : Made { x with Loops := x.Loops.set n r, Damps := x.Damps.set n f, Gains := x.Gains.set n g } (n + 1) := by
  obtain ⟨e, t, c2, c, l4, d4, g4, l, d, gg, dry, wet⟩ := M
  refine ⟨e, t, c2, c, by rw [List.length_set]; exact l4, by rw [List.length_set]; exact d4, by rw [List.length_set]; exact g4, fun i hi => ?_, fun i hi => ?_, fun i hi => ?_, dry, wet⟩
  · show (x.Loops.set n r)[i]!.okf = true
    rw [setGet (by omega)]
    split
    · exact hr
    · exact l i (by omega)
  · show ((x.Damps.set n f)[i]!.ok && (x.Damps.set n f)[i]!.Kind == 1) = true
    rw [setGet (by omega)]
    split
    · exact hf
    · exact d i (by omega)
  · show fin (x.Gains.set n g)[i]! = true
    rw [setGet (by omega)]
    split
    · exact hg
    · exact gg i (by omega)
theorem foc_gain (i : Nat) (hi : i < 4) : Foc rRoom (rF .f32) (41 + i * 1) (fun a => a.Gains[i]!) (fun a b => { a with Gains := a.Gains.set i b }) := (foc_Room_Gains.trans (Foc.arr (rF .f32) i hi)).at rfl
/-- A valid room, told by a call. -/
def RoomOk (h h' : Heap) (u : Value) : Prop := ∃ cs B x, u = .tuple ⟨[.agg cs, .int .i64 (0 : Int)]⟩ ∧ rRoom.ow B cs.toList x ∧ x.ok = true ∧ Mem h h' B
theorem silence_okf {n : Int} (h : inR n 1 1024 = true) : (silence n).okf = true := by
  simp only [inR, Bool.and_eq_true, decide_eq_true_eq] at h
  exact ring_okf h.1 h.2
theorem fw_one : FW .f32 1065353216 1065353216 := fw_c32 (by decide) (by decide)
theorem fin_half : fin 1056964608 = true := by decide +kernel
theorem fin_one : fin 1065353216 = true := by decide +kernel
theorem comb_made {B : List Blk} {cs : Array Value} {r : GRing} (O : rRing.ow B cs.toList r) : ∃ B2, rComb.ow B2 (List.set (splice 0 2 cs [.slice none 0 0, .int .i64 (0 : Int), .float .f32 0]) 2 (.float .f32 1056964608)) ⟨r, 1056964608⟩ ∧ ∀ p, Sx.cnt p B2 ≤ Sx.cnt p B := by
  obtain ⟨B1, O1, c1⟩ := ow_splice zow_Comb foc_Comb_Ring rfl O
  obtain ⟨B2, O2, c2⟩ := ow_set O1 foc_Comb_Gain rfl ⟨rfl, 1056964608, rfl, fw_c32 (by decide) (by decide)⟩
  exact ⟨B2, O2, fun p => by have := c1 p; have := c2 p; simp only [cnt_nil] at *; omega⟩
theorem spec_NewRoom_c {ls : List Int} {t : Int} {w z : Nat} (hl : ls.length = 4) (hr : ∀ i : Nat, i < 4 → 1 ≤ ls[i]! ∧ ls[i]! ≤ 8) (t0 : 10 ≤ t) (t1 : t < 210) (hk : FW .f32 y k) (hp : place k = true) (hw : FW .f32 w z) (hz : fin z = true) :
    CALL prg f_spec_NewRoom #[.agg (ivs ls), .float .f32 (tailW t), .float .f32 y, .float .f32 w] (fun u h' => RoomOk h h' u) h := by
  have hin : ∀ i : Nat, i < 4 → inR ls[i]! 1 1024 = true := fun i hi => by have := hr i hi; simp only [inR, Bool.and_eq_true, decide_eq_true_eq]; omega
  refine spec_NewRoom.call ((Mem.start h).alc fun g1 h1 x1 M => M.alc fun g3 h2 x2 M => goM M (l06Tail_c t0 t1) fun h3 M => as_b (br_t rfl ?_))
  have hp' := hp
  unfold place at hp'
  rw [Bool.and_eq_true] at hp'
  rw [ord_eq hk fw0, ord_eq hk fw_one]
  refine br_t hp'.1 (br_t hp'.2 (goM M (l01Finite_c hw _) fun h4 M => as_b ?_))
  rw [hz]
  unfold spec_NewRoom.J2
  refine loop (fun v hh => ∃ i : Nat, v = (tailW t, y, w, ⟨g1, 0, none⟩, ⟨g3, 0, none⟩, true, (i : Int)) ∧ i ≤ 4 ∧ Mem h hh [(g3, T_impl_Room, ⟨Z_impl_Room⟩), (g1, T_4_int64, ivs ls)]) (fun v => (4 - v.2.2.2.2.2.2).toNat) ⟨0, rfl, by omega, M⟩ ?_
  rintro v hh ⟨i, rfl, hi, M⟩
  refine brd (fun hc => ?_) fun hc => ?_
  · refine br_t rfl (idx (by omega) (by omega) ?_)
    rw [Int.toNat_natCast]
    refine (Look.there .here).oV M (i := i) (by omega) (goM M (l00In_c _ _ _ _) fun h5 M => as_b ?_)
    rw [hin i (by omega)]
    exact ⟨⟨i + 1, by rw [wrap64_succ (by omega)], by omega, M⟩, by rw [wrap64_succ (by omega)]; show _ < _; simp; omega⟩
  refine br_f rfl ?_
  refine NewR.go M (l06Silence_c 1 (by decide) _) fun h5 c5 B5 M O5 s5 => as_a (siz s5 (M.alc fun g20 h6 x6 M => ?_))
  obtain ⟨B1, O1, k1⟩ := ow_splice zow_Room foc_Room_Early rfl O5
  obtain ⟨B2, O2, k2⟩ := ow_set O1 foc_Room_Dry rfl ⟨rfl, 1065353216, rfl, fw_one⟩
  obtain ⟨B3, O3, k3⟩ := ow_set O2 foc_Room_Wet rfl ⟨rfl, w, rfl, hw⟩
  have M := M.cnt (W := (g20, T_impl_Room, ⟨Z_impl_Room⟩) :: (B3 ++ [(g3, T_impl_Room, ⟨Z_impl_Room⟩), (g1, T_4_int64, ivs ls)])) (fun p => by have := k1 p; have := k2 p; have := k3 p; simp only [cnt_app, cnt_cons, cnt_nil] at *; omega)
  refine M.sta0 .here (osz (cs := ⟨_⟩) O3 rfl) (rRoom.oone O3) rfl .here fun h7 M => ?_
  have P := Pt.new (r := rRoom) O3 M
  have P : Pt rRoom h h7 ⟨g20, 0, none⟩ ⟨g20, T_impl_Room, [], []⟩ [(g3, T_impl_Room, ⟨Z_impl_Room⟩), (g1, T_4_int64, ivs ls)] { z_Room with Early := silence 1, Dry := 1065353216, Wet := z } := P
  refine NewR.pt P (l06Silence_c 3 (by decide) _) fun h8 c8 B8 P O8 s8 => as_a (siz s8 (idx (by omega) (by omega) ?_))
  obtain ⟨B9, O9, k9⟩ := comb_made O8
  refine (P.cnt (W := B9 ++ [(g3, T_impl_Room, ⟨Z_impl_Room⟩), (g1, T_4_int64, ivs ls)]) (fun p => by have := k9 p; simp only [cnt_app, cnt_cons, cnt_nil] at *; omega)).stsg (vs := ⟨_⟩) (foc_comb 0 (by decide)) rfl O9 fun h9 P => ?_
  refine NewR.pt P (l06Silence_c 5 (by decide) _) fun h10 c10 B10 P O10 s10 => as_a (siz s10 (idx (by omega) (by omega) ?_))
  obtain ⟨B11, O11, k11⟩ := comb_made O10
  refine (P.cnt (W := B11 ++ [(g3, T_impl_Room, ⟨Z_impl_Room⟩), (g1, T_4_int64, ivs ls)]) (fun p => by have := k11 p; simp only [cnt_app, cnt_cons, cnt_nil] at *; omega)).stsg (vs := ⟨_⟩) (foc_comb 1 (by decide)) rfl O11 fun h11 P => ?_
  have f0 : fin 0 = true := by decide +kernel
  refine loop (fun v hh => ∃ (i : Nat) (x : GRoom), v = (tailW t, y, ⟨g1, 0, none⟩, ⟨g3, 0, none⟩, ⟨g20, 0, none⟩, (i : Int)) ∧ i ≤ 4 ∧ Made x i ∧ Pt rRoom h hh ⟨g20, 0, none⟩ ⟨g20, T_impl_Room, [], []⟩ [(g3, T_impl_Room, ⟨Z_impl_Room⟩), (g1, T_4_int64, ivs ls)] x) (fun v => (4 - v.2.2.2.2.2).toNat)
    ⟨0, _, rfl, by omega, ?_, P⟩ ?_
  · refine ⟨silence_okf (by decide), rfl, rfl, ?_, rfl, rfl, rfl, fun i hi => by omega, fun i hi => by omega, fun i hi => by omega, fin_one, hz⟩
    show [GComb.ok ⟨silence 3, 1056964608⟩, GComb.ok ⟨silence 5, 1056964608⟩].all id = true
    have e1 : GComb.ok ⟨silence 3, 1056964608⟩ = true := by unfold GComb.ok; rw [silence_okf (by decide)]; exact fin_half
    have e2 : GComb.ok ⟨silence 5, 1056964608⟩ = true := by unfold GComb.ok; rw [silence_okf (by decide)]; exact fin_half
    rw [e1, e2]; rfl
  rintro v hh ⟨i, x, rfl, hi, Mx, P⟩
  refine brd (fun hc => ?_) fun hc => ?_
  · have hri := hr i (by omega)
    refine idx (by omega) (by omega) ?_
    rw [Int.toNat_natCast]
    refine (Look.there .here).oV P.mem (i := i) (by omega) (NewR.pt P (l06Silence_c _ (hin i (by omega)) _) fun h12 c12 B12 P O12 s12 => as_a (idx (by omega) (by omega) ?_))
    rw [add_add']
    refine P.sts (foc_loop i (by omega)) rfl O12 fun h13 P => (spec_OnePole_c hk).mono ?_
    rintro _ h14 ⟨⟨kd, y1, y2, rfl, Of⟩, x14⟩
    refine as_a (idx (by omega) (by omega) ?_)
    rw [add_add']
    refine (P.grow x14).sts (B' := []) (vs := ⟨_⟩) (foc_damp i (by omega)) rfl Of fun h15 P => idx (by omega) (by omega) ((Look.there .here).oV P.mem (i := i) (by omega) ((l06Gain_c hri.1 hri.2 t0 t1).mono ?_))
    rintro _ h16 ⟨⟨yg, rfl, hg⟩, x16⟩
    refine as_f (idx (by omega) (by omega) ?_)
    rw [add_add']
    refine (P.grow x16).st (B' := []) (foc_gain i (by omega)) rfl ⟨rfl, yg, rfl, hg⟩ fun h17 P => ⟨⟨i + 1, _, by rw [wrap64_succ (by omega)], by omega, Mx.step (by omega) (silence_okf (hin i (by omega))) (onePole_ok hp) (gain_fin hri.1 hri.2 t0 t1), P⟩, by rw [wrap64_succ (by omega)]; show _ < _; simp; omega⟩
  obtain rfl : i = 4 := by omega
  obtain ⟨cs, BR, M, OR⟩ := P.out
  refine M.lda0 .here (osz OR rfl) ?_
  have M := M.cnt (W := (g3, T_impl_Room, ⟨Z_impl_Room⟩) :: BR) (fun p => by simp only [cnt_app, cnt_cons, cnt_nil] at *; omega)
  exact M.sta0 .here (osz OR rfl) (rRoom.oone OR) rfl .here fun h3 M => M.lda0 .here (osz OR rfl) ⟨_, BR, x, rfl, OR, Mx.ok, M.drop⟩
end
end Go.Sx
/- Drawn rooms are valid. -/
set_option linter.unusedVariables false
set_option linter.unusedSimpArgs false
namespace Go.Sx
open Go.Proofs
set_option maxRecDepth 100000
set_option maxHeartbeats 1000000

section
variable {h0 h h' : Heap} {L W : List Blk} {g : Nat} {cb : Option Addr} {cc K : Nat} {xs : List Int} {n : Int}
theorem Src.alc {cs : Array Value} {T : Nat} {F : Nat → Heap → Prop} (S : Src h0 h L g cb xs.length cc K) (H : ∀ g' h', Src h0 h' ((g', T, cs) :: L) g cb xs.length cc K → F g' h') : ALC cs T F h := by
  obtain ⟨p, st, hp, M⟩ := S
  exact M.alc fun g' h' x M => H g' h' ⟨p, st, hp, M.cnt fun p => by simp only [cnt_app, cnt_cons, cnt_nil]; omega⟩
theorem Src.sta {cs vs : Array Value} {T g' m : Nat} {F : Heap → Prop} (S : Src h0 h ((g', T, cs) :: L) g cb xs.length cc K) (hv : vs.size = m) (ho : ∀ v ∈ vs.toList, v.oneCell' = true) (hn : cs.size = m) (H : ∀ h', Src h0 h' ((g', T, vs) :: L) g cb xs.length cc K → F h') : STA m h ⟨g', 0, none⟩ vs F := by
  obtain ⟨p, st, hp, M⟩ := S
  have M := M.cnt (W := (g', T, cs) :: (g, T_spec_l00Src, ⟨[.slice cb xs.length cc, .int .i64 (p : Int), .int .u64 st]⟩) :: L) (fun p => by simp only [cnt_app, cnt_cons, cnt_nil]; omega)
  exact M.sta0 .here hv ho hn .here fun h' M => H h' ⟨p, st, hp, M.cnt fun p => by simp only [cnt_app, cnt_cons, cnt_nil]; omega⟩
theorem tap_ow {y a : Nat} (hy : FW .f32 y a) : rTap.ow [] [.int .i64 n, .float .f32 y] ⟨n, a⟩ := ⟨[], [], [.int .i64 n], [.float .f32 y], rfl, rfl, ⟨rfl, rfl⟩, ⟨rfl, y, rfl, hy⟩⟩
theorem l06Taps_c {len : Int} (S : Src h0 h L g cb xs.length cc K) (C : Cells h0 cb (iv .u8 xs)) (hb : Byt' xs) (hK : K ≤ 1000) (h1 : 1 ≤ len) (h2 : len ≤ 9) :
    CALL prg f_spec_l06Taps #[.pointer (some ⟨g, 0, none⟩), .int .i64 len] (fun u h' => ∃ b l c ts B, u = .slice b l c ∧ SlO T_impl_Tap rTap B b l c ts ∧ ts.length ≤ 4 ∧ (ts.all fun t => t.ok len) = true ∧ Src h0 h' (B ++ L) g cb xs.length cc (K + 20)) h := by
  have hm : (10 : Nat) ≤ maxLen := by decide
  refine spec_l06Taps.call (S.alc fun g1 h1 S => (pick_c S C hb (by omega)).mono ?_)
  rintro _ h2 ⟨v, rfl, v1, v2, v3, S⟩
  refine as_i ?_
  have hv : v < 4 := by omega
  refine loop (fun y hh => ∃ (l : Nat) (i : Int) (b : Option Addr) (c : Nat) (ts : List GTap) (B : List Blk), y = (⟨g, 0, none⟩, len, b, l, c, i) ∧ 0 ≤ i ∧ (l : Int) + i = v ∧ SlO T_impl_Tap rTap B b l c ts ∧ (ts.all fun t => t.ok len) = true ∧ Src h0 hh (B ++ L) g cb xs.length cc (K + 2 + 4 * l)) (fun y => y.2.2.2.2.2.toNat)
    ⟨0, v, _, _, [], _, rfl, v1, by omega, SlO.empty g1, rfl, S.mono (by omega)⟩ ?_
  rintro y hh ⟨l, i, b, c, ts, B, rfl, hi, hl, O, ht, S⟩
  have hlen := O.len
  refine brd (fun hc => ?_) fun hc => ?_
  · refine (l00Max_c _ _).go fun h3 x3 => as_i ?_
    rw [if_neg (by omega)]
    have S := S.grow x3
    refine (pick_c S C hb (by omega)).mono ?_
    rintro _ h4 ⟨w, rfl, w1, w2, w3, S⟩
    refine as_i ((l01Plain_c S C hb (by omega)).mono ?_)
    rintro _ h5 ⟨y, u, rfl, u1, u2, hy, S⟩
    refine as_f (siz rfl ?_)
    rw [wrap64 (n := 1 + w) (by omega) (by omega)]
    obtain ⟨p, st, hp, M⟩ := S
    refine push_own (Bn := []) (L := (g, T_spec_l00Src, ⟨[.slice cb xs.length cc, .int .i64 (p : Int), .int .u64 st]⟩) :: L) E_sl_impl_Tap O (M.cnt fun p => by simp only [cnt_app, cnt_cons, cnt_nil]; omega) (tap_ow hy) (by omega) (by omega) fun b' c' h' B' O' M' => as_l ?_
    refine ⟨⟨l + 1, i - 1, b', c', _, B', by rw [wrap64 (n := i - 1) (by omega) (by omega)], by omega, by omega, O', ?_, ⟨p, st, by omega, M'.cnt fun p => by simp only [cnt_app, cnt_cons, cnt_nil]; omega⟩⟩, by rw [wrap64 (n := i - 1) (by omega) (by omega)]; show (i - 1).toNat < i.toNat; omega⟩
    rw [List.all_append, ht]
    have e : inR (1 + w) 1 len = true := by simp only [inR, Bool.and_eq_true, decide_eq_true_eq]; omega
    show (true && ([(⟨1 + w, plainW u⟩ : GTap)].all fun t => t.ok len)) = true
    simp only [List.all_cons, List.all_nil, GTap.ok, e, plain_fin u1 u2]; rfl
  · have hi0 : i = 0 := by omega
    exact ⟨b, l, c, ts, B, rfl, O, by omega, ht, S.mono (by omega)⟩
/-- A room in a block, beside the machine. -/
def DR (h0 h : Heap) (L : List Blk) (g : Nat) (cb : Option Addr) (cl cc K r : Nat) (x : GRoom) : Prop := ∃ cs B, rRoom.ow B cs.toList x ∧ Src h0 h ((r, T_impl_Room, cs) :: (B ++ L)) g cb cl cc K
theorem DR.pt {r : Nat} {x : GRoom} (D : DR h0 h L g cb xs.length cc K r x) : ∃ (p : Nat) (st : Int), p ≤ K ∧ Pt rRoom h0 h ⟨r, 0, none⟩ ⟨r, T_impl_Room, [], []⟩ ((g, T_spec_l00Src, ⟨[.slice cb xs.length cc, .int .i64 (p : Int), .int .u64 st]⟩) :: L) x := by
  obtain ⟨cs, B, O, p, st, hp, M⟩ := D
  exact ⟨p, st, hp, Pt.new O (M.cnt fun p => by simp only [cnt_app, cnt_cons, cnt_nil]; omega)⟩
theorem DR.of {r p : Nat} {st : Int} {x : GRoom} (hp : p ≤ K) (P : Pt rRoom h0 h ⟨r, 0, none⟩ ⟨r, T_impl_Room, [], []⟩ ((g, T_spec_l00Src, ⟨[.slice cb xs.length cc, .int .i64 (p : Int), .int .u64 st]⟩) :: L) x) : DR h0 h L g cb xs.length cc K r x := by
  obtain ⟨cs, B, M, O⟩ := P.out
  exact ⟨cs, B, O, p, st, hp, M.cnt fun p => by simp only [cnt_app, cnt_cons, cnt_nil]; omega⟩
/-- What a drawn room is. -/
def DrawnR (h0 h' : Heap) (L : List Blk) (u : Value) : Prop := ∃ cs B x, u = .agg cs ∧ rRoom.ow B cs.toList x ∧ x.ok = true ∧ Mem h0 h' (B ++ L)
theorem dr8 {r t : Nat} {x : GRoom} (D : DR h0 h ((t, T_impl_Room, ⟨Z_impl_Room⟩) :: L) g cb xs.length cc K r x) (hx : x.ok = true) (C : Cells h0 cb (iv .u8 xs)) (hb : Byt' xs) (hK : K ≤ 1000) :
    spec_l06Drawn.J8 (fun u h' => DrawnR h0 h' L u) ⟨g, 0, none⟩ ⟨t, 0, none⟩ ⟨r, 0, none⟩ h := by
  unfold spec_l06Drawn.J8
  obtain ⟨cs, B, O, S⟩ := D
  refine (pick_c S C hb (by omega)).mono ?_
  rintro _ h2 ⟨v, rfl, v1, v2, v3, S⟩
  refine as_i ?_
  have hv : v < 10 := by omega
  refine loop (fun y hh => ∃ (i : Int) (x : GRoom), y = (⟨g, 0, none⟩, ⟨t, 0, none⟩, ⟨r, 0, none⟩, i) ∧ 0 ≤ i ∧ i ≤ v ∧ x.ok = true ∧ DR h0 hh ((t, T_impl_Room, ⟨Z_impl_Room⟩) :: L) g cb xs.length cc (K + 100 - 2 * i.toNat) r x) (fun y => y.2.2.2.toNat)
    ⟨v, x, rfl, v1, by omega, hx, cs, B, O, S.mono (by omega)⟩ ?_
  rintro y hh ⟨i, x, rfl, hi, hiv, hx, D⟩
  refine brd (fun hc => ?_) fun hc => ?_
  · obtain ⟨cs, B, O, S⟩ := D
    obtain ⟨c2, l4, d4, g4⟩ := room_all (rRoom.look O S.mem ((List.sublist_append_left _ _).trans (List.sublist_cons_self _ _)))
    refine (l01Plain_c S C hb (by omega)).mono ?_
    rintro _ h3 ⟨y, u, rfl, u1, u2, hy, S⟩
    obtain ⟨p, st, hp, P⟩ := DR.pt ⟨cs, B, O, S⟩
    refine as_f ((l06Step_c P (ok_runs hx c2 l4 d4 g4) hy).mono ?_)
    rintro _ h4 ⟨⟨z, rfl, hz⟩, P⟩
    exact as_f ⟨⟨i - 1, _, by rw [wrap64 (n := i - 1) (by omega) (by omega)], by omega, by omega, room_step_ok hx c2 l4 d4 _, DR.of (by omega) P⟩, by rw [wrap64 (n := i - 1) (by omega) (by omega)]; show (i - 1).toNat < i.toNat; omega⟩
  obtain ⟨cs, B, O, S⟩ := D
  have M := S.mem
  refine M.lda0 .here (osz O rfl) ?_
  have M := M.cnt (W := (t, T_impl_Room, ⟨Z_impl_Room⟩) :: (B ++ L)) (fun p => by simp only [cnt_app, cnt_cons, cnt_nil] at *; omega)
  exact M.sta0 .here (osz O rfl) (rRoom.oone O) rfl .here fun h3 M => M.lda0 .here (osz O rfl) ⟨_, B, x, rfl, O, hx, M.drop⟩
theorem tapped_ok {x : GRoom} {len : Int} {ts : List GTap} (hx : x.ok = true) (hi : inR len 1 1024 = true) (ht : (ts.all fun t => t.ok len) = true) (hl : ts.length ≤ 6) : ({ x with Early := silence len, Taps := ts } : GRoom).ok = true := by
  rw [room_ok] at hx ⊢
  simp only [Bool.and_eq_true] at hx ⊢
  obtain ⟨⟨⟨⟨⟨⟨⟨⟨h1, h2⟩, h3⟩, h4⟩, h5⟩, h6⟩, h7⟩, h8⟩, h9⟩ := hx
  have hle : (silence len).len = len := by
    simp only [inR, Bool.and_eq_true, decide_eq_true_eq] at hi
    show (((List.replicate len.toNat 0).length : Nat) : Int) = len
    rw [List.length_replicate]; omega
  exact ⟨⟨⟨⟨⟨⟨⟨⟨silence_okf hi, decide_eq_true hl⟩, h3⟩, h4⟩, h5⟩, by rw [hle]; exact ht⟩, h7⟩, h8⟩, h9⟩
theorem dr5 {r t : Nat} {x : GRoom} (D : DR h0 h ((t, T_impl_Room, ⟨Z_impl_Room⟩) :: L) g cb xs.length cc K r x) (hx : x.ok = true) (C : Cells h0 cb (iv .u8 xs)) (hb : Byt' xs) (hK : K ≤ 500) :
    spec_l06Drawn.J5 (fun u h' => DrawnR h0 h' L u) ⟨g, 0, none⟩ ⟨t, 0, none⟩ ⟨r, 0, none⟩ h := by
  unfold spec_l06Drawn.J5
  obtain ⟨cs, B, O, S⟩ := D
  refine (one_c S C hb (by omega)).mono ?_
  rintro _ h2 ⟨b, rfl, S⟩
  refine as_b (br (fun _ => ?_) fun _ => dr8 ⟨cs, B, O, S⟩ hx C hb (by omega))
  refine (pick_c S C hb (by omega)).mono ?_
  rintro _ h3 ⟨v, rfl, v1, v2, v3, S⟩
  have hv : v < 6 := by omega
  refine as_i (S.mem.lda0 .here (osz O rfl) ?_)
  rw [wrap64 (n := 1 + v) (by omega) (by omega)]
  have M3 := S.mem
  refine (l06Taps_c S C hb (by omega) (by omega) (by omega)).mono ?_
  rintro _ h4 ⟨bt, lt, ct, ts, BT, rfl, OT, lts, ht, S⟩
  have hin : inR (1 + v) 1 1024 = true := by simp only [inR, Bool.and_eq_true, decide_eq_true_eq]; omega
  have e := withTaps0 (x := x) (n := 1 + v) (ts := ts) hx (by omega) (by rw [hin, ht]; rfl)
  refine as_l (M3.pin2 .here S.mem (Look.skip .here) ?_)
  obtain ⟨p, st, hp, M⟩ := S
  refine PairR.go M (spec_WithTaps_c (rRoom.look O (M.cnt (W := B) (fun p => by simp only [cnt_app, cnt_cons, cnt_nil] at *; omega)) (List.Sublist.refl _)) (OT.look (M.cnt (W := BT) (fun p => by simp only [cnt_app, cnt_cons, cnt_nil] at *; omega)) (List.Sublist.refl _))) fun h5 c5 B5 M O5 s5 => tup2 (as_a (as_i ?_))
  rw [e] at O5
  have M := M.cnt (W := (r, T_impl_Room, cs) :: (B5 ++ ((g, T_spec_l00Src, ⟨[.slice cb xs.length cc, .int .i64 (p : Int), .int .u64 st]⟩) :: (t, T_impl_Room, ⟨Z_impl_Room⟩) :: L))) (fun p => by simp only [cnt_app, cnt_cons, cnt_nil] at *; omega)
  refine M.sta0 .here s5 (rRoom.oone O5) (osz O rfl) .here fun h6 M => ?_
  exact dr8 (cc := cc) ⟨c5, B5, O5, p, st, hp, M.cnt fun p => by simp only [cnt_app, cnt_cons, cnt_nil] at *; omega⟩ (tapped_ok hx hin ht (by omega)) C hb (by omega)
end
end Go.Sx
