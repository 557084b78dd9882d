/- Pipes that stay valid; pipes drawn. -/
import Derived.Test.YtkgmfiloghhibaaGreatDoorLk92
import Derived.Test.YtkgmfiloghhibaaGreatDoorLk59
import Derived.Test.YtkgmfiloghhibaaGreatDoorTab
import Derived.Test.YtkgmfiloghhibaaGreatDoorLk14
import Derived.Test.YtkgmfiloghhibaaGreatDoorLk16
import Derived.Test.YtkgmfiloghhibaaGreatDoorK2
import Derived.Test.YtkgmfiloghhibaaGreatDoorLk21
import Derived.Test.YtkgmfiloghhibaaGreatDoorLv0
import Derived.Test.YtkgmfiloghhibaaGreatDoorLf8
import Derived.Test.YtkgmfiloghhibaaGreatDoorLk56
set_option linter.unusedVariables false
set_option linter.unusedSimpArgs false
namespace Go.Sx
open Go.Proofs Ieee
set_option maxRecDepth 100000
set_option maxHeartbeats 2000000

theorem mem_ab {α : Type} [Inhabited α] {l : List α} {p : α → Bool} (h : l.all p = true) {i : Nat} (hi : i < l.length) : p l[i]! = true := by
  rw [getElem!_pos _ i hi]; exact List.all_eq_true.1 h _ (List.getElem_mem hi)
theorem push_len' {r : GRing} {a : Nat} (h : r.ok = true) : (r.push a).Samples.length = r.Samples.length := by
  have := (push_ok (a := a) h).2
  unfold GRing.len at this
  omega
theorem okf_ok {r : GRing} (h : r.okf = true) : r.ok = true := by unfold GRing.okf at h; rw [Bool.and_eq_true] at h; exact h.1
theorem all_map_range {α : Type} [Inhabited α] {p : α → Bool} {f : Nat → α} {n : Nat} (h : ∀ i, i < n → p (f i) = true) : ((List.range n).map f).all p = true := by
  rw [List.all_map, List.all_eq_true]
  intro i hi
  exact h i (List.mem_range.1 hi)
theorem pipe_step_ok {x : GPipe} {a : Nat} (h : x.ok = true) : (x.step a).1.ok = true := by
  have hh := h
  unfold GPipe.ok at h
  simp only [Bool.and_eq_true, decide_eq_true_eq] at h
  obtain ⟨⟨⟨⟨⟨⟨⟨⟨⟨⟨⟨hn, hl⟩, hs⟩, hr⟩, hlf⟩, hlen⟩, hsc⟩, he⟩, hk⟩, f1⟩, f2⟩, f3⟩ := h
  have hrr : ∀ i, i < x.n → x.Right[i]!.okf = true := fun i hi => mem_ab hr hi
  have hll : ∀ i, i < x.n → x.Left[i]!.okf = true := fun i hi => mem_ab hlf (by omega)
  have en : (x.step a).1.n = x.n := by unfold GPipe.step GPipe.n; simp
  have e1 : (x.step a).1.Right = (List.range x.n).map (x.rt a) := rfl
  have e2 : (x.step a).1.Left = (List.range x.n).map x.lf := rfl
  have ro : ∀ i, i < x.n → (x.rt a i).okf = true := fun i hi => push_okf (hrr i hi)
  have lo : ∀ i, i < x.n → (x.lf i).okf = true := fun i hi => push_okf (hll i hi)
  have ke := kind_step (f := x.End) (k := 1) (a := x.Right[x.n - 1]!.old) (by rw [Bool.and_eq_true]; exact ⟨he, hk⟩)
  rw [Bool.and_eq_true] at ke
  unfold GPipe.ok
  rw [en, e1, e2]
  simp only [Bool.and_eq_true, decide_eq_true_eq]
  refine ⟨⟨⟨⟨⟨⟨⟨⟨⟨⟨⟨hn, by simp⟩, hs⟩, all_map_range ro⟩, all_map_range lo⟩, ?_⟩, hsc⟩, ke.1⟩, ke.2⟩, f1⟩, f2⟩, f3⟩
  rw [List.all_eq_true] at hlen ⊢
  intro i hi
  have hi' := List.mem_range.1 hi
  have h0 := hlen i hi
  rw [beq_iff_eq] at h0 ⊢
  rw [getElem!_pos _ i (by simpa using hi'), getElem!_pos _ i (by simpa using hi'), List.getElem_map, List.getElem_map, List.getElem_range]
  show (x.Right[i]!.push _).Samples.length = (x.Left[i]!.push _).Samples.length
  rw [push_len' (okf_ok (hrr i hi')), push_len' (okf_ok (hll i hi')), h0]
theorem eighth_in1 {v : Int} (h0 : -8 ≤ v) (h1 : v < 9) : inside (keepW v) neg32 one32 = true := by
  have A : (List.range 17).all (fun v => inside (keepW ((v : Int) - 8)) neg32 one32) = true := by decide +kernel
  obtain ⟨n, hn⟩ := Int.eq_ofNat_of_zero_le (show 0 ≤ v + 8 by omega)
  have := List.all_eq_true.1 A n (List.mem_range.2 (by omega))
  rwa [show ((n : Nat) : Int) - 8 = v by omega] at this
theorem pole_ok {v : Int} (h0 : 0 ≤ v) (h1 : v < 8) : (onePole (keepW v)).ok = true := by
  have A : (List.range 8).all (fun v => (onePole (keepW (v : Int))).ok) = true := by decide +kernel
  obtain ⟨n, rfl⟩ := Int.eq_ofNat_of_zero_le h0
  exact List.all_eq_true.1 A n (List.mem_range.2 (by omega))
theorem pipeNs_ok {zs : List Int} {ks : List Nat} {op : Bool} {k l : Nat} (hz : ∀ z ∈ zs, 1 ≤ z ∧ z ≤ 1024) (h1 : 1 ≤ zs.length) (h3 : zs.length ≤ 3) (hs : ks.length + 1 = zs.length) (hks : ∀ a ∈ ks, inside a neg32 one32 = true) (hp : (onePole k).ok = true) (fl : fin l = true) : (pipeNs zs ks op k l).ok = true := by
  have q : ∀ z ∈ zs, (quietR z).okf = true := fun z hz' => ring_okf (hz z hz').1 (hz z hz').2
  unfold GPipe.ok
  have en : (pipeNs zs ks op k l).n = zs.length := by unfold GPipe.n pipeNs; simp
  rw [en]
  simp only [Bool.and_eq_true, decide_eq_true_eq, pipeNs]
  refine ⟨⟨⟨⟨⟨⟨⟨⟨⟨⟨⟨by simp only [inR, Bool.and_eq_true, decide_eq_true_eq]; omega, by simp⟩, decide_eq_true hs⟩, ?_⟩, ?_⟩, ?_⟩, List.all_eq_true.2 hks⟩, hp⟩, rfl⟩, fl⟩, by decide +kernel⟩, by decide +kernel⟩
  · rw [List.all_map, List.all_eq_true]; exact q
  · rw [List.all_map, List.all_eq_true]; exact q
  · rw [List.all_eq_true]; intro i _; simp
theorem pipe_reed_ok {x : GPipe} {r q : Nat} (h : x.ok = true) (fr : fin r = true) (fq : fin q = true) : ({ x with Rest := r, Slope := q } : GPipe).ok = true := by
  unfold GPipe.ok GPipe.n at *
  simp only [Bool.and_eq_true] at *
  exact ⟨⟨⟨h.1.1.1, h.1.1.2⟩, fr⟩, fq⟩
section
variable {h0 h : Heap} {L : List Blk} {g : Nat} {cb : Option Addr} {cc K : Nat} {xs : List Int}
theorem l04Drawn_c (S : Src h0 h L g cb xs.length cc 0) (C : Cells h0 cb (iv .u8 xs)) (hb : Byt' xs) : CALL prg f_spec_l04Drawn #[.pointer (some ⟨g, 0, none⟩)] (fun u h' => Drawn rPipe GPipe.ok h0 h' L u) h := by
  have hmx : (1048577 : Nat) ≤ maxLen := by decide
  refine spec_l04Drawn.call (S.alc fun t h1 S => S.alc fun g3 h2 S => S.alc fun g5 h3 S => (pick_c S C hb (by omega)).mono ?_)
  rintro _ h4 ⟨v, rfl, v1, v2, v3, S⟩
  refine as_i ?_
  rw [wrap64 (n := 1 + v) (by omega) (by omega)]
  refine loop (fun y hh => ∃ (j : Int) (b1 : Option Addr) (l1 c1 : Nat) (B1 : List Blk) (zs : List Int) (b2 : Option Addr) (l2 c2 : Nat) (B2 : List Blk) (ks : List Nat), y = (⟨g, 0, none⟩, ⟨t, 0, none⟩, b1, l1, c1, b2, l2, c2, j) ∧ 0 ≤ j ∧ (l1 : Int) + j = 1 + v ∧ SlO T_int64 (rI .i64) B1 b1 l1 c1 zs ∧ SlO T_float32 (rF .f32) B2 b2 l2 c2 ks ∧
      (l2 + 1 = l1 ∨ l1 = 0 ∧ l2 = 0) ∧ (∀ z ∈ zs, 1 ≤ z ∧ z ≤ 1024) ∧ (∀ a ∈ ks, inside a neg32 one32 = true) ∧ Src h0 hh (B1 ++ (B2 ++ ((t, T_impl_Pipe, ⟨Z_impl_Pipe⟩) :: L))) g cb xs.length cc (2 + 4 * l1)) (fun y => y.2.2.2.2.2.2.2.2.toNat)
    ⟨1 + v, _, _, _, [(g3, T_int64, ⟨[]⟩)], [], _, _, _, [(g5, T_float32, ⟨[]⟩)], [], rfl, by omega, by omega, SlO.empty g3, SlO.empty g5, .inr ⟨rfl, rfl⟩, by simp, by simp, S.cnt fun p => by simp only [cnt_app, cnt_cons, cnt_nil]; omega⟩ ?_
  rintro y hh ⟨j, b1, l1, c1, B1, zs, b2, l2, c2, B2, ks, rfl, hj, hlj, O1, O2, hsl, hz, hks, S⟩
  refine brd (fun hc => ?_) fun hc => ?_
  · refine (pick_c S C hb (by omega)).mono ?_
    rintro _ h5 ⟨w, rfl, w1, w2, w3, p, st, hp, M⟩
    refine as_i ?_
    rw [wrap64 (n := 1 + w) (by omega) (by omega)]
    refine push_own (Bn := []) (L := (g, T_spec_l00Src, ⟨[.slice cb xs.length cc, .int .i64 (p : Int), .int .u64 st]⟩) :: (B2 ++ ((t, T_impl_Pipe, ⟨Z_impl_Pipe⟩) :: L))) (x := 1 + w) E_sl_int64 O1 (M.cnt fun p => by simp only [cnt_app, cnt_cons, cnt_nil]; omega) ⟨rfl, rfl⟩ (by omega) (by omega) fun b1' c1' h6 B1' O1' M => as_l ?_
    have hz' : ∀ z ∈ zs ++ [1 + w], 1 ≤ z ∧ z ≤ 1024 := fun z hz' => by
      rcases List.mem_append.1 hz' with k | k
      · exact hz z k
      · rw [List.mem_singleton] at k; omega
    refine brd (fun hc2 => ?_) fun hc2 => ?_
    · have S : Src h0 h6 (B1' ++ (B2 ++ ((t, T_impl_Pipe, ⟨Z_impl_Pipe⟩) :: L))) g cb xs.length cc (2 + 4 * l1 + 2) := ⟨p, st, hp, M.cnt fun p => by simp only [cnt_app, cnt_cons, cnt_nil]; omega⟩
      refine (pick_c S C hb (by omega)).mono ?_
      rintro _ h7 ⟨q, rfl, q1, q2, q3, p, st, hp, M⟩
      refine as_i ?_
      rw [wrap64 (n := q - 8) (by omega) (by omega)]
      refine fD (fw_nearest .f32 (q - 8)) (fw_c32 (by decide) (by decide)) fun r kr => ?_
      have kr : FW .f32 r (keepW (q - 8)) := kr
      refine push_own (Bn := []) (L := (g, T_spec_l00Src, ⟨[.slice cb xs.length cc, .int .i64 (p : Int), .int .u64 st]⟩) :: (B1' ++ ((t, T_impl_Pipe, ⟨Z_impl_Pipe⟩) :: L))) (x := keepW (q - 8)) E_sl_float32 O2 (M.cnt fun p => by simp only [cnt_app, cnt_cons, cnt_nil]; omega) ⟨rfl, _, rfl, kr⟩ (by omega) (by omega) fun b2' c2' h8 B2' O2' M => as_l ?_
      refine ⟨⟨j - 1, b1', l1 + 1, c1', B1', _, b2', l2 + 1, c2', B2', _, by rw [wrap64 (n := j - 1) (by omega) (by omega)], by omega, by omega, O1', O2', by omega, hz', fun a ha => ?_, p, st, by omega, M.cnt fun p => by simp only [cnt_app, cnt_cons, cnt_nil]; omega⟩, by rw [wrap64 (n := j - 1) (by omega) (by omega)]; show (j - 1).toNat < j.toNat; omega⟩
      rcases List.mem_append.1 ha with k | k
      · exact hks a k
      · rw [List.mem_singleton] at k; rw [k]; exact eighth_in1 (by omega) (by omega)
    · exact ⟨⟨j - 1, b1', l1 + 1, c1', B1', _, b2, l2, c2, B2, ks, by rw [wrap64 (n := j - 1) (by omega) (by omega)], by omega, by omega, O1', O2, by omega, hz', hks, p, st, by omega, M.cnt fun p => by simp only [cnt_app, cnt_cons, cnt_nil]; omega⟩, by rw [wrap64 (n := j - 1) (by omega) (by omega)]; show (j - 1).toNat < j.toNat; omega⟩
  have hl1 : 1 ≤ l1 := by omega
  have hl3 : l1 ≤ 3 := by omega
  refine (one_c S C hb (by omega)).mono ?_
  rintro _ h5 ⟨op, rfl, S⟩
  refine as_b ((pick_c S C hb (by omega)).mono ?_)
  rintro _ h6 ⟨k, rfl, k1, k2, k3, S⟩
  refine as_i (fD (fw_nearest .f32 k) (fw_c32 (by decide) (by decide)) fun r6 q6 => (pick_c S C hb (by omega)).mono ?_)
  rintro _ h7 ⟨ls, rfl, ls1, ls2, ls3, S⟩
  refine as_i (fD (fw_nearest .f32 ls) (fw_c32 (by decide) (by decide)) fun r7 q7 => ?_)
  have q6 : FW .f32 r6 (keepW k) := q6
  have q7 : FW .f32 r7 (lossW ls) := q7
  have li := loss_in ls1 (show ls < 17 by omega)
  rw [Bool.and_eq_true] at li
  have e1 := O1.len
  have e2 := O2.len
  have hok : (pipeNs zs ks op (keepW k) (lossW ls)).ok = true := pipeNs_ok hz (by omega) (by omega) (by omega) hks (pole_ok k1 (by omega)) li.2
  refine (newPipes_c (O1.look S.mem (List.sublist_append_left _ _)) (O2.look S.mem ((List.sublist_append_left _ _).trans (List.sublist_append_right _ _))) hz hl1 hl3 (by omega) hks q6 q7 (keep_place k1 (by omega)) li.1).mono ?_
  rintro _ h8 ⟨cs, B, rfl, O, N⟩
  have S : Src h0 h8 (B ++ ((t, T_impl_Pipe, ⟨Z_impl_Pipe⟩) :: L)) g cb xs.length cc 100 := ((S.joinG N).cnt fun p => by simp only [cnt_app, cnt_cons, cnt_nil]; omega).mono (by omega)
  refine tup2 (as_a (as_i (S.alc fun r h9 S => S.sta (osz O rfl) (rPipe.oone O) rfl fun h10 S => (one_c S C hb (by omega)).mono ?_)))
  rintro _ h11 ⟨bb, rfl, S⟩
  have j15 : ∀ {hh : Heap} {x : GPipe} {cs : Array Value} {B : List Blk}, rPipe.ow B cs.toList x → x.ok = true → Src h0 hh ((r, T_impl_Pipe, cs) :: (B ++ ((t, T_impl_Pipe, ⟨Z_impl_Pipe⟩) :: L))) g cb xs.length cc 120 → spec_l04Drawn.J15 (fun u h' => Drawn rPipe GPipe.ok h0 h' L u) ⟨g, 0, none⟩ ⟨t, 0, none⟩ ⟨r, 0, none⟩ hh := fun {hh x cs B} O hx S => by
    unfold spec_l04Drawn.J15
    refine (pick_c S C hb (by omega)).mono ?_
    rintro _ h12 ⟨i, rfl, i1, i2, i3, S⟩
    refine as_i ?_
    refine loop (fun y hh => ∃ (k : Int) (x : GPipe), y = (⟨g, 0, none⟩, ⟨t, 0, none⟩, ⟨r, 0, none⟩, k) ∧ 0 ≤ k ∧ k ≤ i ∧ x.ok = true ∧ DG rPipe T_impl_Pipe h0 hh ((t, T_impl_Pipe, ⟨Z_impl_Pipe⟩) :: L) g cb xs.length cc (200 - 2 * k.toNat) r x) (fun y => y.2.2.2.toNat)
      ⟨i, x, rfl, i1, by omega, hx, cs, B, O, S.mono (by omega)⟩ ?_
    rintro y hh ⟨k, x, rfl, hk, hkj, hx, D⟩
    refine brd (fun hc => ?_) fun hc => ?_
    · obtain ⟨cs, B, O, S⟩ := D
      refine (l01Plain_c S C hb (by omega)).mono ?_
      rintro _ h3 ⟨y, u, rfl, u1, u2, hy, S⟩
      obtain ⟨p, st, hp, P⟩ := DG.pt ⟨cs, B, O, S⟩
      refine as_f ((l04Step_c P (pipe_runs hx) hy).mono ?_)
      rintro _ h4 ⟨⟨z, rfl, hz⟩, P⟩
      exact as_f ⟨⟨k - 1, _, by rw [wrap64 (n := k - 1) (by omega) (by omega)], by omega, by omega, pipe_step_ok hx, DG.of (by omega) P⟩, by rw [wrap64 (n := k - 1) (by omega) (by omega)]; show (k - 1).toNat < k.toNat; omega⟩
    obtain ⟨cs, B, O, S⟩ := D
    have M := S.mem
    refine M.lda0 .here (osz O rfl) ?_
    have M := M.cnt (W := (t, T_impl_Pipe, ⟨Z_impl_Pipe⟩) :: (B ++ L)) (fun p => by simp only [cnt_app, cnt_cons, cnt_nil] at *; omega)
    exact M.sta0 .here (osz O rfl) (rPipe.oone O) rfl .here fun h3 M => M.lda0 .here (osz O rfl) ⟨_, B, x, rfl, O, hx, M.drop⟩
  refine as_b (br (fun _ => ?_) fun _ => j15 O hok (S.mono (by omega)))
  refine (l01Plain_c S C hb (by omega)).mono ?_
  rintro _ h12 ⟨y, u, rfl, u1, u2, hy, S⟩
  obtain ⟨p, st, hp, P⟩ := DG.pt (rp := rPipe) (T := T_impl_Pipe) (x := pipeNs zs ks op (keepW k) (lossW ls)) ⟨_, _, O, S⟩
  refine as_f ?_
  show ST1 h12 ((⟨r, 0, none⟩ : Addr).add 11) (.float .f32 y) _
  refine Pt.stF (off := 11) P hy fun h13 P => ?_
  obtain ⟨cs2, B2', O2', S2⟩ := DG.of hp P
  refine (l01Plain_c S2 C hb (by omega)).mono ?_
  rintro _ h14 ⟨y2, u2', rfl, u3, u4, hy2, S2⟩
  obtain ⟨p, st, hp, P⟩ := DG.pt (rp := rPipe) (T := T_impl_Pipe) ⟨cs2, B2', O2', S2⟩
  refine as_f ?_
  show ST1 h14 ((⟨r, 0, none⟩ : Addr).add 12) (.float .f32 y2) _
  refine Pt.stF (off := 12) P hy2 fun h15 P => ?_
  obtain ⟨cs3, B3', O3', S3⟩ := DG.of hp P
  have e : ({ pipeNs zs ks op (keepW k) (lossW ls) with Rest := plainW u, Slope := plainW u2' } : GPipe).ok = true := pipe_reed_ok hok (plain_fin u1 u2) (plain_fin u3 u4)
  exact j15 O3' e (S3.mono (by omega))
theorem P6Pipe_c (M : Mem h0 h L) (C : Cells h0 cb (iv .u8 xs)) (hb : Byt' xs) : CALL prg f_spec_P6Pipe #[.slice cb xs.length cc] (fun u h' => Drawn rPipe GPipe.ok h0 h' L u) h := by
  refine spec_P6Pipe.call (M.alc fun g1 h1 x1 M => (l00From_c M).mono ?_)
  rintro _ h2 ⟨g, rfl, S⟩
  refine as_p ((l04Drawn_c S C hb).mono ?_)
  rintro _ h3 ⟨cs, B, x, rfl, O, hx, M⟩
  have M := M.cnt (W := (g1, T_impl_Pipe, ⟨Z_impl_Pipe⟩) :: (B ++ L)) (fun p => by simp only [cnt_app, cnt_cons, cnt_nil] at *; omega)
  exact as_a (M.sta0 .here (osz O rfl) (rPipe.oone O) rfl .here fun h4 M => M.lda0 .here (osz O rfl) ⟨cs, B, x, rfl, O, hx, M.drop⟩)
end
end Go.Sx
/- Drawn rooms; rooms that are silent; rooms that are the same. -/
set_option linter.unusedVariables false
set_option linter.unusedSimpArgs false
namespace Go.Sx
open Go.Proofs
set_option maxRecDepth 100000
set_option maxHeartbeats 1000000

section
variable {h0 h h' : Heap} {L W : List Blk} {g : Nat} {cb : Option Addr} {cc K : Nat} {xs : List Int} {n : Int}
theorem Src.join {hh : Heap} {B : List Blk} (S : Src h0 h L g cb xs.length cc K) (N : Mem h hh B) : Src h0 hh (B ++ L) g cb xs.length cc K := by
  obtain ⟨p, st, hp, M⟩ := S
  exact ⟨p, st, hp, (M.join N).cnt fun p => by simp only [cnt_app, cnt_cons, cnt_nil]; omega⟩
theorem RoomOk.go {P : Program} {f : FuncId} {args : Array Value} {hh : Heap} {Q : Value → Heap → Prop} (c : CALL P f args (fun u h' => RoomOk hh h' u) hh) (H : ∀ h' cs B x, rRoom.ow B cs.toList x → x.ok = true → Mem hh h' B → Q (.tuple ⟨[.agg cs, .int .i64 (0 : Int)]⟩) h') : CALL P f args Q hh :=
  c.mono fun u h' ⟨cs, B, x, e, O, hx, N⟩ => by subst e; exact H h' cs B x O hx N
end
end Go.Sx
/- PlayRoom: the rule, the program, and the law. -/
set_option linter.unusedVariables false
set_option linter.unusedSimpArgs false
namespace Go.Sx
open Go.Proofs
set_option maxRecDepth 100000
set_option maxHeartbeats 1000000

/-- A room, a slice of floats and a code, told by a call. -/
def TriL (h h' : Heap) (u : Value) (x : GRoom) (ys : List Nat) (code : Int) : Prop := ∃ cs B b l c C, u = .tuple ⟨[.agg cs, .slice b l c, .int .i64 code]⟩ ∧ rRoom.ow B cs.toList x ∧ SlO T_float32 (rF .f32) C b l c ys ∧ Mem h h' (B ++ C)
theorem TriL.go {P : Program} {f : FuncId} {args : Array Value} {x : GRoom} {ys : List Nat} {code : Int} {hb h : Heap} {L : List Blk} {K : Value → Heap → Prop} (M : Mem hb h L) (k : CALL P f args (fun u h' => TriL h h' u x ys code) h)
    (H : ∀ h' cs B b l c C, Mem hb h' ((B ++ C) ++ L) → rRoom.ow B cs.toList x → cs.size = rRoom.sz → SlO T_float32 (rF .f32) C b l c ys → K (.tuple ⟨[.agg cs, .slice b l c, .int .i64 code]⟩) h') : CALL P f args K h :=
  k.mono fun u h' ⟨cs, B, b, l, c, C, e, O, S, N⟩ => by subst e; exact H h' cs B b l c C (M.join N) O (by simpa using rRoom.olen O) S
end Go.Sx
/- Sums of squares: never less than nought, and nought added changes nothing. -/
set_option linter.unusedVariables false
set_option linter.unusedSimpArgs false
namespace Go.Sx
open Go.Proofs Ieee
set_option maxRecDepth 100000
set_option maxHeartbeats 1000000

/-- A float64 that has no sign and is not a NaN. -/
def Nng (a : Nat) : Prop := a ≤ 2047 * 2 ^ 52
theorem Nng.lt {a : Nat} (h : Nng a) : a < 2 ^ 63 := by unfold Nng at h; omega
theorem Nng.rd {a : Nat} (h : Nng a) : (∃ m e, FloatKind.f64.format.read a = .number false m e ∧ -1074 ≤ e) ∨ FloatKind.f64.format.read a = .infinity false ∧ a = 2047 * 2 ^ 52 := by
  obtain ⟨e1, e2, e3, e4⟩ := f64_consts
  have e5 : FloatKind.f64.format.signWeight = 2 ^ 63 := rfl
  have hl := h.lt
  have hd : a / 2 ^ 63 = 0 := Nat.div_eq_of_lt hl
  unfold Nng at h
  have hm : a % 2 ^ 63 = a := Nat.mod_eq_of_lt hl
  unfold Format.read
  dsimp only
  rw [e5, e3, e4, e2, hd, hm]
  by_cases h1 : a < 2 ^ 52
  · rw [if_pos h1]; exact .inl ⟨_, _, rfl, by omega⟩
  · rw [if_neg h1]
    by_cases h2 : a < 2047 * 2 ^ 52
    · rw [if_pos h2]; exact .inl ⟨_, _, rfl, by omega⟩
    · rw [if_neg h2, if_pos (show a = 2047 * 2 ^ 52 by omega)]; exact .inr ⟨rfl, by omega⟩
theorem Nng.num {a : Nat} (h : Nng a) : nan .f64 a = false := by
  rw [nan64]
  unfold Nng at h
  rw [decide_eq_false_iff_not]
  have := Nat.mod_le a 9223372036854775808
  omega
theorem Nng.cn {a : Nat} (h : Nng a) : cn .f64 a = a := by
  have h1 := h.num
  unfold Sx.cn
  rw [h1]; rfl
end Go.Sx
