/- Rings copied and moved on; filters: what the functions compute. -/
import Derived.Test.YtjoajnmhdobbfaaLk1
import Derived.Test.YtjoajnmhdobbfaaLp6
set_option linter.unusedVariables false
set_option linter.unusedSimpArgs false
namespace Go.Sx
open Go.Proofs
set_option maxRecDepth 100000

theorem Clone_f32_c {h : Heap} {b : Option Addr} {l c : Nat} {xs : List Nat} (S : SlR (rF .f32) h b l c xs) (hl : l ≤ 1048576) :
    CALL prg f_slices_Clone_sl_float32_float32 #[.slice b l c] (fun u h' => ∃ b' c' B, u = .slice b' l c' ∧ SlO T_float32 (rF .f32) B b' l c' xs ∧ Mem h h' B) h := by
  refine slices_Clone_sl_float32_float32.call (cmp_nil U_sl_float32 (br (fun hb => ?_) fun hb => ?_))
  · obtain rfl : b = none := by simpa using hb
    obtain ⟨h1, h2, h3, ws, C, R⟩ := S
    have hw : ws = [] := by
      cases ws with
      | nil => rfl
      | cons w ws => obtain ⟨a, e, _⟩ := C 0 (by simp); cases e
    subst hw
    have hx := R.len
    have : l = 0 := by rw [← h1]; have e : (rF .f32).sz = 1 := rfl; rw [e] at hx; simpa using hx.symm
    subst this
    obtain rfl : xs = [] := List.eq_nil_of_length_eq_zero h1
    exact ⟨none, 0, [], rfl, SlO.nil, Mem.start h⟩
  · refine (Mem.start h).alc fun g h1 x1 M => ?_
    refine append_copy E_sl_float32 (by decide) (flat_F _) (S.ext x1) M (by omega) fun b' c' h' B' O' M' => as_l ⟨b', c', B', rfl, O', by simpa using M'⟩
theorem ow_ring {b : Option Addr} {l c : Nat} {B : List Blk} {r : GRing} (O : SlO T_float32 (rF .f32) B b l c r.Samples) : rRing.ow B [.slice b l c, .int .i64 r.At] r :=
  ⟨B, [], [.slice b l c], [.int .i64 r.At], by simp, rfl, ⟨b, l, c, rfl, O⟩, rfl, rfl⟩
theorem l02Copy_c {h : Heap} {q : Addr} {r : GRing} (R : RdP rRing h q r) (hl : r.Samples.length ≤ 1048576) : CALL prg f_spec_l02Copy #[.pointer (some q)] (fun u h' => NewR rRing h h' u r) h := by
  refine spec_l02Copy.call ((Mem.start h).alc fun g h1 x1 M => ?_)
  have R1 := R.ext x1
  refine R1.oL1 fun b l c S => R1.oI ?_
  have hls := S.len
  refine (Mem.start h1).alc fun g2 h2 x2 N => ?_
  refine (R1.foc foc_Ring_At).pin rfl x2 ((R1.fst foc_Ring_Samples).pin rfl x2 ?_)
  refine append_copy E_sl_float32 (by decide) (flat_F _) (S.ext x2) N (by omega) fun b' c' h3 B' O N => as_l ?_
  refine (R1.foc foc_Ring_At).pin rfl N.ext ?_
  have M := (M.join N).perm List.perm_append_comm
  rw [List.append_nil] at M
  refine M.sta0 .here rfl (all_one rfl) rfl .here fun h4 M => M.lda0 .here rfl ?_
  exact ⟨_, B', rfl, ow_ring O, M.sub (List.sublist_cons_self _ _)⟩
theorem Ring_clone_c {h : Heap} {cs : Array Value} {r : GRing} (R : rRing.rd h cs.toList r) (hl : r.Samples.length ≤ 1048576) : CALL prg f_impl_Ring_clone #[.agg cs] (fun u h' => NewR rRing h h' u r) h := by
  refine impl_Ring_clone.call ((Mem.start h).alc fun g h1 x1 M => M.alc fun g2 h2 x2 M => ?_)
  have R1 : RdP rRing h2 ⟨g, 0, none⟩ r := M.rdp (.there .here) (rRing.ext M.ext R)
  refine R1.oL2 fun b l c S => R1.oI2 ?_
  have hls := S.len
  refine (Clone_f32_c S (by omega)).mono ?_
  rintro _ h3 ⟨b', c', B', rfl, O, N⟩
  refine as_l ?_
  refine (R1.foc0 foc_Ring_At).pin rfl N.ext ?_
  have M := (M.join N).perm List.perm_append_comm
  refine M.sta0 .here rfl (all_one rfl) rfl .here fun h4 M => M.lda0 .here rfl ?_
  exact ⟨_, B', rfl, ow_ring O, M.sub ((List.sublist_cons_self _ _).trans (List.sublist_cons_self _ _))⟩
theorem at_lt {r : GRing} (h : r.ok = true) : 0 ≤ r.At ∧ r.At.toNat < r.Samples.length ∧ 1 ≤ r.Samples.length ∧ r.Samples.length ≤ 1024 ∧ r.At < r.Samples.length := by
  unfold GRing.ok inR GRing.len at h
  simp only [Bool.and_eq_true, decide_eq_true_eq] at h
  obtain ⟨⟨h1, h2⟩, h3, h4⟩ := h
  refine ⟨h3, ?_, ?_, ?_, ?_⟩ <;> omega
theorem tmod_push {r : GRing} (h : r.ok = true) {l : Nat} (hl : r.Samples.length = l) : Int.tmod (IntKind.i64.wrap (r.At + 1)) (l : Int) = (r.At + 1) % r.len := by
  have := at_lt h
  rw [wrap64 (by omega) (by omega), GRing.len, hl, Int.tmod_eq_emod_of_nonneg (by omega)]
theorem l02Push_c {h0 h : Heap} {q : Addr} {F : Fr} {L : List Blk} {r : GRing} {x a : Nat} (P : Pt rRing h0 h q F L r) (hr : r.ok = true) (hx : FW .f32 x a) :
    CALL prg f_spec_l02Push #[.pointer (some q), .float .f32 x] (fun u h' => (∃ y, u = .float .f32 y ∧ FW .f32 y r.old) ∧ Pt rRing h0 h' q F L (r.push a)) h := by
  obtain ⟨b, l, c, hb, S⟩ := P.hdr1
  obtain ⟨k1, k2, k3, k4, k5⟩ := at_lt hr
  have hl := S.len
  refine spec_l02Push.call (o_l hb (P.rd.oI (S.idx (by decide) k1 (by omega) fun p Rp => Rp.oF1 fun y hy => o_l hb (P.rd.oI ?_))))
  obtain ⟨a0, F', L', rfl, P', hs, close⟩ := P.elem1 hb (i := r.At.toNat) (by omega)
  refine idxs k1 (by omega) (P'.stF1 hx fun h1 P1 => ?_)
  obtain ⟨P2, hb2⟩ := close _ _ _ P1
  refine P2.rd.oI (o_l hb2 (nz (by omega) (P2.stI fun h2 P3 => ⟨⟨y, rfl, hy⟩, ?_⟩)))
  rw [tmod_push hr hl] at P3
  exact P3
theorem Ring_push_c {h0 h : Heap} {q : Addr} {F : Fr} {L : List Blk} {r : GRing} {x a : Nat} (P : Pt rRing h0 h q F L r) (hr : r.ok = true) (hx : FW .f32 x a) :
    CALL prg f_p_impl_Ring_push #[.pointer (some q), .float .f32 x] (fun u h' => (∃ y, u = .float .f32 y ∧ FW .f32 y r.old) ∧ Pt rRing h0 h' q F L (r.push a)) h := by
  obtain ⟨b, l, c, hb, S⟩ := P.hdr1
  obtain ⟨k1, k2, k3, k4, k5⟩ := at_lt hr
  have hl := S.len
  refine p_impl_Ring_push.call (o_l hb (P.rd.oI (S.idx (by decide) k1 (by omega) fun p Rp => Rp.oF1 fun y hy => o_l hb (P.rd.oI ?_))))
  obtain ⟨a0, F', L', rfl, P', hs, close⟩ := P.elem1 hb (i := r.At.toNat) (by omega)
  refine idxs k1 (by omega) (P'.stF1 hx fun h1 P1 => ?_)
  obtain ⟨P2, hb2⟩ := close _ _ _ P1
  refine P2.rd.oI (o_l hb2 ((length_f32_c _ _ _).go fun h2 x2 => as_i ((P2.rd.foc foc_Ring_At).pin rfl x2 (nz (by omega) ((P2.grow x2).stI fun h2 P3 => ⟨⟨y, rfl, hy⟩, ?_⟩)))))
  rw [tmod_push hr hl] at P3
  exact P3
theorem oldest_c {h : Heap} {cs : Array Value} {r : GRing} (R : rRing.rd h cs.toList r) (hr : r.ok = true) : CALL prg f_impl_Ring_oldest #[.agg cs] (fun u h' => (∃ y, u = .float .f32 y ∧ FW .f32 y r.old) ∧ Ext h h') h := by
  obtain ⟨k1, k2, k3, k4, k5⟩ := at_lt hr
  refine impl_Ring_oldest.call (alcR R fun g h1 x1 R1 => R1.oL2 fun b l c S => R1.oI2 ?_)
  have hl := S.len
  exact S.idx (by decide) k1 (by omega) fun p Rp => Rp.oF1 fun y hy => ⟨⟨y, rfl, hy⟩, x1⟩
end Go.Sx
