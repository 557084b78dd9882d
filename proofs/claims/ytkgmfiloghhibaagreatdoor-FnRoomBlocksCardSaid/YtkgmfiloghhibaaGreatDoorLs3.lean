/- A room's step, as the program makes it. -/
import Derived.Test.YtkgmfiloghhibaaGreatDoorLs2
import Derived.Test.YtkgmfiloghhibaaGreatDoorLk8
import Derived.Test.YtkgmfiloghhibaaGreatDoorTab
set_option linter.unusedVariables false
set_option linter.unusedSimpArgs false
namespace Go.Sx
open Go.Proofs
set_option maxRecDepth 100000
set_option maxHeartbeats 1000000

section
variable {h0 h : Heap} {q : Addr} {F : Fr} {L : List Blk} {x : GRoom} {w a : Nat}
theorem foc_dmp (i : Nat) (hi : i < 4) : Foc rRoom rFilter (17 + i * 6) (fun a => a.Damps[i]!) (fun a b => { a with Damps := a.Damps.set i b }) := (foc_Room_Damps.trans (Foc.arr rFilter i hi)).at rfl
theorem RStep.of {y : Nat} (R : x.Runs) (hy : FW .f32 y (x.sv a)) (P : Pt rRoom h0 h q F L (x.s3 a 4)) : RStep h0 h q F L x a (.float .f32 y) := by
  unfold RStep
  rw [step_eq R]
  exact ⟨⟨y, rfl, hy⟩, P⟩
/-- The last sum, in whatever order. -/
theorem early_c (P : Pt rRoom h0 h q F L x) (R : x.Runs) : CALL prg f_p_impl_Room_early #[.pointer (some q)] (fun u h' => (∃ y, u = .float .f32 y ∧ FW .f32 y x.early) ∧ Ext h h') h := by
  refine p_impl_Room_early.call (P.rd.oL fun b l c S => ?_)
  have hl := S.len
  have k1 := S.2.1
  have k2 := S.2.2.1
  have k3 := maxLen_lt
  have R0 := P.rd
  refine loop (fun y hh => ∃ (n m : Nat), y = (q, m, b, l, c, (l : Int), (n : Int)) ∧ n ≤ l ∧ FW .f32 m (x.earlyL (x.Taps.take n)) ∧ Ext h hh) (fun y => (l - y.2.2.2.2.2.2).toNat) ⟨0, 0, rfl, by omega, fw0, Ext.refl _⟩ ?_
  rintro y hh ⟨n, m, rfl, hn, hm, X⟩
  refine brd (fun hc => ?_) fun hc => ?_
  · refine (S.ext X).idx tap_sz (by omega) (by omega) fun p Rp => Rp.lda1 rfl fun cs Rc => (Mem.start hh).alc fun g h1 x1 M => M.sta0 .here (rsz Rc rfl) (rTap.rone Rc) rfl .here fun h2 M => ?_
    have Rt : RdP rTap h2 ⟨g, 0, none⟩ x.Taps[n]! := M.rdp .here (rTap.ext M.ext Rc)
    have X2 := X.trans M.ext
    refine Rt.oF2 fun z hz => ((R0.ext X2).fst foc_Room_Early).lda1 rfl fun ce Re => Rt.oI2 ?_
    refine (Ring_back_c Re R.e (R.t _ (mem_get (by omega)))).mono ?_
    rintro _ h3 ⟨⟨y, rfl, hy⟩, x3⟩
    refine as_f (Rt.pin2 (by decide) x3 (fM hz hy fun r hr => br (fun hb => ?_) fun hb => ?_))
    · have e : n = 0 := by simpa using hb
      refine ⟨⟨n + 1, r, by rw [wrap64_succ (by omega)], by omega, ?_, X2.trans x3⟩, by rw [wrap64_succ (by omega)]; show _ < _; simp; omega⟩
      rw [early_step (by omega), if_pos e]; exact hr
    · have e : n ≠ 0 := by simpa using hb
      refine fA hm hr fun r2 hr2 => ⟨⟨n + 1, r2, by rw [wrap64_succ (by omega)], by omega, ?_, X2.trans x3⟩, by rw [wrap64_succ (by omega)]; show _ < _; simp; omega⟩
      rw [early_step (by omega), if_neg e]; exact hr2
  · obtain rfl : n = l := by omega
    rw [← hl, List.take_length, ← early_eq] at hm
    exact ⟨⟨m, rfl, hm⟩, X⟩
theorem Room_step_c (P : Pt rRoom h0 h q F L x) (R : x.Runs) (hx : FW .f32 w a) : CALL prg f_p_impl_Room_step #[.pointer (some q), .float .f32 w] (fun u h' => RStep h0 h' q F L x a u) h := by
  refine p_impl_Room_step.call ((early_c P R).mono ?_)
  rintro _ h1 ⟨⟨m, rfl, hm⟩, x1⟩
  refine as_f ((kept_c hx).go fun h2 k x2 hk => as_f ?_)
  have P := P.grow (x1.trans x2)
  obtain ⟨F', L', P', hs, close⟩ := P.foc foc_Room_Early
  rw [add0] at P' close
  refine (Ring_push_c P' R.e hk).mono ?_
  rintro _ h3 ⟨⟨y2, rfl, _⟩, P2⟩
  have P := close _ _ _ P2
  clear P' hs close P2
  refine as_f (idx (by omega) (by omega) (idx (by omega) (by omega) (fA hx hm fun r1 hr1 => ?_)))
  obtain ⟨F', L', P', hs, close⟩ := P.foc ((foc_comb 0 (by decide)).at (off' := 3) rfl)
  refine (Comb_step_c P' (R.c _ (mem_get (by rw [R.c2]; decide))) hr1).mono ?_
  rintro _ h4 ⟨⟨r2, rfl, hr2⟩, P2⟩
  have P := close _ _ _ P2
  clear P' hs close P2
  obtain ⟨F', L', P', hs, close⟩ := P.foc ((foc_comb 1 (by decide)).at (off' := 6) rfl)
  have e1 : (x.Combs.set 0 (x.c0 a).1)[1]! = x.Combs[1]! := by
    obtain ⟨u, v, e⟩ := is2 R.c2
    rw [e]; rfl
  have e2 : (x.Combs.set 0 (x.c0 a).1).set 1 (x.c1 a).1 = [(x.c0 a).1, (x.c1 a).1] := by
    obtain ⟨u, v, e⟩ := is2 R.c2
    generalize (x.c0 a).1 = p1
    generalize (x.c1 a).1 = p2
    rw [e]; rfl
  have P' : Pt rComb h0 h4 (q.add 6) F' L' (x.Combs.set 0 (x.c0 a).1)[1]! := P'
  rw [e1] at P'
  refine as_f ((Comb_step_c P' (R.c _ (mem_get (by rw [R.c2]; decide))) hr2).mono ?_)
  rintro _ h5 ⟨⟨f, rfl, hf⟩, P2⟩
  have P : Pt rRoom h0 h5 q F L { x with Early := x.Early.push (kept a), Combs := (x.Combs.set 0 (x.c0 a).1).set 1 (x.c1 a).1 } := close _ _ _ P2
  rw [e2] at P
  have hf : FW .f32 f (x.c1 a).2 := hf
  clear P' hs close P2 e1 e2
  refine as_f ((Mem.start h5).alc fun g1 h6 x6 N => N.alc fun g2 h7 x7 N => ?_)
  have P : Pt rRoom h0 h7 q F ((g2, T_4_float32, ⟨Z_4_float32⟩) :: (g1, T_4_float32, ⟨Z_4_float32⟩) :: L) (x.s1 a) := P.join N
  refine loop (fun y hh => ∃ (n : Nat) (co cd : Array Value), y = (q, w, f, ⟨g1, 0, none⟩, ⟨g2, 0, none⟩, (n : Int)) ∧ n ≤ 4 ∧ F4 co (mapI x.fo zeros4 n) ∧ F4 cd (mapI (fun i => (x.fg i).2) zeros4 n) ∧ Pt rRoom h0 hh q F ((g2, T_4_float32, cd) :: (g1, T_4_float32, co) :: L) (x.s2 a n))
    (fun y => (4 - y.2.2.2.2.2).toNat) ⟨0, _, _, rfl, by omega, by rw [mapI_zero]; exact F4.zero, by rw [mapI_zero]; exact F4.zero, by rw [s2_zero]; exact P⟩ ?_
  rintro y hh ⟨n, co, cd, rfl, hn, Fo, Fd, P⟩
  refine brd (fun hc => ?_) fun hc => ?_
  · have hL : n < x.Loops.length := by rw [R.l4]; omega
    have hD : n < x.Damps.length := by rw [R.d4]; omega
    have Rl : RdP rRing hh ((q.add 9).add (n * 2)) x.Loops[n]! := (P.rd.foc foc_Room_Loops).elem (i := n) (by omega)
    refine idx (by omega) (by omega) (Rl.lda1 rfl fun cs Rc => (oldest_c Rc (R.l _ (mem_get hL))).mono ?_)
    rintro _ h8 ⟨⟨o, rfl, ho⟩, x8⟩
    have ho : FW .f32 o (x.fo n) := ho
    refine as_f (idx (by omega) (by omega) ((P.grow x8).blkF (.there .here) (.there .here) Fo (by omega) ho fun h9 co' Fo' P => ?_))
    have Fo' : F4 co' ((mapI x.fo zeros4 n).set n (x.fo n)) := Fo'
    rw [dist4 x.fo (by omega)] at Fo'
    refine idx (by omega) (by omega) (idx (by omega) (by omega) (((P.rd.foc foc_Room_Gains).elem (i := n) (by omega)).oF1 fun g hg => idx (by omega) (by omega) ((Look.here).oF P.mem Fo' (by omega) fun o' ho' => ?_)))
    rw [mapI_lt (by show _ < 4; omega) (by omega)] at ho'
    refine fM hg ho' fun r hr => ?_
    have hr : FW .f32 r (fmul .f32 x.Gains[n]! (x.fo n)) := hr
    rw [add_add']
    obtain ⟨F', L', P', hs, close⟩ := P.foc (foc_dmp n (by omega))
    have e : (x.s2 a n).Damps[n]! = x.Damps[n]! := mapI_ge hD (Nat.le_refl _)
    have P' : Pt rFilter h0 h9 (q.add (17 + n * 6)) F' L' (x.s2 a n).Damps[n]! := P'
    rw [e] at P'
    refine (Filter_step_c P' hr).mono ?_
    rintro _ h10 ⟨⟨d, rfl, hd⟩, P2⟩
    have P := close _ _ _ P2
    have hd : FW .f32 d ((fun i => (x.fg i).2) n) := hd
    refine as_f (idx (by omega) (by omega) (P.blkF (.there .here) (.there .here) Fd (by omega) hd fun h11 cd' Fd' P => ?_))
    have Fd' : F4 cd' ((mapI (fun i => (x.fg i).2) zeros4 n).set n ((fun i => (x.fg i).2) n)) := Fd'
    rw [dist4 (fun i => (x.fg i).2) (by omega)] at Fd'
    have P : Pt rRoom h0 h11 q F ((g2, T_4_float32, cd') :: (g1, T_4_float32, co') :: L) { x.s2 a n with Damps := (x.s2 a n).Damps.set n (x.fg n).1 } := P
    rw [s2_step hD] at P
    exact ⟨⟨n + 1, co', cd', by rw [wrap64_succ (by omega)], by omega, Fo', Fd', P⟩, by rw [wrap64_succ (by omega)]; show _ < _; simp; omega⟩
  obtain rfl : n = 4 := by omega
  refine P.mem.lda0 .here Fd.size ((impl_MixFour_c (Fd.rd _)).mono ?_)
  rintro _ h8 ⟨ch, rfl, Rh, x8⟩
  rw [hs_eq] at Rh
  have P := P.grow x8
  refine as_a (loop (fun y hh => ∃ n : Nat, y = (q, w, f, ⟨g1, 0, none⟩, ch, (n : Int)) ∧ n ≤ 4 ∧ Pt rRoom h0 hh q F ((g2, T_4_float32, cd) :: (g1, T_4_float32, co) :: L) (x.s3 a n))
    (fun y => (4 - y.2.2.2.2.2).toNat) ⟨0, rfl, by omega, by rw [s3_zero]; exact P⟩ ?_)
  rintro y hh ⟨n, rfl, hn, P⟩
  refine brd (fun hc => ?_) fun hc => ?_
  · have hL : n < x.Loops.length := by rw [R.l4]; omega
    refine idx (by omega) (by omega) (arr_oF Rh (by omega) fun v hv => idx (by omega) (by omega) (fA hf hv fun r hr => (kept_c hr).go fun h9 k x9 hk => as_f ?_))
    rw [add_add']
    obtain ⟨F', L', P', hs, close⟩ := (P.grow x9).foc (foc_loop n (by omega))
    have e : (x.s3 a n).Loops[n]! = x.Loops[n]! := mapI_ge hL (Nat.le_refl _)
    have P' : Pt rRing h0 h9 (q.add (9 + n * 2)) F' L' (x.s3 a n).Loops[n]! := P'
    rw [e] at P'
    refine (Ring_push_c P' (R.l _ (mem_get hL)) hk).mono ?_
    rintro _ h10 ⟨⟨y3, rfl, _⟩, P2⟩
    have P : Pt rRoom h0 h10 q F ((g2, T_4_float32, cd) :: (g1, T_4_float32, co) :: L) { x.s3 a n with Loops := (x.s3 a n).Loops.set n (x.fl a n) } := close _ _ _ P2
    rw [s3_step hL] at P
    exact as_f ⟨⟨n + 1, by rw [wrap64_succ (by omega)], by omega, P⟩, by rw [wrap64_succ (by omega)]; show _ < _; simp; omega⟩
  obtain rfl : n = 4 := by omega
  have Ro : RdP (rArr 4 (rF .f32)) hh ⟨g1, 0, none⟩ (mapI x.fo zeros4 4) := P.mem.rdp (.there .here) (Fo.rd _)
  have eo : ∀ i, i < 4 → (mapI x.fo zeros4 4)[i]! = x.fo i := fun i hi => mapI_lt hi hi
  refine P.rd.oF fun d hd => P.rd.oF fun e he => idx (by omega) (by omega) (Ro.oF1 fun o0 k0 => idx (by omega) (by omega) (Ro.oF fun o1 k1 => idx (by omega) (by omega) (Ro.oF fun o2 k2 => idx (by omega) (by omega) (Ro.oF fun o3 k3 => ?_))))
  rw [eo _ (by decide)] at k0 k1 k2 k3
  replace hd : FW .f32 d x.Dry := hd
  replace he : FW .f32 e x.Wet := he
  have P := P.sub (L2 := L) (.cons _ (.cons _ (List.Sublist.refl _)))
  have fin : ∀ {r : Nat}, FW .f32 r (fadd .f32 (fmul .f32 x.Dry a) (fmul .f32 x.Wet (fadd .f32 (fadd .f32 (x.fo 0) (x.fo 1)) (fadd .f32 (x.fo 2) (x.fo 3))))) → RStep h0 hh q F L x a (.float .f32 r) := fun hr => RStep.of R hr P
  (repeat' (first
    | refine pin_same ?_
    | exact fin (by assumption)
    | refine And.intro ?_ ?_
    | refine fA (by assumption) (by assumption) fun _ _ => ?_
    | refine fM (by assumption) (by assumption) fun _ _ => ?_))
end
end Go.Sx
/- A room's step, as the rule makes it. -/
set_option linter.unusedVariables false
set_option linter.unusedSimpArgs false
namespace Go.Sx
open Go.Proofs
set_option maxRecDepth 100000
set_option maxHeartbeats 1000000

section
variable {h0 h : Heap} {q : Addr} {F : Fr} {L : List Blk} {x : GRoom} {w a : Nat}
theorem l06Step_c (P : Pt rRoom h0 h q F L x) (R : x.Runs) (hx : FW .f32 w a) : CALL prg f_spec_l06Step #[.pointer (some q), .float .f32 w] (fun u h' => RStep h0 h' q F L x a u) h := by
  have P0 := P
  refine spec_l06Step.call (loop (fun y hh => ∃ (n m : Nat), y = (q, w, m, (n : Int)) ∧ n ≤ x.Taps.length ∧ FW .f32 m (x.earlyL (x.Taps.take n)) ∧ Ext h hh) (fun y => (x.Taps.length - y.2.2.2).toNat) ⟨0, 0, rfl, by omega, fw0, Ext.refl _⟩ ?_)
  rintro y hh ⟨n, m, rfl, hn, hm, X⟩
  have R0 := P0.rd.ext X
  refine R0.oL fun b l c S => ?_
  have hl := S.len
  have k1 := S.2.1
  have k2 := S.2.2.1
  have k3 := maxLen_lt
  refine brd (fun hc => ?_) fun hc => ?_
  · refine R0.oL fun b1 l1 c1 S1 => ?_
    have hl1 := S1.len
    refine S1.idx tap_sz (by omega) (by omega) fun p Rp => Rp.oF fun z hz => R0.oL fun b2 l2 c2 S2 => ?_
    have hl2 := S2.len
    refine S2.idx tap_sz (by omega) (by omega) fun p2 Rp2 => Rp2.oI1 ((l02Back_c (R0.fst foc_Room_Early) R.e (R.t _ (mem_get (by omega)))).mono ?_)
    rintro _ h3 ⟨⟨y, rfl, hy⟩, x3⟩
    refine as_f ((Rp.foc foc_Tap_Gain).pin rfl x3 ((R0.foc foc_Room_Taps).pin rfl x3 (fM hz hy fun r hr => br (fun hb => ?_) fun hb => ?_)))
    · have e : n = 0 := by simpa using hb
      refine ⟨⟨n + 1, r, by rw [wrap64_succ (by omega)], by omega, ?_, X.trans x3⟩, by rw [wrap64_succ (by omega)]; show _ < _; simp; omega⟩
      rw [early_step (by omega), if_pos e]; exact hr
    · have e : n ≠ 0 := by simpa using hb
      refine fA hm hr fun r2 hr2 => ⟨⟨n + 1, r2, by rw [wrap64_succ (by omega)], by omega, ?_, X.trans x3⟩, by rw [wrap64_succ (by omega)]; show _ < _; simp; omega⟩
      rw [early_step (by omega), if_neg e]; exact hr2
  obtain rfl : n = x.Taps.length := by omega
  rw [List.take_length, ← early_eq] at hm
  clear R0
  refine ((l02Kept_c hx).go fun h2 k x2 hk => as_f ?_)
  have x1 := X
  have P := P.grow (x1.trans x2)
  obtain ⟨F', L', P', hs, close⟩ := P.foc foc_Room_Early
  rw [add0] at P' close
  refine (l02Push_c P' R.e hk).mono ?_
  rintro _ h3 ⟨⟨y2, rfl, _⟩, P2⟩
  have P := close _ _ _ P2
  clear P' hs close P2
  refine as_f (idx (by omega) (by omega) (idx (by omega) (by omega) (fA hx hm fun r1 hr1 => ?_)))
  obtain ⟨F', L', P', hs, close⟩ := P.foc ((foc_comb 0 (by decide)).at (off' := 3) rfl)
  refine (l06StepComb_c P' (R.c _ (mem_get (by rw [R.c2]; decide))) hr1).mono ?_
  rintro _ h4 ⟨⟨r2, rfl, hr2⟩, P2⟩
  have P := close _ _ _ P2
  clear P' hs close P2
  obtain ⟨F', L', P', hs, close⟩ := P.foc ((foc_comb 1 (by decide)).at (off' := 6) rfl)
  have e1 : (x.Combs.set 0 (x.c0 a).1)[1]! = x.Combs[1]! := by
    obtain ⟨u, v, e⟩ := is2 R.c2
    rw [e]; rfl
  have e2 : (x.Combs.set 0 (x.c0 a).1).set 1 (x.c1 a).1 = [(x.c0 a).1, (x.c1 a).1] := by
    obtain ⟨u, v, e⟩ := is2 R.c2
    generalize (x.c0 a).1 = p1
    generalize (x.c1 a).1 = p2
    rw [e]; rfl
  have P' : Pt rComb h0 h4 (q.add 6) F' L' (x.Combs.set 0 (x.c0 a).1)[1]! := P'
  rw [e1] at P'
  refine as_f ((l06StepComb_c P' (R.c _ (mem_get (by rw [R.c2]; decide))) hr2).mono ?_)
  rintro _ h5 ⟨⟨f, rfl, hf⟩, P2⟩
  have P : Pt rRoom h0 h5 q F L { x with Early := x.Early.push (kept a), Combs := (x.Combs.set 0 (x.c0 a).1).set 1 (x.c1 a).1 } := close _ _ _ P2
  rw [e2] at P
  have hf : FW .f32 f (x.c1 a).2 := hf
  clear P' hs close P2 e1 e2
  refine as_f ((Mem.start h5).alc fun g1 h6 x6 N => N.sta0 .here rfl (all_one rfl) rfl .here fun h6 N => N.alc fun g2 h7 x7 N => N.sta0 .here rfl (all_one rfl) rfl .here fun h7 N => ?_)
  have P : Pt rRoom h0 h7 q F ((g2, T_4_float32, ⟨Z_4_float32⟩) :: (g1, T_4_float32, ⟨Z_4_float32⟩) :: L) (x.s1 a) := P.join N
  refine loop (fun y hh => ∃ (n : Nat) (co cd : Array Value), y = (q, w, f, ⟨g1, 0, none⟩, ⟨g2, 0, none⟩, (n : Int)) ∧ n ≤ 4 ∧ F4 co (mapI x.fo zeros4 n) ∧ F4 cd (mapI (fun i => (x.fg i).2) zeros4 n) ∧ Pt rRoom h0 hh q F ((g2, T_4_float32, cd) :: (g1, T_4_float32, co) :: L) (x.s2 a n))
    (fun y => (4 - y.2.2.2.2.2).toNat) ⟨0, _, _, rfl, by omega, by rw [mapI_zero]; exact F4.zero, by rw [mapI_zero]; exact F4.zero, by rw [s2_zero]; exact P⟩ ?_
  rintro y hh ⟨n, co, cd, rfl, hn, Fo, Fd, P⟩
  refine brd (fun hc => ?_) fun hc => ?_
  · have hL : n < x.Loops.length := by rw [R.l4]; omega
    have hD : n < x.Damps.length := by rw [R.d4]; omega
    have Rl : RdP rRing hh ((q.add 9).add (n * 2)) x.Loops[n]! := (P.rd.foc foc_Room_Loops).elem (i := n) (by omega)
    obtain ⟨k1, k2, k3, k4, k5⟩ := at_lt (R.l _ (mem_get hL))
    refine idx (by omega) (by omega) (Rl.oL1 fun bb ll cc S => idx (by omega) (by omega) (Rl.oI ?_))
    have hl := S.len
    refine S.idx (by decide) k1 (by omega) fun p Rp => Rp.oF1 fun o ho => ?_
    have ho : FW .f32 o (x.fo n) := ho
    refine (idx (by omega) (by omega) (P.blkF (.there .here) (.there .here) Fo (by omega) ho fun h9 co' Fo' P => ?_))
    have Fo' : F4 co' ((mapI x.fo zeros4 n).set n (x.fo n)) := Fo'
    rw [dist4 x.fo (by omega)] at Fo'
    refine idx (by omega) (by omega) (idx (by omega) (by omega) (((P.rd.foc foc_Room_Gains).elem (i := n) (by omega)).oF1 fun g hg => idx (by omega) (by omega) ((Look.here).oF P.mem Fo' (by omega) fun o' ho' => ?_)))
    rw [mapI_lt (by show _ < 4; omega) (by omega)] at ho'
    refine fM hg ho' fun r hr => ?_
    have hr : FW .f32 r (fmul .f32 x.Gains[n]! (x.fo n)) := hr
    rw [add_add']
    obtain ⟨F', L', P', hs, close⟩ := P.foc (foc_dmp n (by omega))
    have e : (x.s2 a n).Damps[n]! = x.Damps[n]! := mapI_ge hD (Nat.le_refl _)
    have P' : Pt rFilter h0 h9 (q.add (17 + n * 6)) F' L' (x.s2 a n).Damps[n]! := P'
    rw [e] at P'
    refine (l02Step_c P' hr).mono ?_
    rintro _ h10 ⟨⟨d, rfl, hd⟩, P2⟩
    have P := close _ _ _ P2
    have hd : FW .f32 d ((fun i => (x.fg i).2) n) := hd
    refine as_f (idx (by omega) (by omega) (P.blkF (.there .here) (.there .here) Fd (by omega) hd fun h11 cd' Fd' P => ?_))
    have Fd' : F4 cd' ((mapI (fun i => (x.fg i).2) zeros4 n).set n ((fun i => (x.fg i).2) n)) := Fd'
    rw [dist4 (fun i => (x.fg i).2) (by omega)] at Fd'
    have P : Pt rRoom h0 h11 q F ((g2, T_4_float32, cd') :: (g1, T_4_float32, co') :: L) { x.s2 a n with Damps := (x.s2 a n).Damps.set n (x.fg n).1 } := P
    rw [s2_step hD] at P
    exact ⟨⟨n + 1, co', cd', by rw [wrap64_succ (by omega)], by omega, Fo', Fd', P⟩, by rw [wrap64_succ (by omega)]; show _ < _; simp; omega⟩
  obtain rfl : n = 4 := by omega
  refine P.mem.lda0 .here Fd.size ((spec_MixFour_c (Fd.rd _)).mono ?_)
  rintro _ h8 ⟨ch, rfl, Rh, x8⟩
  rw [hs_eq] at Rh
  have Fh := F4.of Rh
  have P := P.grow x8
  refine as_a ((Mem.start h8).alc fun g3 h9 x9 N => N.sta0 .here Fh.size (((rArr 4 (rF .f32)).rone Rh)) rfl .here fun h9 N => ?_)
  have P := P.join N
  refine (loop (fun y hh => ∃ n : Nat, y = (q, w, f, ⟨g1, 0, none⟩, ⟨g3, 0, none⟩, (n : Int)) ∧ n ≤ 4 ∧ Pt rRoom h0 hh q F ((g3, T_4_float32, ch) :: (g2, T_4_float32, cd) :: (g1, T_4_float32, co) :: L) (x.s3 a n))
    (fun y => (4 - y.2.2.2.2.2).toNat) ⟨0, rfl, by omega, by rw [s3_zero]; exact P⟩ ?_)
  rintro y hh ⟨n, rfl, hn, P⟩
  refine brd (fun hc => ?_) fun hc => ?_
  · have hL : n < x.Loops.length := by rw [R.l4]; omega
    refine idx (by omega) (by omega) (idx (by omega) (by omega) ((Look.here).oF P.mem Fh (by omega) fun v hv => (fA hf hv fun r hr => (l02Kept_c hr).go fun h9 k x9 hk => as_f ?_)))
    rw [add_add']
    obtain ⟨F', L', P', hs, close⟩ := (P.grow x9).foc (foc_loop n (by omega))
    have e : (x.s3 a n).Loops[n]! = x.Loops[n]! := mapI_ge hL (Nat.le_refl _)
    have P' : Pt rRing h0 h9 (q.add (9 + n * 2)) F' L' (x.s3 a n).Loops[n]! := P'
    rw [e] at P'
    refine (l02Push_c P' (R.l _ (mem_get hL)) hk).mono ?_
    rintro _ h10 ⟨⟨y3, rfl, _⟩, P2⟩
    have P : Pt rRoom h0 h10 q F ((g3, T_4_float32, ch) :: (g2, T_4_float32, cd) :: (g1, T_4_float32, co) :: L) { x.s3 a n with Loops := (x.s3 a n).Loops.set n (x.fl a n) } := close _ _ _ P2
    rw [s3_step hL] at P
    exact as_f ⟨⟨n + 1, by rw [wrap64_succ (by omega)], by omega, P⟩, by rw [wrap64_succ (by omega)]; show _ < _; simp; omega⟩
  obtain rfl : n = 4 := by omega
  have Ro : RdP (rArr 4 (rF .f32)) hh ⟨g1, 0, none⟩ (mapI x.fo zeros4 4) := P.mem.rdp (.there (.there .here)) (Fo.rd _)
  have eo : ∀ i, i < 4 → (mapI x.fo zeros4 4)[i]! = x.fo i := fun i hi => mapI_lt hi hi
  refine P.rd.oF fun d hd => P.rd.oF fun e he => idx (by omega) (by omega) (Ro.oF1 fun o0 k0 => idx (by omega) (by omega) (Ro.oF fun o1 k1 => idx (by omega) (by omega) (Ro.oF fun o2 k2 => idx (by omega) (by omega) (Ro.oF fun o3 k3 => ?_))))
  rw [eo _ (by decide)] at k0 k1 k2 k3
  replace hd : FW .f32 d x.Dry := hd
  replace he : FW .f32 e x.Wet := he
  have P := P.sub (L2 := L) (.cons _ (.cons _ (.cons _ (List.Sublist.refl _))))
  have fin : ∀ {r : Nat}, FW .f32 r (fadd .f32 (fmul .f32 x.Dry a) (fmul .f32 x.Wet (fadd .f32 (fadd .f32 (x.fo 0) (x.fo 1)) (fadd .f32 (x.fo 2) (x.fo 3))))) → RStep h0 hh q F L x a (.float .f32 r) := fun hr => RStep.of R hr P
  (repeat' (first
    | refine pin_same ?_
    | exact fin (by assumption)
    | refine And.intro ?_ ?_
    | refine fA (by assumption) (by assumption) fun _ _ => ?_
    | refine fM (by assumption) (by assumption) fun _ _ => ?_))
end
end Go.Sx
/- What is told of rooms that read so: lengths, and that they run. -/
set_option linter.unusedVariables false
set_option linter.unusedSimpArgs false
namespace Go.Sx
open Go.Proofs
set_option maxRecDepth 100000

section
variable {h : Heap}
theorem room_all {cs : List Value} {x : GRoom} (R : rRoom.rd h cs x) : x.Combs.length = 2 ∧ x.Loops.length = 4 ∧ x.Damps.length = 4 ∧ x.Gains.length = 4 := by
  obtain ⟨_, _, _, _, _, _, _, _, _, _, _, RC, _, _, _, RL, _, _, _, RD, _, _, _, RG, _⟩ := R
  exact ⟨RC.1, RL.1, RD.1, RG.1⟩
theorem room_runs {cs : List Value} {x : GRoom} (R : rRoom.rd h cs x) (hok : x.ok = true) : x.Runs := by
  obtain ⟨c, l, d, g⟩ := room_all R
  exact ok_runs hok c l d g
end
end Go.Sx
/- How long a room sounds, as the rule and the program tell it. -/
set_option linter.unusedVariables false
set_option linter.unusedSimpArgs false
namespace Go.Sx
open Go.Proofs
set_option maxRecDepth 100000
set_option maxHeartbeats 1000000

section
variable {h0 h : Heap} {x : GRoom} {most : Int}
def tup (r : Int × Int) : Value := .tuple ⟨[.int .i64 r.1, .int .i64 r.2]⟩
/-- Integers in a block. -/
def ivs (rs : List Int) : Array Value := ⟨rs.map (.int .i64)⟩
theorem ivs_get {rs : List Int} {i : Nat} (hi : i < rs.length) : (ivs rs)[i]? = some (.int .i64 rs[i]!) := by
  unfold ivs
  rw [List.getElem?_toArray, List.getElem?_map, List.getElem?_eq_getElem hi, getElem!_pos _ i hi]; rfl
theorem Look.oV {L : List Blk} {g i : Nat} {rs : List Int} {K : Int → Prop} (l : Look L g (ivs rs)) (M : Mem h0 h L) (hi : i < rs.length) (H : K rs[i]!) : Sx.oI .i64 (cell h ((⟨g, 0, none⟩ : Addr).add (i * 1))) K := by
  rw [add_none, Nat.zero_add, Nat.mul_one]
  exact o_i (by rw [M.cell l, ivs_get hi]) H
end
end Go.Sx
