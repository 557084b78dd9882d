/- New pipes of one to three sections, by the rule. -/
import Derived.Test.YtkgmfiloghhibaaGreatDoorLk10
import Derived.Test.YtkgmfiloghhibaaGreatDoorLk76
import Derived.Test.YtkgmfiloghhibaaGreatDoorLk14
import Derived.Test.YtkgmfiloghhibaaGreatDoorLgn
import Derived.Test.YtkgmfiloghhibaaGreatDoorTab
import Derived.Test.YtkgmfiloghhibaaGreatDoorLf8
import Derived.Test.YtkgmfiloghhibaaGreatDoorLk56
import Derived.Test.YtkgmfiloghhibaaGreatDoorLk21
import Derived.Test.YtkgmfiloghhibaaGreatDoorLk59
import Derived.Test.YtkgmfiloghhibaaGreatDoorLv0
import Derived.Test.YtkgmfiloghhibaaGreatDoorLk1
import Derived.Test.YtkgmfiloghhibaaGreatDoorK9
import Derived.Test.YtkgmfiloghhibaaGreatDoorLm6
import Derived.Test.YtkgmfiloghhibaaGreatDoorLk16
import Derived.Test.YtkgmfiloghhibaaGreatDoorK2
set_option linter.unusedVariables false
set_option linter.unusedSimpArgs false
namespace Go.Sx
open Go.Proofs Ieee
set_option maxRecDepth 100000
set_option maxHeartbeats 2000000

def pipeNs (zs : List Int) (ks : List Nat) (op : Bool) (k l : Nat) : GPipe := { Right := zs.map quietR, Left := zs.map quietR, Scatter := ks, End := onePole k, Open := op, Loss := l, Rest := 1061158912, Slope := 3200253952 }
section
variable {h : Heap}
theorem newPipes_c {b s : Option Addr} {l c sl sc : Nat} {zs : List Int} {ks : List Nat} {op : Bool} {k ls k' l' : Nat} (S : SlR (rI .i64) h b l c zs) (Z : SlR (rF .f32) h s sl sc ks) (hz : ∀ z ∈ zs, 1 ≤ z ∧ z ≤ 1024) (h1 : 1 ≤ l) (h3 : l ≤ 3) (hs : sl + 1 = l)
    (hks : ∀ a ∈ ks, inside a neg32 one32 = true) (hk : FW .f32 k k') (hl : FW .f32 ls l') (pk : place k' = true) (il : inside l' 0 1065353216 = true) :
    CALL prg f_spec_NewPipe #[.slice b l c, .slice s sl sc, .bool op, .float .f32 k, .float .f32 ls] (fun u h' => PairR rPipe h h' u (pipeNs zs ks op k' l') 0) h := by
  have hzl := S.len
  have hkl := Z.len
  have q1 := Z.2.1
  refine spec_NewPipe.call ((Mem.start h).alc fun g1 h1' x1 M => goM M (l00In_c _ _ _ _) fun h2 M => as_b (br_t (by simp only [inR, Bool.and_eq_true, decide_eq_true_eq]; omega) (br_t (by rw [wrap64 (by omega) (by omega)]; simp; omega) ?_)))
  rw [ord_eq hk fw0, ord_eq hk c1, ord_eq hl fw0, ord_eq hl c1]
  have pk2 := pk
  have il2 := il
  unfold place fge flt at pk2
  unfold inside fge fle at il2
  rw [Bool.and_eq_true] at pk2 il2
  refine br_t pk2.1 (br_t pk2.2 (br_t il2.1 ?_))
  rw [il2.2]
  -- the sections
  have key14 : ∀ {hh : Heap} {g31 : Nat} {b3 : Option Addr} {c3 : Nat} {B3 : List Blk} {kk : Int} {yy zz : Nat}, SlO T_float32 (rF .f32) B3 b3 sl c3 ks → rFilter.ow [] (flC kk yy zz 0 0 0) (onePole k') → Mem h hh ((g31, T_impl_Pipe, ⟨ppC none 0 0 none 0 0 b3 sl c3 kk yy zz op ls⟩) :: (B3 ++ [(g1, T_impl_Pipe, ⟨Z_impl_Pipe⟩)])) →
      LOOP (spec_NewPipe.B14 (fun u h' => PairR rPipe h h' u (pipeNs zs ks op k' l') 0)) (b, l, c, ⟨g1, 0, none⟩, ⟨g31, 0, none⟩, (0 : Int)) hh := fun {hh g31 b3 c3 B3 kk yy zz} O3 OE M => by
    refine loop (fun x hx => ∃ (j : Nat) (b1 : Option Addr) (c1 : Nat) (B1 : List Blk) (b2 : Option Addr) (c2 : Nat) (B2 : List Blk), x = (b, l, c, ⟨g1, 0, none⟩, ⟨g31, 0, none⟩, (j : Int)) ∧ j ≤ l ∧ SlO T_impl_Ring rRing B1 b1 j c1 ((zs.take j).map quietR) ∧ SlO T_impl_Ring rRing B2 b2 j c2 ((zs.take j).map quietR) ∧
        Mem h hx ((g31, T_impl_Pipe, ⟨ppC b1 j c1 b2 j c2 b3 sl c3 kk yy zz op ls⟩) :: (B1 ++ (B2 ++ (B3 ++ [(g1, T_impl_Pipe, ⟨Z_impl_Pipe⟩)]))))) (fun x => ((l : Int) - x.2.2.2.2.2).toNat)
      ⟨0, none, 0, [], none, 0, [], rfl, by omega, SlO.nil, SlO.nil, M⟩ ?_
    rintro x hx ⟨j, b1, c1, B1, b2, c2, B2, rfl, hj, O1, O2, M⟩
    unfold spec_NewPipe.B14
    refine brd (fun hc => ?_) fun hc => ?_
    · have hzj := hz _ (mem_get (l := zs) (i := j) (by omega))
      obtain ⟨N, hN⟩ : ∃ N : Nat, zs[j]! = (N : Int) := ⟨zs[j]!.toNat, by omega⟩
      have tk : (zs.take (j + 1)).map quietR = (zs.take j).map quietR ++ [⟨List.replicate N 0, 0⟩] := by
        rw [take_snoc (by omega), List.map_append]
        show _ ++ [quietR zs[j]!] = _
        rw [hN]; rfl
      simp only [add_g]
      refine o_l (M.cell .here 0) ((S.ext M.ext).idx (by decide) (by omega) (by omega) fun p Rp => Rp.oI1 ?_)
      rw [Int.toNat_natCast, hN]
      refine make_z M (by omega) fun g56 h4 B4 x4 M4 O4 => M.pin1 .here (by show 0 < 13; decide) x4 (siz rfl ?_)
      have M4 : Mem h h4 (B1 ++ (B4 ++ ((g31, T_impl_Pipe, ⟨ppC b1 j c1 b2 j c2 b3 sl c3 kk yy zz op ls⟩) :: (B2 ++ (B3 ++ [(g1, T_impl_Pipe, ⟨Z_impl_Pipe⟩)]))))) := M4.cnt fun p => by simp only [cnt_app, cnt_cons, cnt_nil]; omega
      refine push_ring (n := N) O1 M4 O4 (by omega) (fun h' p x H => M.pin1 .here (by show 0 < 13; decide) (x4.trans x) H) fun b1' c1' h5 B1' _ O1 M => as_l (M.st1 (Look.skip .here) (by show 0 < 13; decide) (Upd.skip .here) fun h6 M => ?_)
      rw [← tk] at O1
      have M : Mem h h6 (B1' ++ ((g31, T_impl_Pipe, ⟨ppC b1' (j + 1) c1' b2 j c2 b3 sl c3 kk yy zz op ls⟩) :: (B2 ++ (B3 ++ [(g1, T_impl_Pipe, ⟨Z_impl_Pipe⟩)])))) := M
      have M := M.cnt (W := (g31, T_impl_Pipe, ⟨ppC b1' (j + 1) c1' b2 j c2 b3 sl c3 kk yy zz op ls⟩) :: (B2 ++ (B1' ++ (B3 ++ [(g1, T_impl_Pipe, ⟨Z_impl_Pipe⟩)])))) (fun p => by simp only [cnt_app, cnt_cons, cnt_nil] at *; omega)
      refine o_l (M.cell .here 1) ((S.ext M.ext).idx (by decide) (by omega) (by omega) fun p Rp => Rp.oI1 ?_)
      rw [Int.toNat_natCast, hN]
      refine make_z M (by omega) fun g67 h7 B7 x7 M7 O7 => M.pin1 .here (by show 1 < 13; decide) x7 (siz rfl ?_)
      have M7 : Mem h h7 (B2 ++ (B7 ++ ((g31, T_impl_Pipe, ⟨ppC b1' (j + 1) c1' b2 j c2 b3 sl c3 kk yy zz op ls⟩) :: (B1' ++ (B3 ++ [(g1, T_impl_Pipe, ⟨Z_impl_Pipe⟩)]))))) := M7.cnt fun p => by simp only [cnt_app, cnt_cons, cnt_nil]; omega
      refine push_ring (n := N) O2 M7 O7 (by omega) (fun h' p x H => M.pin1 .here (by show 1 < 13; decide) (x7.trans x) H) fun b2' c2' h8 B2' _ O2 M => as_l (M.st1 (Look.skip .here) (by show 1 < 13; decide) (Upd.skip .here) fun h9 M => ?_)
      rw [← tk] at O2
      have M : Mem h h9 (B2' ++ ((g31, T_impl_Pipe, ⟨ppC b1' (j + 1) c1' b2' (j + 1) c2' b3 sl c3 kk yy zz op ls⟩) :: (B1' ++ (B3 ++ [(g1, T_impl_Pipe, ⟨Z_impl_Pipe⟩)])))) := M
      have M := M.cnt (W := (g31, T_impl_Pipe, ⟨ppC b1' (j + 1) c1' b2' (j + 1) c2' b3 sl c3 kk yy zz op ls⟩) :: (B1' ++ (B2' ++ (B3 ++ [(g1, T_impl_Pipe, ⟨Z_impl_Pipe⟩)])))) (fun p => by simp only [cnt_app, cnt_cons, cnt_nil] at *; omega)
      exact ⟨⟨j + 1, b1', c1', B1', b2', c2', B2', by rw [wrap64_succ (by omega)], by omega, O1, O2, M⟩, by rw [wrap64_succ (by omega)]; show _ < _; simp; omega⟩
    obtain rfl : j = l := by omega
    rw [← hzl, List.take_length] at O1 O2
    rw [hzl] at O1 O2
    have O := pipe_ow (x := pipeNs zs ks op k' l') O1 O2 O3 OE hl cRest cSlope
    refine M.lda0 .here rfl ?_
    have M := M.cnt (W := (g1, T_impl_Pipe, ⟨Z_impl_Pipe⟩) :: (B1 ++ (B2 ++ B3))) (fun p => by simp only [cnt_app, cnt_cons, cnt_nil] at *; omega)
    exact M.sta0 .here rfl (rPipe.oone O) rfl .here fun h3 M => M.lda0 .here rfl ⟨_, _, rfl, O, M.drop⟩
  have key7 : ∀ {hh : Heap}, Mem h hh [(g1, T_impl_Pipe, ⟨Z_impl_Pipe⟩)] → LOOP (spec_NewPipe.B7 (fun u h' => PairR rPipe h h' u (pipeNs zs ks op k' l') 0)) (b, l, c, s, sl, sc, op, k, ls, ⟨g1, 0, none⟩, true, (0 : Int)) hh := fun {hh} M => by
    refine loop (fun x hx => ∃ j : Nat, x = (b, l, c, s, sl, sc, op, k, ls, ⟨g1, 0, none⟩, true, (j : Int)) ∧ j ≤ sl ∧ Mem h hx [(g1, T_impl_Pipe, ⟨Z_impl_Pipe⟩)]) (fun x => ((sl : Int) - x.2.2.2.2.2.2.2.2.2.2.2).toNat) ⟨0, rfl, by omega, M⟩ ?_
    rintro x hx ⟨j, rfl, hj, M⟩
    unfold spec_NewPipe.B7
    refine brd (fun hc => br_t rfl ?_) fun _ => br_f rfl ?_
    · unfold spec_NewPipe.J9
      have ik := hks _ (mem_get (l := ks) (i := j) (by omega))
      have ik2 := ik
      unfold inside fge fle at ik2
      rw [Bool.and_eq_true] at ik2
      refine (Z.ext M.ext).idx (by decide) (by omega) (by omega) fun p Rp => Rp.oF1 fun w hw => ?_
      rw [Int.toNat_natCast] at hw
      rw [ord_eq hw (fw_c32 (by decide) (by decide))]
      refine br_t ik2.1 ((Z.ext M.ext).idx (by decide) (by omega) (by omega) fun p Rp => Rp.oF1 fun w2 hw2 => ?_)
      rw [Int.toNat_natCast] at hw2
      rw [ord_eq hw2 (fw_c32 (by decide) (by decide))]
      rw [show (FloatKind.f32.format.order ks[j]! 1065353216 == some .lt || FloatKind.f32.format.order ks[j]! 1065353216 == some .eq) = true from ik2.2]
      exact ⟨⟨j + 1, by rw [wrap64_succ (by omega)], by omega, M⟩, by rw [wrap64_succ (by omega)]; show _ < _; simp; omega⟩
    refine M.alc fun g36 h4 x4 M => append_copy E_sl_float32 (by decide) (flat_F _) (Z.ext M.ext) M (by omega) fun b3 c3 h5 B3 O3 M => as_l ((spec_OnePole_c hk).mono ?_)
    rintro _ h6 ⟨⟨kk, yy, zz, rfl, OE⟩, x6⟩
    refine as_a (siz rfl ((M.grow x6).alc fun g44 h7' x7 M => M.sta0 .here rfl (all_one rfl) rfl .here fun h8 M => ?_))
    exact key14 O3 OE M
  unfold spec_NewPipe.J2
  refine loop (fun x hx => ∃ j : Nat, x = (b, l, c, s, sl, sc, op, k, ls, ⟨g1, 0, none⟩, true, (j : Int)) ∧ j ≤ l ∧ Mem h hx [(g1, T_impl_Pipe, ⟨Z_impl_Pipe⟩)]) (fun x => ((l : Int) - x.2.2.2.2.2.2.2.2.2.2.2).toNat) ⟨0, rfl, by omega, M⟩ ?_
  rintro x hx ⟨j, rfl, hj, M⟩
  unfold spec_NewPipe.B3
  refine brd (fun hc => br_t rfl ?_) fun _ => key7 M
  unfold spec_NewPipe.J5
  have hzj := hz _ (mem_get (l := zs) (i := j) (by omega))
  refine (S.ext M.ext).idx (by decide) (by omega) (by omega) fun p Rp => Rp.oI1 ?_
  rw [Int.toNat_natCast]
  refine goM M (l00In_c _ _ _ _) fun h4 M => as_b ?_
  rw [show inR zs[j]! 1 1024 = true by simp only [inR, Bool.and_eq_true, decide_eq_true_eq]; omega]
  exact ⟨⟨j + 1, by rw [wrap64_succ (by omega)], by omega, M⟩, by rw [wrap64_succ (by omega)]; show _ < _; simp; omega⟩
end
end Go.Sx
/- Filters drawn are valid. -/
set_option linter.unusedVariables false
set_option linter.unusedSimpArgs false
namespace Go.Sx
open Go.Proofs Ieee
set_option maxRecDepth 100000
set_option maxHeartbeats 1000000

def s64 (v : Int) : Nat := fdiv .f32 (FloatKind.f32.nearest v) 1115684864
end Go.Sx
/- Filters drawn are valid. -/
set_option linter.unusedVariables false
set_option linter.unusedSimpArgs false
namespace Go.Sx
open Go.Proofs Ieee
set_option maxRecDepth 100000
set_option maxHeartbeats 1000000

/-- A step keeps a filter valid. -/
theorem filter_step_ok {f : GFilter} {a : Nat} (h : f.ok = true) : (f.step a).1.ok = true := by
  unfold GFilter.ok at h
  simp only [Bool.and_eq_true] at h
  have hk := h.1.1
  simp only [inR, Bool.and_eq_true, decide_eq_true_eq] at hk
  have fin1 : ∀ S : List Nat, used S (usesS f.Kind) = true → ({ f with S := S } : GFilter).ok = true := fun S hS => by
    unfold GFilter.ok
    rw [Bool.and_eq_true]
    exact ⟨by simp only [Bool.and_eq_true]; exact h.1, hS⟩
  have hS := h.2
  have u1 : (f.Kind = 1 ∨ f.Kind = 2) → usesS f.Kind = 1 := fun e => by unfold usesS; rw [if_pos e]
  have u2 : ¬ (f.Kind = 1 ∨ f.Kind = 2) → usesS f.Kind = 2 := fun e => by unfold usesS; rw [if_neg e]
  by_cases k1 : f.Kind = 1
  · rw [step1 k1]; exact fin1 _ (used_set0 hS (by rw [u1 (.inl k1)]; decide))
  by_cases k2 : f.Kind = 2
  · rw [step2 k2]; exact fin1 _ (used_set0 hS (by rw [u1 (.inr k2)]; decide))
  have u := u2 (by omega)
  by_cases k3 : f.Kind = 3
  · rw [step3 k3]; exact fin1 _ (by rw [u] at hS ⊢; exact used_setN (i := 1) (used_setN (i := 0) hS (by decide)) (by decide))
  by_cases k4 : f.Kind = 4
  · rw [step4 k4]; exact fin1 _ (by rw [u] at hS ⊢; exact used_setN (i := 1) (used_setN (i := 0) hS (by decide)) (by decide))
  · rw [step5 k1 k2 k3 k4]; exact fin1 _ (by rw [u] at hS ⊢; exact used_setN (i := 1) (used_setN (i := 0) hS (by decide)) (by decide))
/-- A filter's cells, told by a call. -/
def FlT (u : Value) (f : GFilter) : Prop := ∃ v, u = .agg ⟨flT v⟩ ∧ rFilter.ow [] (flT v) f
theorem FlR.t {u : Value} {f : GFilter} (h : FlR u f) : FlT u f := by
  obtain ⟨k, y, z, e, O⟩ := h
  exact ⟨(k, y, z, 0, 0, 0), e, O⟩
end Go.Sx
/- Filters run over blocks, one by one and in a chain. -/
set_option linter.unusedVariables false
set_option linter.unusedSimpArgs false
namespace Go.Sx
open Go.Proofs
set_option maxRecDepth 100000
set_option maxHeartbeats 2000000

abbrev V6 := Int × Nat × Nat × Nat × Nat × Nat
end Go.Sx
/- Strings drawn are valid: the numbers. -/
set_option linter.unusedVariables false
set_option linter.unusedSimpArgs false
namespace Go.Sx
open Go.Proofs Ieee
set_option maxRecDepth 100000
set_option maxHeartbeats 1000000

theorem step_kind (f : GFilter) (a : Nat) : (f.step a).1.Kind = f.Kind := by
  unfold GFilter.step
  repeat' split
  all_goals rfl
theorem kind_step {f : GFilter} {k : Int} {a : Nat} (h : (f.ok && f.Kind == k) = true) : ((f.step a).1.ok && (f.step a).1.Kind == k) = true := by
  rw [Bool.and_eq_true] at *
  rw [step_kind]
  exact ⟨filter_step_ok h.1, h.2⟩
end Go.Sx
/- What functions of this seat's program compute, told in words (a predicate over heaps for each), and the proofs that the words are no more than the code's own weakest precondition. -/
namespace Go.Sx
open Go.Proofs
set_option linter.unusedVariables false
set_option maxRecDepth 100000

def spec_l04Drawn.B16 (Post : Value → Heap → Prop) (N16 : (Addr × Addr × Addr × Int) → Heap → Prop) : Addr × Addr × Addr × Int → Heap → Prop
  | (s_0, t2, x_8, k_10), h =>
    BIF ((decide ((0 : Int) < k_10))) (
    CALL prg f_spec_l01Plain #[.pointer (some s_0)] (fun q63 h64 =>
    asF .f32 q63 fun r65 =>
    CALL prg f_spec_l04Step #[.pointer (some x_8), .float .f32 r65] (fun q66 h67 =>
    asF .f32 q66 fun r68 =>
    N16 (s_0, t2, x_8, ((IntKind.i64.wrap (k_10 - (1 : Int))))) h67) h64) h) (
    LDA 13 h x_8 fun a69 =>
    STA 13 h t2 a69 fun h70 =>
    LDA 13 h70 t2 fun a71 =>
    Post (.agg a71) h70)
def spec_l04Drawn.g16 (fr : Frame) : Addr × Addr × Addr × Int := ((gP (lget fr 0)), (gP (lget fr 2)), (gP (lget fr 8)), (gI (lget fr 10)))
def spec_l04Drawn.l16 (Post : Value → Heap → Prop) : Frame → Heap → Prop := fun fr h => GRD (shape (kds 73 [(0, .p), (2, .p), (8, .p), (10, .i .i64)]) fr) (LOOP (spec_l04Drawn.B16 Post) (spec_l04Drawn.g16 fr) h)
def spec_l04Drawn.J15 (Post : Value → Heap → Prop) (s_0 : Addr) (t2 : Addr) (x_8 : Addr) (h : Heap) : Prop :=
    CALL prg f_p_spec_l00Src_pick #[.pointer (some s_0), .int .i64 (12 : Int)] (fun q60 h61 =>
    asI .i64 q60 fun n62 =>
    LOOP (spec_l04Drawn.B16 Post) (s_0, t2, x_8, n62) h61) h
def spec_l04Drawn.j15 (Post : Value → Heap → Prop) : Frame → Heap → Prop := fun fr h => GRD (shape (kds 73 [(0, .p), (2, .p), (8, .p)]) fr) (spec_l04Drawn.J15 Post (gP (lget fr 0)) (gP (lget fr 2)) (gP (lget fr 8)) h)
def spec_l04Drawn.B4 (Post : Value → Heap → Prop) (N4 : (Addr × Addr × Option Addr × Nat × Nat × Option Addr × Nat × Nat × Int) → Heap → Prop) : Addr × Addr × Option Addr × Nat × Nat × Option Addr × Nat × Nat × Int → Heap → Prop
  | (s_0, t2, lengths_3b, lengths_3l, lengths_3c, scatter_4b, scatter_4l, scatter_4c, i_5), h =>
    BIF ((decide ((0 : Int) < i_5))) (
    CALL prg f_p_spec_l00Src_pick #[.pointer (some s_0), .int .i64 (5 : Int)] (fun q10 h11 =>
    asI .i64 q10 fun n12 =>
    ALC ⟨[.int .i64 ((IntKind.i64.wrap ((1 : Int) + n12)))]⟩ T_int64 (fun g13 h14 =>
    SEMV prg (Builtin.append_ #[T_sl_int64, T_sl_int64] T_sl_int64 #[.slice lengths_3b lengths_3l lengths_3c, .slice (some ⟨g13, 0, none⟩) 1 1]) (fun q15 h16 =>
    asL q15 fun l17b l17l l17c =>
    BIF ((decide ((1 : Int) < (l17l : Int)))) (
    CALL prg f_p_spec_l00Src_pick #[.pointer (some s_0), .int .i64 (17 : Int)] (fun q20 h21 =>
    asI .i64 q20 fun n22 =>
    FOP .f32 (FloatKind.f32.format.div ((FloatKind.f32.nearest ((IntKind.i64.wrap (n22 - (8 : Int)))))) 1090519040) fun r23 =>
    ALC ⟨[.float .f32 r23]⟩ T_float32 (fun g24 h25 =>
    SEMV prg (Builtin.append_ #[T_sl_float32, T_sl_float32] T_sl_float32 #[.slice scatter_4b scatter_4l scatter_4c, .slice (some ⟨g24, 0, none⟩) 1 1]) (fun q26 h27 =>
    asL q26 fun l28b l28l l28c =>
    N4 (s_0, t2, l17b, l17l, l17c, l28b, l28l, l28c, ((IntKind.i64.wrap (i_5 - (1 : Int))))) h27) h25) h21) h16) (
    N4 (s_0, t2, l17b, l17l, l17c, scatter_4b, scatter_4l, scatter_4c, ((IntKind.i64.wrap (i_5 - (1 : Int))))) h16)) h14) h11) h) (
    CALL prg f_p_spec_l00Src_one #[.pointer (some s_0), .int .i64 (2 : Int)] (fun q29 h30 =>
    asB q29 fun b31 =>
    CALL prg f_p_spec_l00Src_pick #[.pointer (some s_0), .int .i64 (8 : Int)] (fun q32 h33 =>
    asI .i64 q32 fun n34 =>
    FOP .f32 (FloatKind.f32.format.div (FloatKind.f32.nearest n34) 1090519040) fun r35 =>
    CALL prg f_p_spec_l00Src_pick #[.pointer (some s_0), .int .i64 (17 : Int)] (fun q36 h37 =>
    asI .i64 q36 fun n38 =>
    FOP .f32 (FloatKind.f32.format.div (FloatKind.f32.nearest n38) 1098907648) fun r39 =>
    CALL prg f_spec_NewPipe #[.slice lengths_3b lengths_3l lengths_3c, .slice scatter_4b scatter_4l scatter_4c, .bool b31, .float .f32 r35, .float .f32 r39] (fun q40 h41 =>
    TUP2 q40 fun q42 q43 =>
    asA q42 fun a44 =>
    asI .i64 q43 fun n45 =>
    ALC ⟨Z_impl_Pipe⟩ T_impl_Pipe (fun g46 h47 =>
    STA 13 h47 ⟨g46, 0, none⟩ a44 fun h48 =>
    CALL prg f_p_spec_l00Src_one #[.pointer (some s_0), .int .i64 (2 : Int)] (fun q49 h50 =>
    asB q49 fun b51 =>
    BIF b51 (
    CALL prg f_spec_l01Plain #[.pointer (some s_0)] (fun q52 h53 =>
    asF .f32 q52 fun r54 =>
    ST1 h53 ⟨g46, 11, none⟩ (.float .f32 r54) fun h55 =>
    CALL prg f_spec_l01Plain #[.pointer (some s_0)] (fun q56 h57 =>
    asF .f32 q56 fun r58 =>
    ST1 h57 ⟨g46, 12, none⟩ (.float .f32 r58) fun h59 =>
    spec_l04Drawn.J15 Post s_0 t2 ⟨g46, 0, none⟩ h59) h55) h50) (
    spec_l04Drawn.J15 Post s_0 t2 ⟨g46, 0, none⟩ h50)) h48) h41) h37) h33) h30) h)
def spec_l04Drawn.g4 (fr : Frame) : Addr × Addr × Option Addr × Nat × Nat × Option Addr × Nat × Nat × Int := ((gP (lget fr 0)), (gP (lget fr 2)), (gLb (lget fr 3)), (gLl (lget fr 3)), (gLc (lget fr 3)), (gLb (lget fr 4)), (gLl (lget fr 4)), (gLc (lget fr 4)), (gI (lget fr 5)))
def spec_l04Drawn.l4 (Post : Value → Heap → Prop) : Frame → Heap → Prop := fun fr h => GRD (shape (kds 73 [(0, .p), (2, .p), (3, .l), (4, .l), (5, .i .i64)]) fr) (LOOP (spec_l04Drawn.B4 Post) (spec_l04Drawn.g4 fr) h)
def spec_l04Drawn.S (s_0 : Addr) (Post : Value → Heap → Prop) (h : Heap) : Prop :=
    ALC ⟨Z_impl_Pipe⟩ T_impl_Pipe (fun g1 h2 =>
    ALC ⟨[]⟩ T_int64 (fun g3 h4 =>
    ALC ⟨[]⟩ T_float32 (fun g5 h6 =>
    CALL prg f_p_spec_l00Src_pick #[.pointer (some s_0), .int .i64 (3 : Int)] (fun q7 h8 =>
    asI .i64 q7 fun n9 =>
    LOOP (spec_l04Drawn.B4 Post) (s_0, ⟨g1, 0, none⟩, (some ⟨g3, 0, none⟩), 0, 0, (some ⟨g5, 0, none⟩), 0, 0, ((IntKind.i64.wrap ((1 : Int) + n9)))) h8) h6) h4) h2) h
noncomputable def spec_l04Drawn.code : Code := (Tryz.f34.body).getD .skip
theorem spec_l04Drawn.call {s_0 : Addr} {Post : Value → Heap → Prop} {h : Heap} (H : spec_l04Drawn.S s_0 Post h) : CALL prg f_spec_l04Drawn #[.pointer (some s_0)] Post h :=
  fn_call tau_ok mixed (c := spec_l04Drawn.code) (Λ := lookL [(1000004, spec_l04Drawn.l4 Post), (15, spec_l04Drawn.j15 Post), (1000016, spec_l04Drawn.l16 Post)]) Tryz.func34 (by kernel_rfl) (by kernel_rfl)
    (Rq.seq (by kernel_rfl) (Rq.free (by kernel_rfl)) (Rq.seq (by kernel_rfl) (Rq.free (by kernel_rfl)) (Rq.seq (by kernel_rfl) (Rq.free (by kernel_rfl)) (Rq.seq (by kernel_rfl) (Rq.seq (by kernel_rfl) (Rq.free (by kernel_rfl)) (Rq.block (Rq.loop (spec_l04Drawn.l4 Post) (by kernel_rfl) (segL (g := spec_l04Drawn.g4) tau_ok mixed (Λ := fun N4 => lookL []) (fun _ _ _ => by kernel_rfl) (fun N4 => (Rq.free (by kernel_rfl))))))) (Rq.seq (by kernel_rfl) (Rq.free (by kernel_rfl)) (Rq.seq (by kernel_rfl) (Rq.free (by kernel_rfl)) (Rq.seq (by kernel_rfl) (Rq.free (by kernel_rfl)) (Rq.seqJ (spec_l04Drawn.j15 Post) (by kernel_rfl) (seg (fun _ _ => by kernel_rfl)) (Rq.free (by kernel_rfl))
(Rq.seq (by kernel_rfl) (Rq.seq (by kernel_rfl) (Rq.free (by kernel_rfl)) (Rq.block (Rq.loop (spec_l04Drawn.l16 Post) (by kernel_rfl) (segL (g := spec_l04Drawn.g16) tau_ok mixed (Λ := fun N16 => lookL []) (fun _ _ _ => by kernel_rfl) (fun N16 => (Rq.free (by kernel_rfl))))))) (Rq.free (by kernel_rfl)))))))))))
    (Eq.mp (by kernel_rfl) H)

def spec_P6Pipe.S (code_0b : Option Addr) (code_0l code_0c : Nat) (Post : Value → Heap → Prop) (h : Heap) : Prop :=
    ALC ⟨Z_impl_Pipe⟩ T_impl_Pipe (fun g1 h2 =>
    CALL prg f_spec_l00From #[.slice code_0b code_0l code_0c] (fun q3 h4 =>
    asP q3 fun p5 =>
    CALL prg f_spec_l04Drawn #[.pointer (some p5)] (fun q6 h7 =>
    asA q6 fun a8 =>
    STA 13 h7 ⟨g1, 0, none⟩ a8 fun h9 =>
    LDA 13 h9 ⟨g1, 0, none⟩ fun a10 =>
    Post (.agg a10) h9) h4) h2) h
noncomputable def spec_P6Pipe.code : Code := (Tryz.f6.body).getD .skip
theorem spec_P6Pipe.call {code_0b : Option Addr} {code_0l code_0c : Nat} {Post : Value → Heap → Prop} {h : Heap} (H : spec_P6Pipe.S code_0b code_0l code_0c Post h) : CALL prg f_spec_P6Pipe #[.slice code_0b code_0l code_0c] Post h :=
  fn_call tau_ok mixed (c := spec_P6Pipe.code) (Λ := lookL []) Tryz.func6 (by kernel_rfl) (by kernel_rfl)
    (Rq.free (by kernel_rfl))
    (Eq.mp (by kernel_rfl) H)

end Go.Sx
