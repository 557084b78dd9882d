/- Strings plucked. -/
import Derived.Test.YthhepeklpgefkaaGreatDoorLk43
import Derived.Test.YthhepeklpgefkaaGreatDoorK4
set_option linter.unusedVariables false
set_option linter.unusedSimpArgs false
namespace Go.Sx
open Go.Proofs Ieee
set_option maxRecDepth 100000
set_option maxHeartbeats 1000000

/-- Where the sample lies that is the i-th, the oldest being the first. -/
def turnAt (r : GRing) (i : Nat) : Nat := ((r.At + (i : Int)) % r.len).toNat
/-- A ring whose first i samples are changed. -/
def chg (f : Nat → Nat → Nat) (r : GRing) : Nat → GRing
  | 0 => r
  | i + 1 => ⟨(chg f r i).Samples.set (turnAt r i) (f i (chg f r i).Samples[turnAt r i]!), r.At⟩
theorem chg_at (f : Nat → Nat → Nat) (r : GRing) (i : Nat) : (chg f r i).At = r.At := by cases i <;> rfl
theorem chg_len (f : Nat → Nat → Nat) (r : GRing) : ∀ i, (chg f r i).Samples.length = r.Samples.length
  | 0 => rfl
  | i + 1 => by rw [chg, List.length_set]; exact chg_len f r i
theorem turn_lt {r : GRing} (h : r.ok = true) (i : Nat) : 0 ≤ (r.At + (i : Int)) % r.len ∧ turnAt r i < r.Samples.length ∧ (r.At + (i : Int)) % r.len < r.Samples.length := by
  obtain ⟨k1, k2, k3, k4, k5⟩ := at_lt h
  have hl : r.len = (r.Samples.length : Int) := rfl
  have h1 := Int.emod_nonneg (r.At + (i : Int)) (show r.len ≠ 0 by omega)
  have h2 := Int.emod_lt_of_pos (r.At + (i : Int)) (show 0 < r.len by omega)
  unfold turnAt
  refine ⟨h1, by omega, by omega⟩
def pluckD (n p f i : Nat) : Nat := fmul .f32 f (if flt .f32 (FloatKind.f32.nearest ((i : Nat) : Int)) p then fdiv .f32 (FloatKind.f32.nearest ((i : Nat) : Int)) p else fdiv .f32 (fsub .f32 n (FloatKind.f32.nearest ((i : Nat) : Int))) (fsub .f32 n p))
def pluckF (n p f i a : Nat) : Nat := fadd .f32 a (pluckD n p f i)
def GString.plucked (x : GString) (pl f : Nat) : GString := { x with Loop := chg (pluckF (FloatKind.f32.nearest ((x.Loop.Samples.length : Nat) : Int)) (fmul .f32 pl (FloatKind.f32.nearest ((x.Loop.Samples.length : Nat) : Int))) f) x.Loop x.Loop.Samples.length }
def GString.pluck (x : GString) (pl f : Nat) : GString × Int := if x.ok then if place pl then if fin f then (x.plucked pl f, 0) else (z_String, 2) else (z_String, 2) else (z_String, 1)
/-- A filter's cells by its parts. -/
def flT (v : Int × Nat × Nat × Nat × Nat × Nat) : List Value := flC v.1 v.2.1 v.2.2.1 v.2.2.2.1 v.2.2.2.2.1 v.2.2.2.2.2
theorem flat_Filter' : Flat rFilter := flat_via (flat_seq (flat_I _) (flat_seq (flat_arr _ (flat_F _)) (flat_arr _ (flat_F _))))
theorem filter_cells {h : Heap} {vs : List Value} {f : GFilter} (R : rFilter.rd h vs f) : ∃ v, vs = flT v ∧ rFilter.ow [] (flT v) f := by
  have O := flat_Filter' _ _ _ R
  obtain ⟨v1, r1, e1, e2, v2, v3, rfl, ⟨l2, R2⟩, ⟨l3, R3⟩⟩ := R
  have e2 : v1 = [.int .i64 f.Kind] := e2
  have l2 : f.C.length = 3 := l2
  have l3 : f.S.length = 2 := l3
  obtain ⟨p, q, r, hC⟩ : ∃ p q r, f.C = [p, q, r] := by
    match hf : f.C, l2 with
    | [p, q, r], _ => exact ⟨p, q, r, rfl⟩
  obtain ⟨s, t, hS⟩ : ∃ s t, f.S = [s, t] := by
    match hf : f.S, l3 with
    | [s, t], _ => exact ⟨s, t, rfl⟩
  have R2 : rds (rF .f32) h v2 f.C := R2
  have R3 : rds (rF .f32) h v3 f.S := R3
  rw [hC] at R2
  rw [hS] at R3
  obtain ⟨_, _, rfl, ⟨a, rfl, _⟩, _, _, rfl, ⟨b, rfl, _⟩, _, _, rfl, ⟨c, rfl, _⟩, rfl⟩ := R2
  obtain ⟨_, _, rfl, ⟨d, rfl, _⟩, _, _, rfl, ⟨e, rfl, _⟩, rfl⟩ := R3
  subst e2
  have hv : vs = flT (f.Kind, a, b, c, d, e) := by rw [e1]; rfl
  exact ⟨_, hv, by rw [← hv]; exact O⟩
def stL (b : Option Addr) (l c : Nat) (t : Int) (v1 v2 : Int × Nat × Nat × Nat × Nat × Nat) (y : Nat) : List Value := [.slice b l c, .int .i64 t] ++ (flT v1 ++ (flT v2 ++ [.float .f32 y]))
theorem string_cells {h : Heap} {cs : Array Value} {x : GString} (R : rString.rd h cs.toList x) : ∃ b l c v1 v2 y, cs = ⟨stL b l c x.Loop.At v1 v2 y⟩ ∧ SlR (rF .f32) h b l c x.Loop.Samples ∧ rFilter.ow [] (flT v1) x.Tune ∧ rFilter.ow [] (flT v2) x.Damp ∧ FW .f32 y x.Loss := by
  obtain ⟨w1, r1, e1, ⟨u1, u2, rfl, ⟨b, l, c, rfl, S⟩, hat⟩, w2, r2, rfl, F1, w3, w4, rfl, F2, ⟨y, rfl, Fy⟩⟩ := R
  have hat : u2 = [.int .i64 x.Loop.At] := hat
  subst hat
  obtain ⟨v1, rfl, O1⟩ := filter_cells F1
  obtain ⟨v2, rfl, O2⟩ := filter_cells F2
  exact ⟨b, l, c, v1, v2, y, by cases cs; simpa [stL] using e1, S, O1, O2, Fy⟩
theorem stL_one {b : Option Addr} {l c : Nat} {t : Int} {v1 v2 : Int × Nat × Nat × Nat × Nat × Nat} {y : Nat} : ∀ v ∈ (⟨stL b l c t v1 v2 y⟩ : Array Value).toList, v.oneCell' = true := all_one rfl
section
variable {h : Heap} {x a : Nat}
theorem l03Copy_c {q : Addr} {x : GString} (R : RdP rString h q x) (hl : x.Loop.Samples.length ≤ 1048576) : CALL prg f_spec_l03Copy #[.pointer (some q)] (fun u h' => NewR rString h h' u x) h := by
  refine spec_l03Copy.call ((Mem.start h).alc fun g1 h1 x1 M => ?_)
  have A : ∀ {hh : Heap}, Ext h hh → RdP rString hh q x := fun e => R.ext e
  refine (A M.ext).lda foc_String_Tune rfl fun a3 R3 => (A M.ext).lda foc_String_Damp rfl fun a4 R4 => (A M.ext).oF fun r5 h5 => ?_
  obtain ⟨v1, e3, O1⟩ := filter_cells R3
  obtain ⟨v2, e4, O2⟩ := filter_cells R4
  obtain rfl : a3 = ⟨flT v1⟩ := by cases a3; simpa using e3
  obtain rfl : a4 = ⟨flT v2⟩ := by cases a4; simpa using e4
  refine NewR.go (Mem.start h1) (l02Copy_c ((A M.ext).fst foc_String_Loop) hl) fun h7 a8 B8 N O8 s8 => ?_
  obtain ⟨b, l, c, rfl, OS⟩ := ring_cells O8
  have P : RdP rString h1 q x := A M.ext
  refine as_a (P.pinO (by decide) N.ext (P.pinO (by decide) N.ext (P.pinO (by decide) N.ext (siz rfl (siz rfl (siz rfl ?_))))))
  have M := (M.join N).cnt (W := (g1, T_impl_String, ⟨Z_impl_String⟩) :: B8) (fun p => by simp only [List.append_eq, cnt_app, cnt_cons, cnt_nil] at *; omega)
  exact M.sta0 .here rfl stL_one rfl .here fun h8 M => M.lda0 .here rfl ⟨_, B8, rfl, string_ow (x := x) OS O1 O2 h5, M.drop⟩
theorem String_clone_c {cs : Array Value} {x : GString} (R0 : rString.rd h cs.toList x) (hl : x.Loop.Samples.length ≤ 1048576) : CALL prg f_impl_String_clone #[.agg cs] (fun u h' => NewR rString h h' u x) h := by
  obtain ⟨b, l, c, v1, v2, y, rfl, S, O1, O2, hy⟩ := string_cells R0
  refine impl_String_clone.call ((Mem.start h).alc fun g1 h1 x1 M => M.alc fun g3 h2 x2 M => ?_)
  have R : RdP rString h2 ⟨g1, 0, none⟩ x := M.rdp (.there .here) (rString.ext M.ext R0)
  refine (R.fst foc_String_Loop).lda1 rfl fun a5 R5 => NewR.go M (Ring_clone_c R5 hl) fun h7 a8 B8 M O8 s8 => as_a ?_
  obtain ⟨b', l', c', rfl, OS⟩ := ring_cells O8
  have M := M.cnt (W := (g1, T_impl_String, ⟨stL b l c x.Loop.At v1 v2 y⟩) :: (g3, T_impl_String, ⟨Z_impl_String⟩) :: B8) (fun p => by simp only [List.append_eq, cnt_app, cnt_cons, cnt_nil] at *; omega)
  refine M.sta .here rfl (all_one rfl) (by show 0 + 2 ≤ 15; decide) .here fun h9 M => ?_
  have M : Mem h h9 ((g1, T_impl_String, ⟨stL b' l' c' x.Loop.At v1 v2 y⟩) :: (g3, T_impl_String, ⟨Z_impl_String⟩) :: B8) := M
  exact M.lda0 .here rfl (M.sta0 (.there .here) rfl stL_one rfl (.there .here) fun h10 M => M.lda0 (.there .here) rfl ⟨_, B8, rfl, string_ow (x := x) OS O1 O2 hy, M.drop.drop⟩)
theorem l03Add_c {h0 : Heap} {q : Addr} {F : Fr} {L : List Blk} {r : GRing} {i : Nat} {y d : Nat} (P : Pt rRing h0 h q F L r) (hr : r.ok = true) (hi : i < 1048576) (hy : FW .f32 y d) :
    CALL prg f_spec_l03Add #[.pointer (some q), .int .i64 (i : Int), .float .f32 y] (fun u h' => Pt rRing h0 h' q F L ⟨r.Samples.set (turnAt r i) (fadd .f32 r.Samples[turnAt r i]! d), r.At⟩) h := by
  obtain ⟨b, l, c, hb, S⟩ := P.hdr1
  obtain ⟨k1, k2, k3, k4, k5⟩ := at_lt hr
  obtain ⟨t1, t2, t3⟩ := turn_lt hr i
  have hl := S.len
  refine spec_l03Add.call (P.rd.oI (o_l hb (nz (by omega) (o_l hb (o_l hb ?_)))))
  have ht : Int.tmod (IntKind.i64.wrap (r.At + (i : Int))) (l : Int) = (r.At + (i : Int)) % r.len := by
    rw [wrap64 (by omega) (by omega), GRing.len, hl, Int.tmod_eq_emod_of_nonneg (by omega)]
  rw [ht]
  refine S.idx (by decide) t1 (by omega) fun p Rp => Rp.oF1 fun r8 h8 => fA h8 hy fun r9 h9 => pin_same ?_
  obtain ⟨a0, F', L', rfl, P', hs, close⟩ := P.elem1 hb (i := ((r.At + (i : Int)) % r.len).toNat) (by omega)
  exact idxs t1 (by omega) (P'.stF1 h9 fun h1 P1 => (close _ _ _ P1).1)
/-- A closure that gives a sample for an index and a sample. -/
def Does (h0 : Heap) (f : Value) (g : Nat → Nat → Nat) : Prop := ∀ (i r a : Nat) (h : Heap), Ext h0 h → i < 1048576 → FW .f32 r a → CALLD prg f #[.int .i64 (i : Int), .float .f32 r] (fun u h' => (∃ y, u = .float .f32 y ∧ FW .f32 y (g i a)) ∧ Ext h h') h
theorem changed_c {cs : Array Value} {x : GString} {f : Value} {g : Nat → Nat → Nat} (R0 : rString.rd h cs.toList x) (hr : x.Loop.ok = true) (D : Does h f g) :
    CALL prg f_impl_String_changed #[.agg cs, f] (fun u h' => NewR rString h h' u { x with Loop := chg g x.Loop x.Loop.Samples.length }) h := by
  obtain ⟨k1, k2, k3, k4, k5⟩ := at_lt hr
  refine impl_String_changed.call ((Mem.start h).alc fun g1 h1 x1 M => M.alc fun g3 h2 x2 M => M.lda0 (.there .here) (rsz R0 rfl) (NewR.go M (String_clone_c (rString.ext M.ext R0) (by omega)) fun h7 a8 B8 M O8 s8 => as_a ?_))
  have M := M.cnt (W := (g1, T_impl_String, cs) :: (B8 ++ [(g3, T_impl_String, ⟨Z_impl_String⟩)])) (fun p => by simp only [List.append_eq, cnt_app, cnt_cons, cnt_nil] at *; omega)
  refine M.sta0 .here s8 (rString.oone O8) (rsz R0 rfl) .here fun h9 M => ?_
  have P : Pt rString h h9 ⟨g1, 0, none⟩ ⟨g1, T_impl_String, [], []⟩ [(g3, T_impl_String, ⟨Z_impl_String⟩)] x := Pt.new O8 M
  obtain ⟨b, l, c, hb, S⟩ := P.hdr1
  have hl := S.len
  refine o_l hb ?_
  refine loop (fun y hh => ∃ i : Nat, y = (f, ⟨g1, 0, none⟩, ⟨g3, 0, none⟩, (l : Int), (l : Int), (i : Int)) ∧ i ≤ l ∧ Pt rString h hh ⟨g1, 0, none⟩ ⟨g1, T_impl_String, [], []⟩ [(g3, T_impl_String, ⟨Z_impl_String⟩)] { x with Loop := chg g x.Loop i })
    (fun y => (l - y.2.2.2.2.2).toNat) ⟨0, rfl, by omega, P⟩ ?_
  rintro y hh ⟨i, rfl, hi, P⟩
  unfold impl_String_changed.B4
  refine brd (fun hc => ?_) fun hc => ?_
  · obtain ⟨t1, t2, t3⟩ := turn_lt hr i
    have ht : Int.tmod (IntKind.i64.wrap (x.Loop.At + (i : Int))) (l : Int) = (x.Loop.At + (i : Int)) % x.Loop.len := by
      rw [wrap64 (by omega) (by omega), GRing.len, hl, Int.tmod_eq_emod_of_nonneg (by omega)]
    obtain ⟨b', l', c', hb', S'⟩ := P.hdr1
    have hl' := S'.len
    have hl' : x.Loop.Samples.length = l' := by rw [← hl']; exact (chg_len g x.Loop i).symm
    refine P.rd.oI (nz (by omega) (o_l hb' (o_l hb' ?_)))
    show IDXS b' (Int.tmod (IntKind.i64.wrap ((chg g x.Loop i).At + (i : Int))) (l : Int)) l' _
    rw [chg_at, ht]
    refine S'.idx (by decide) t1 (by omega) fun p Rp => Rp.oF1 fun r17 h17 => ?_
    refine CALLD.mono ?_ (D i r17 _ hh P.ext (by omega) h17)
    rintro _ h19 ⟨⟨r20, rfl, h20⟩, x19⟩
    refine as_f ((P.rd.fst foc_String_Loop |>.fst foc_Ring_Samples).pin rfl x19 ?_)
    have P := P.grow x19
    have hb19 := cell_ext hb' x19
    obtain ⟨a0, F', L', rfl, P', hs, close⟩ := P.elem1 hb19 (i := ((x.Loop.At + (i : Int)) % x.Loop.len).toNat) (by omega)
    refine idxs t1 (by omega) (P'.stF1 h20 fun h22 P1 => ⟨⟨i + 1, by rw [wrap64_succ (by omega)], by omega, ?_⟩, by rw [wrap64_succ (by omega)]; show _ < _; simp; omega⟩)
    have P2 : Pt rString h h22 ⟨g1, 0, none⟩ ⟨g1, T_impl_String, [], []⟩ [(g3, T_impl_String, ⟨Z_impl_String⟩)] { x with Loop := ⟨(chg g x.Loop i).Samples.set (turnAt x.Loop i) (g i (chg g x.Loop i).Samples[turnAt x.Loop i]!), (chg g x.Loop i).At⟩ } := (close _ _ _ P1).1
    rw [chg_at] at P2
    exact P2
  · obtain rfl : i = l := by omega
    obtain ⟨cs', B', M', O'⟩ := P.out
    refine M'.lda0 .here (osz O' rfl) ?_
    have M' := M'.cnt (W := (g3, T_impl_String, ⟨Z_impl_String⟩) :: B') (fun p => by simp only [cnt_app, cnt_cons, cnt_nil] at *; omega)
    rw [hl]
    exact M'.sta0 .here (osz O' rfl) (rString.oone O') rfl .here fun h3 M => M.lda0 .here (osz O' rfl) ⟨_, B', rfl, O', M.drop⟩
theorem pluck_no {x : GString} {pl f : Nat} {k : Int} {g : Nat} {hh : Heap} {L : List Blk} (M : Mem h hh ((g, T_impl_String, ⟨Z_impl_String⟩) :: L)) (e : x.pluck pl f = (z_String, k)) :
    STA 15 hh ⟨g, 0, none⟩ ⟨Z_impl_String⟩ fun h8 => LDA 15 h8 ⟨g, 0, none⟩ fun a9 => PairR rString h h8 (.tuple ⟨[.agg a9, .int .i64 k]⟩) (x.pluck pl f).1 (x.pluck pl f).2 := by
  rw [e]
  exact M.sta0 .here rfl (all_one rfl) rfl .here fun h3 M => M.lda0 .here rfl ⟨_, [], rfl, zow_String, (Mem.start h).grow M.ext⟩
theorem gstr_ring {x : GString} (h : x.ok = true) : x.Loop.ok = true := by
  unfold GString.ok at h
  simp only [Bool.and_eq_true] at h
  exact h.1.1.1
theorem spec_PluckString_c {cs : Array Value} {x : GString} {y z pl f : Nat} (R0 : rString.rd h cs.toList x) (hp : FW .f32 y pl) (hf : FW .f32 z f) :
    CALL prg f_spec_PluckString #[.agg cs, .float .f32 y, .float .f32 z] (fun u h' => PairR rString h h' u (x.pluck pl f).1 (x.pluck pl f).2) h := by
  refine spec_PluckString.call ((Mem.start h).alc fun g1 h1 x1 M => M.alc fun g3 h2 x2 M => ?_)
  have R : RdP rString h2 ⟨g1, 0, none⟩ x := M.rdp (.there .here) (rString.ext M.ext R0)
  refine goM M (l03Ok_c R) fun h3 M => as_b (brN (fun e => pluck_no M (by rw [GString.pluck, e]; rfl)) fun e1 => ?_)
  rw [ord_eq hp fw0, ord_eq hp c1]
  refine br (fun k1 => brN (fun k2 => pluck_no M (by rw [GString.pluck, e1, place, fge, flt, k1, k2]; rfl)) fun k2 => ?_) fun k1 => pluck_no M (by rw [GString.pluck, e1, place, fge, k1]; rfl)
  have e2 : place pl = true := by rw [place, fge, flt, k1, k2]; rfl
  refine goM M (l01Finite_c hf _) fun h4 M => as_b (brN (fun e => pluck_no M (by rw [GString.pluck, e1, e2, e]; rfl)) fun e3 => ?_)
  have fine : x.pluck pl f = (x.plucked pl f, 0) := by rw [GString.pluck, e1, e2, e3]; rfl
  rw [fine]
  have hr := gstr_ring e1
  obtain ⟨k1, k2, k3, k4, k5⟩ := at_lt hr
  unfold spec_PluckString.J5
  have R4 : RdP rString h4 ⟨g1, 0, none⟩ x := M.rdp (.there .here) (rString.ext M.ext R0)
  refine NewR.go M (l03Copy_c R4 (by omega)) fun h5 c5 B5 M O5 s5 => as_a (M.alc fun g22 h6 x6 M => M.sta0 .here s5 (rString.oone O5) rfl .here fun h7 M => ?_)
  have P : Pt rString h h7 ⟨g22, 0, none⟩ ⟨g22, T_impl_String, [], []⟩ [(g3, T_impl_String, ⟨Z_impl_String⟩), (g1, T_impl_String, cs)] x := Pt.new O5 M
  have A : ∀ {hh : Heap} {W : GString}, Pt rString h hh ⟨g22, 0, none⟩ ⟨g22, T_impl_String, [], []⟩ [(g3, T_impl_String, ⟨Z_impl_String⟩), (g1, T_impl_String, cs)] W → RdP rString hh ⟨g1, 0, none⟩ x := fun P => P.mem.rdp (.there .here) (rString.ext P.ext R0)
  refine (A P).oL1 fun b l c S => fM hp (fw_nearest .f32 _) fun r28 h28 => ?_
  have hl := S.len
  have S : x.Loop.Samples.length = l := hl
  refine loop (fun w hh => ∃ i : Nat, w = (z, ⟨g1, 0, none⟩, ⟨g3, 0, none⟩, ⟨g22, 0, none⟩, FloatKind.f32.nearest (l : Int), r28, (i : Int)) ∧ i ≤ l ∧ Pt rString h hh ⟨g22, 0, none⟩ ⟨g22, T_impl_String, [], []⟩ [(g3, T_impl_String, ⟨Z_impl_String⟩), (g1, T_impl_String, cs)] { x with Loop := chg (pluckF (FloatKind.f32.nearest (l : Int)) (fmul .f32 pl (FloatKind.f32.nearest (l : Int))) f) x.Loop i })
    (fun w => (l - w.2.2.2.2.2.2).toNat) ⟨0, rfl, by omega, P⟩ ?_
  rintro w hh ⟨i, rfl, hi, P⟩
  unfold spec_PluckString.B9
  refine (A P).oL1 fun b' l' c' S' => ?_
  have hl' : x.Loop.Samples.length = l' := S'.len
  have hll : l' = l := by omega
  subst hll
  have hri : (chg (pluckF (FloatKind.f32.nearest (l' : Int)) (fmul .f32 pl (FloatKind.f32.nearest (l' : Int))) f) x.Loop i).ok = true := by
    rw [GRing.ok, GRing.len, chg_at, chg_len]; exact hr
  have next : ∀ {d : Nat}, d = pluckD (FloatKind.f32.nearest (l' : Int)) (fmul .f32 pl (FloatKind.f32.nearest (l' : Int))) f i → i < l' → ∀ {y9 : Nat}, FW .f32 y9 d → ∀ {K : Value → Heap → Prop},
      (∀ u h', Pt rString h h' ⟨g22, 0, none⟩ ⟨g22, T_impl_String, [], []⟩ [(g3, T_impl_String, ⟨Z_impl_String⟩), (g1, T_impl_String, cs)] { x with Loop := chg (pluckF (FloatKind.f32.nearest (l' : Int)) (fmul .f32 pl (FloatKind.f32.nearest (l' : Int))) f) x.Loop (i + 1) } → K u h') →
      CALL prg f_spec_l03Add #[.pointer (some ⟨g22, 0, none⟩), .int .i64 (i : Int), .float .f32 y9] K hh := by
    intro d hd hil y9 hy9 K H
    obtain ⟨F', L', P', hs, close⟩ := P.foc foc_String_Loop
    rw [add0] at P'
    refine (l03Add_c P' hri (by omega) hy9).mono fun u h' P1 => H u h' ?_
    have P2 := close _ _ _ (by rw [add0]; exact P1)
    have et : ∀ r : GRing, r.Samples.length = x.Loop.Samples.length → r.At = x.Loop.At → turnAt r i = turnAt x.Loop i := fun r h1 h2 => by unfold turnAt GRing.len; rw [h1, h2]
    have e4 := et (chg (pluckF (FloatKind.f32.nearest (l' : Int)) (fmul .f32 pl (FloatKind.f32.nearest (l' : Int))) f) x.Loop i) (chg_len _ _ _) (chg_at _ _ _)
    have P2 : Pt rString h h' ⟨g22, 0, none⟩ ⟨g22, T_impl_String, [], []⟩ [(g3, T_impl_String, ⟨Z_impl_String⟩), (g1, T_impl_String, cs)] { x with Loop := ⟨(chg (pluckF (FloatKind.f32.nearest (l' : Int)) (fmul .f32 pl (FloatKind.f32.nearest (l' : Int))) f) x.Loop i).Samples.set (turnAt (chg (pluckF (FloatKind.f32.nearest (l' : Int)) (fmul .f32 pl (FloatKind.f32.nearest (l' : Int))) f) x.Loop i) i) (fadd .f32 (chg (pluckF (FloatKind.f32.nearest (l' : Int)) (fmul .f32 pl (FloatKind.f32.nearest (l' : Int))) f) x.Loop i).Samples[turnAt (chg (pluckF (FloatKind.f32.nearest (l' : Int)) (fmul .f32 pl (FloatKind.f32.nearest (l' : Int))) f) x.Loop i) i]! d), (chg (pluckF (FloatKind.f32.nearest (l' : Int)) (fmul .f32 pl (FloatKind.f32.nearest (l' : Int))) f) x.Loop i).At⟩ } := P2
    rw [e4, chg_at, hd] at P2
    exact P2
  have done : ∀ {h' : Heap}, Pt rString h h' ⟨g22, 0, none⟩ ⟨g22, T_impl_String, [], []⟩ [(g3, T_impl_String, ⟨Z_impl_String⟩), (g1, T_impl_String, cs)] { x with Loop := chg (pluckF (FloatKind.f32.nearest (l' : Int)) (fmul .f32 pl (FloatKind.f32.nearest (l' : Int))) f) x.Loop (i + 1) } → i < l' →
      ((∃ i' : Nat, (z, (⟨g1, 0, none⟩ : Addr), (⟨g3, 0, none⟩ : Addr), (⟨g22, 0, none⟩ : Addr), FloatKind.f32.nearest (l' : Int), r28, IntKind.i64.wrap ((i : Int) + 1)) = (z, ⟨g1, 0, none⟩, ⟨g3, 0, none⟩, ⟨g22, 0, none⟩, FloatKind.f32.nearest (l' : Int), r28, (i' : Int)) ∧ i' ≤ l' ∧ Pt rString h h' ⟨g22, 0, none⟩ ⟨g22, T_impl_String, [], []⟩ [(g3, T_impl_String, ⟨Z_impl_String⟩), (g1, T_impl_String, cs)] { x with Loop := chg (pluckF (FloatKind.f32.nearest (l' : Int)) (fmul .f32 pl (FloatKind.f32.nearest (l' : Int))) f) x.Loop i' }) ∧ ((l' : Int) - IntKind.i64.wrap ((i : Int) + 1)).toNat < ((l' : Int) - i).toNat) := fun P hil =>
    ⟨⟨i + 1, by rw [wrap64_succ (by omega)], by omega, P⟩, by rw [wrap64_succ (by omega)]; omega⟩
  refine brd (fun hc => ?_) fun hc => ?_
  · rw [ord_eq (fw_nearest .f32 _) h28]
    refine br (fun kk => fD (fw_nearest .f32 _) h28 fun r32 h32 => fM hf h32 fun r33 h33 => next (by unfold pluckD flt; rw [if_pos kk]) (by omega) h33 fun u h' P => done P (by omega)) fun kk => ?_
    refine fS (fw_nearest .f32 _) (fw_nearest .f32 _) fun r36 h36 => fS (fw_nearest .f32 _) h28 fun r37 h37 => fD h36 h37 fun r38 h38 => fM hf h38 fun r39 h39 => next (by unfold pluckD flt; rw [kk]; rfl) (by omega) h39 fun u h' P => done P (by omega)
  · obtain rfl : i = l' := by omega
    obtain ⟨cs', B', M', O'⟩ := P.out
    refine M'.lda0 .here (osz O' rfl) ?_
    have M' := M'.cnt (W := (g3, T_impl_String, ⟨Z_impl_String⟩) :: B') (fun p => by simp only [cnt_app, cnt_cons, cnt_nil] at *; omega)
    refine M'.sta0 .here (osz O' rfl) (rString.oone O') rfl .here fun h3 M => M.lda0 .here (osz O' rfl) ⟨_, B', rfl, ?_, M.drop⟩
    have : x.plucked pl f = { x with Loop := chg (pluckF (FloatKind.f32.nearest (i : Int)) (fmul .f32 pl (FloatKind.f32.nearest (i : Int))) f) x.Loop i } := by unfold GString.plucked; rw [S]
    rw [this]; exact O'
theorem pluck_does {g1 g2 g3 n p f r1 r2 r3 : Nat} {h0 : Heap} (hn : RdP (rF .f32) h0 ⟨g3, 0, none⟩ n) (hp : RdP (rF .f32) h0 ⟨g1, 0, none⟩ p) (hf : RdP (rF .f32) h0 ⟨g2, 0, none⟩ f) :
    Does h0 (.func (.func f_impl_PluckString_c1) #[] #[.pointer (some ⟨g1, 0, none⟩), .pointer (some ⟨g2, 0, none⟩), .pointer (some ⟨g3, 0, none⟩)]) (pluckF n p f) := fun i r a h X hi hr => by
  show CALL prg f_impl_PluckString_c1 #[.int .i64 (i : Int), .float .f32 r, .pointer (some ⟨g1, 0, none⟩), .pointer (some ⟨g2, 0, none⟩), .pointer (some ⟨g3, 0, none⟩)] _ h
  have N := hn.ext X
  have Q := hp.ext X
  have R := hf.ext X
  refine impl_PluckString_c1.call (Q.oF1 fun y1 h1 => ?_)
  rw [ord_eq (fw_nearest .f32 _) h1]
  refine br (fun kk => R.oF1 fun y2 h2 => Q.oF1 fun y3 h3 => fD (fw_nearest .f32 _) h3 fun r4 h4 => fM h2 h4 fun r5 h5 => fA hr h5 fun r6 h6 => ⟨⟨r6, rfl, ?_⟩, Ext.refl _⟩) fun kk => ?_
  · unfold pluckF pluckD flt
    rw [if_pos kk]; exact h6
  · refine R.oF1 fun y2 h2 => N.oF1 fun y3 h3 => fS h3 (fw_nearest .f32 _) fun r9 h9 => N.oF1 fun y4 h4 => Q.oF1 fun y5 h5 => fS h4 h5 fun r12 h12 => fD h9 h12 fun r13 h13 => fM h2 h13 fun r14 h14 => fA hr h14 fun r15 h15 => ⟨⟨r15, rfl, ?_⟩, Ext.refl _⟩
    unfold pluckF pluckD flt
    rw [kk]; exact h15
theorem PluckString_c {cs : Array Value} {x : GString} {y z pl f : Nat} (R0 : rString.rd h cs.toList x) (hp : FW .f32 y pl) (hf : FW .f32 z f) :
    CALL prg f_impl_PluckString #[.agg cs, .float .f32 y, .float .f32 z] (fun u h' => PairR rString h h' u (x.pluck pl f).1 (x.pluck pl f).2) h := by
  refine impl_PluckString.call ((Mem.start h).alc fun g1 h1 x1 M => M.alc fun g3 h2 x2 M => M.alc fun g5 h3 x3 M => M.lda0 (.there (.there .here)) (rsz R0 rfl) ?_)
  have fw : ∀ {y a : Nat}, FW .f32 y a → ∀ {hh : Heap}, (rF .f32).rd hh [.float .f32 y] a := fun hy _ => ⟨_, rfl, hy⟩
  refine goM M (ValidString_c (rString.ext M.ext R0)) fun h4 M => as_b (brN (fun e => pluck_no M (by rw [GString.pluck, e]; rfl)) fun e1 => ?_)
  refine goM M (isPlace_c hp _) fun h5 M => as_b (brN (fun e => pluck_no M (by rw [GString.pluck, e1, e]; rfl)) fun e2 => ?_)
  have RF : RdP (rF .f32) h5 ⟨g3, 0, none⟩ f := M.rdp (.there .here) (fw hf)
  refine RF.oF1 fun r18 h18 => goM M (isFinite_c h18 _) fun h6 M => as_b (brN (fun e => pluck_no M (by rw [GString.pluck, e1, e2, e]; rfl)) fun e3 => ?_)
  have fine : x.pluck pl f = (x.plucked pl f, 0) := by rw [GString.pluck, e1, e2, e3]; rfl
  rw [fine]
  have hr := gstr_ring e1
  unfold impl_PluckString.J5
  have R6 : RdP rString h6 ⟨g1, 0, none⟩ x := M.rdp (.there (.there .here)) (rString.ext M.ext R0)
  refine R6.oL1 fun b l c S => M.alc fun g27 h7 x7 M => M.st1 .here (by decide) .here fun h8 M => ?_
  have hl : x.Loop.Samples.length = l := S.len
  have M : Mem h h8 ((g27, T_float32, ⟨[.float .f32 (FloatKind.f32.nearest (l : Int))]⟩) :: _) := M
  have RN : RdP (rF .f32) h8 ⟨g27, 0, none⟩ (FloatKind.f32.nearest (l : Int)) := M.rdp .here (fw (fw_nearest .f32 _))
  refine RN.oF1 fun r30 h30 => fM hp h30 fun r31 h31 => M.alc fun g32 h9 x9 M => M.st1 .here (by decide) .here fun h10 M => ?_
  have M : Mem h h10 ((g32, T_float32, ⟨[.float .f32 r31]⟩) :: (g27, T_float32, ⟨[.float .f32 (FloatKind.f32.nearest (l : Int))]⟩) :: _) := M
  have D := pluck_does (r1 := 0) (r2 := 0) (r3 := 0) (M.rdp (.there .here) (fw (fw_nearest .f32 (l : Int)))) (M.rdp .here (fw h31)) (M.rdp (.there (.there (.there .here))) (fw hf))
  refine M.lda0 (.there (.there (.there (.there .here)))) (rsz R0 rfl) (NewR.go M (changed_c (rString.ext M.ext R0) hr D) fun h11 c11 B11 M O11 s11 => as_a ?_)
  have M := M.cnt (W := (g5, T_impl_String, ⟨Z_impl_String⟩) :: B11) (fun p => by simp only [List.append_eq, cnt_app, cnt_cons, cnt_nil] at *; omega)
  refine M.sta0 .here s11 (rString.oone O11) rfl .here fun h12 M => M.lda0 .here s11 ⟨_, B11, rfl, ?_, M.drop⟩
  have : x.plucked pl f = { x with Loop := chg (pluckF (FloatKind.f32.nearest (l : Int)) (fmul .f32 pl (FloatKind.f32.nearest (l : Int))) f) x.Loop x.Loop.Samples.length } := by unfold GString.plucked; rw [hl]
  rw [this]; exact O11
end
end Go.Sx
