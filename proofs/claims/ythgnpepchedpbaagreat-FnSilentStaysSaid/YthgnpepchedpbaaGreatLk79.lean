/- Drawn jets are valid. -/
import Derived.Test.YthgnpepchedpbaaGreatLk78
import Derived.Test.YthgnpepchedpbaaGreatLk72
import Derived.Test.YthgnpepchedpbaaGreatLk54
import Derived.Test.YthgnpepchedpbaaGreatLs1
import Derived.Test.YthgnpepchedpbaaGreatLr6
import Derived.Test.YthgnpepchedpbaaGreatTab
set_option linter.unusedVariables false
set_option linter.unusedSimpArgs false
namespace Go.Sx
open Go.Proofs
set_option maxRecDepth 100000
set_option maxHeartbeats 4000000

def dcF : GFilter := ⟨5, [1065269330, 0, 0], [0, 0]⟩
theorem dc_ok : (dcF.ok && dcF.Kind == 5) = true := by decide +kernel
def edgeIn (a : Nat) : Bool := fge .f32 a 3212836864 && fle .f32 a 1065353216
theorem edge_in {v : Int} (h0 : -8 ≤ v) (h1 : v < 9) : edgeIn (keepW v) = true := by
  have A : (List.range 17).all (fun v => edgeIn (keepW ((v : Int) - 8))) = true := by decide +kernel
  obtain ⟨n, hn⟩ := Int.eq_ofNat_of_zero_le (show 0 ≤ v + 8 by omega)
  have := List.all_eq_true.1 A n (List.mem_range.2 (by omega))
  rwa [show ((n : Nat) : Int) - 8 = v by omega] at this
def jetOf (t b k n f : Nat) : GJet := { Throat := ⟨List.replicate t 0, 0⟩, Bore := ⟨List.replicate b 0, 0⟩, Low := onePole k, Dc := dcF, Near := n, Far := f }
theorem jetOf_ok {t b k n f : Nat} (t0 : 1 ≤ t) (t1 : t ≤ 1024) (b0 : 1 ≤ b) (b1 : b ≤ 1024) (hk : place k = true) (hn : fin n = true) (hf : fin f = true) : (jetOf t b k n f).ok = true := by
  have e1 : (jetOf t b k n f).Throat.okf = true := silence_okf (n := (t : Int)) (by simp only [inR, Bool.and_eq_true, decide_eq_true_eq]; omega)
  have e2 : (jetOf t b k n f).Bore.okf = true := silence_okf (n := (b : Int)) (by simp only [inR, Bool.and_eq_true, decide_eq_true_eq]; omega)
  have e3 : ((jetOf t b k n f).Low.ok && (jetOf t b k n f).Low.Kind == 1) = true := onePole_ok hk
  have e4 : ((jetOf t b k n f).Dc.ok && (jetOf t b k n f).Dc.Kind == 5) = true := dc_ok
  have e5 : fin (jetOf t b k n f).Near = true := hn
  have e6 : fin (jetOf t b k n f).Far = true := hf
  unfold GJet.ok
  rw [e1, e2, e3, e4, e5, e6]; rfl
section
variable {h0 h h' : Heap} {L W : List Blk} {g : Nat} {cb : Option Addr} {cc K : Nat} {xs : List Int} {n : Int}
theorem BlockDc_c : CALL prg f_spec_BlockDc #[.float .f32 1065269330] (fun u h' => FlR u dcF ∧ Ext h h') h :=
  spec_BlockDc.call ((Mem.start h).alc fun g1 h1 x1 M => siz rfl (M.sta0 .here rfl (all_one rfl) rfl .here fun h3' M => M.lda0 .here rfl ⟨⟨5, 1065269330, 0, rfl, filter_ow (fw_c32 (by decide) (by decide)) fw0 fw0 fw0 fw0⟩, M.ext⟩))
theorem goFl {P : Program} {f : FuncId} {args : Array Value} {fl : GFilter} {hb hh : Heap} {L : List Blk} {K : Value → Heap → Prop} (M : Mem hb hh L) (k : CALL P f args (fun u h' => FlR u fl ∧ Ext hh h') hh)
    (H : ∀ h' kk y z, Mem hb h' L → rFilter.ow [] (flC kk y z 0 0 0) fl → K (.agg ⟨flC kk y z 0 0 0⟩) h') : CALL P f args K hh :=
  k.mono fun u h' ⟨⟨kk, y, z, e, O⟩, X⟩ => by subst e; exact H h' kk y z (M.grow X) O
theorem newJet_c {t b : Nat} {k n f k' n' f' : Nat} (t0 : 1 ≤ t) (t1 : t ≤ 1024) (b0 : 1 ≤ b) (b1 : b ≤ 1024) (hk : FW .f32 k k') (hn : FW .f32 n n') (hf : FW .f32 f f') (pk : place k' = true) (en : edgeIn n' = true) (ef : edgeIn f' = true) (fn : fin n' = true) (ff : fin f' = true) :
    CALL prg f_spec_NewJet #[.int .i64 (t : Int), .int .i64 (b : Int), .float .f32 k, .float .f32 n, .float .f32 f] (fun u h' => NewOk rJet GJet.ok h h' u) h := by
  have ht : inR (t : Int) 1 1024 = true := by simp only [inR, Bool.and_eq_true, decide_eq_true_eq]; omega
  have hb : inR (b : Int) 1 1024 = true := by simp only [inR, Bool.and_eq_true, decide_eq_true_eq]; omega
  have hok := jetOf_ok t0 t1 b0 b1 pk fn ff
  refine spec_NewJet.call ((Mem.start h).alc fun g1 h1 x1 M => goM M (l00In_c _ _ _ _) fun h2 M => as_b ?_)
  rw [ht]
  refine br_f rfl (goM M (l00In_c _ _ _ _) fun h3 M => as_b ?_)
  rw [hb]
  refine br_f rfl ?_
  have cm : FW .f32 3212836864 3212836864 := fw_c32 (by decide) (by decide)
  unfold place at pk
  have pk' := pk
  unfold fge flt at pk'
  unfold edgeIn fge fle at en ef
  rw [Bool.and_eq_true] at en ef pk'
  rw [ord_eq hk fw0, ord_eq hk c1, pk'.1, pk'.2, ord_eq hn cm, ord_eq hn c1, en.1, en.2, ord_eq hf cm, ord_eq hf c1, ef.1, ef.2]
  refine br_t rfl (br_f rfl (br_t rfl (br_f rfl (br_t rfl (br_f rfl ?_)))))
  have fin : ∀ {hh : Heap} {B1 B2 : List Blk} {g1' g2' : Nat} {v w : List Value}, Mem h hh ((g1, T_impl_Jet, ⟨Z_impl_Jet⟩) :: (B1 ++ B2)) → SlO T_float32 (rF .f32) B1 (some ⟨g1', 0, none⟩) t t (List.replicate t 0) → SlO T_float32 (rF .f32) B2 (some ⟨g2', 0, none⟩) b b (List.replicate b 0) → rFilter.ow [] v (onePole k') → rFilter.ow [] w dcF →
      STA 18 hh ⟨g1, 0, none⟩ ⟨[.slice (some ⟨g1', 0, none⟩) t t, .int .i64 (0 : Int)] ++ ([.slice (some ⟨g2', 0, none⟩) b b, .int .i64 (0 : Int)] ++ (v ++ (w ++ [.float .f32 n, .float .f32 f])))⟩ fun h34 => LDA 18 h34 ⟨g1, 0, none⟩ fun a35 => NewOk rJet GJet.ok h h34 (.tuple ⟨[.agg a35, .int .i64 (0 : Int)]⟩) := fun M O1 O2 hv hw => by
    have O := jet_ow (x := jetOf t b k' n' f') O1 O2 hv hw hn hf
    exact M.sta0 .here (rJet.olen O) (rJet.oone O) rfl .here fun h34 M => M.lda0 .here (rJet.olen O) ⟨_, _, _, rfl, O, hok, M.drop⟩
  unfold spec_NewJet.J3
  simp only [Int.toNat_natCast]
  have C1 : ∀ {hh : Heap}, CALL prg f_spec_OnePole #[.float .f32 k] (fun u h' => FlR u (onePole k') ∧ Ext hh h') hh := spec_OnePole_c hk
  clear hk cm pk pk' en ef ht hb fn ff hn hf hok
  (repeat' (first
    | refine make_z (n := t) M (by omega) fun gt ht Bt xt M OT => ?_
    | refine make_z (n := b) M (by omega) fun gb hb Bb xb M OB => ?_
    | refine goFl M C1 fun hp kp yp zp M OP => as_a ?_
    | refine goFl M BlockDc_c fun hd kd yd zd M OD => as_a ?_
    | exact siz rfl (siz rfl (siz rfl (siz rfl (fin (M.cnt (fun p => by simp only [cnt_app, cnt_cons, cnt_nil]; omega)) OT OB OP OD))))
    | refine And.intro ?_ ?_))
theorem l05DrawnJet_c (S : Src h0 h L g cb xs.length cc 0) (C : Cells h0 cb (iv .u8 xs)) (hb : Byt' xs) : CALL prg f_spec_l05DrawnJet #[.pointer (some ⟨g, 0, none⟩)] (fun u h' => Drawn rJet GJet.ok h0 h' L u) h := by
  refine spec_l05DrawnJet.call (S.alc fun t h1 S => (pick_c S C hb (by omega)).mono ?_)
  rintro _ h2 ⟨a, rfl, a1, a2, a3, S⟩
  refine as_i ((pick_c S C hb (by omega)).mono ?_)
  rintro _ h3 ⟨b, rfl, b1, b2, b3, S⟩
  refine as_i ((pick_c S C hb (by omega)).mono ?_)
  rintro _ h4 ⟨k, rfl, k1, k2, k3, S⟩
  refine as_i (fD (fw_nearest .f32 k) (fw_c32 (by decide) (by decide)) fun r12 k12 => (pick_c S C hb (by omega)).mono ?_)
  rintro _ h5 ⟨n, rfl, n1, n2, n3, S⟩
  refine as_i ?_
  rw [wrap64 (n := n - 8) (by omega) (by omega)]
  refine fD (fw_nearest .f32 (n - 8)) (fw_c32 (by decide) (by decide)) fun r16 k16 => (pick_c S C hb (by omega)).mono ?_
  rintro _ h6 ⟨f, rfl, f1, f2, f3, S⟩
  refine as_i ?_
  rw [wrap64 (n := f - 8) (by omega) (by omega)]
  refine fD (fw_nearest .f32 (f - 8)) (fw_c32 (by decide) (by decide)) fun r20 k20 => ?_
  rw [wrap64 (n := 1 + a) (by omega) (by omega), wrap64 (n := 1 + b) (by omega) (by omega)]
  obtain ⟨ta, hta⟩ : ∃ ta : Nat, (ta : Int) = 1 + a := ⟨(1 + a).toNat, by omega⟩
  obtain ⟨tb, htb⟩ : ∃ tb : Nat, (tb : Int) = 1 + b := ⟨(1 + b).toNat, by omega⟩
  rw [← hta, ← htb]
  refine NewOk.go (newJet_c (t := ta) (b := tb) (by omega) (by omega) (by omega) (by omega) k12 k16 k20 (keep_place k1 (by omega)) (edge_in (by omega) (by omega)) (edge_in (by omega) (by omega)) (keep_fin (by omega) (by omega)) (keep_fin (by omega) (by omega))) fun h7 c7 B7 x7 O7 hx N => tup2 (as_a (as_i ((S.joinG N).alc fun r h8 S => ?_)))
  refine S.sta (osz O7 rfl) (rJet.oone O7) rfl fun h9 S => (pick_c S C hb (by omega)).mono ?_
  rintro _ h10 ⟨i, rfl, i1, i2, i3, S⟩
  refine as_i ?_
  refine loop (fun y hh => ∃ (j : Int) (x : GJet), y = (⟨g, 0, none⟩, ⟨t, 0, none⟩, ⟨r, 0, none⟩, j) ∧ 0 ≤ j ∧ j ≤ i ∧ x.ok = true ∧ DG rJet T_impl_Jet h0 hh ((t, T_impl_Jet, ⟨Z_impl_Jet⟩) :: L) g cb xs.length cc (1000 - 2 * j.toNat) r x) (fun y => y.2.2.2.toNat)
    ⟨i, x7, rfl, i1, by omega, hx, c7, B7, O7, S.mono (by omega)⟩ ?_
  rintro y hh ⟨i, x, rfl, hi, hiv, hx, D⟩
  refine brd (fun hc => ?_) fun hc => ?_
  · obtain ⟨cs, B, O, S⟩ := D
    refine (l01Plain_c S C hb (by omega)).mono ?_
    rintro _ h3 ⟨y, u, rfl, u1, u2, hy, S⟩
    obtain ⟨p, st, hp, P⟩ := DG.pt ⟨cs, B, O, S⟩
    refine as_f ((l05StepJet_c P (jet_rings hx).1 (jet_rings hx).2 hy).mono ?_)
    rintro _ h4 ⟨⟨z, rfl, hz⟩, P⟩
    exact as_f ⟨⟨i - 1, _, by rw [wrap64 (n := i - 1) (by omega) (by omega)], by omega, by omega, jet_step_ok hx, DG.of (by omega) P⟩, by rw [wrap64 (n := i - 1) (by omega) (by omega)]; show (i - 1).toNat < i.toNat; omega⟩
  obtain ⟨cs, B, O, S⟩ := D
  have M := S.mem
  refine M.lda0 .here (osz O rfl) ?_
  have M := M.cnt (W := (t, T_impl_Jet, ⟨Z_impl_Jet⟩) :: (B ++ L)) (fun p => by simp only [cnt_app, cnt_cons, cnt_nil] at *; omega)
  exact M.sta0 .here (osz O rfl) (rJet.oone O) rfl .here fun h3 M => M.lda0 .here (osz O rfl) ⟨_, B, x, rfl, O, hx, M.drop⟩
theorem P6Jet_c (M : Mem h0 h L) (C : Cells h0 cb (iv .u8 xs)) (hb : Byt' xs) : CALL prg f_spec_P6Jet #[.slice cb xs.length cc] (fun u h' => Drawn rJet GJet.ok h0 h' L u) h := by
  refine spec_P6Jet.call (M.alc fun g1 h1 x1 M => (l00From_c M).mono ?_)
  rintro _ h2 ⟨g, rfl, S⟩
  refine as_p ((l05DrawnJet_c S C hb).mono ?_)
  rintro _ h3 ⟨cs, B, x, rfl, O, hx, M⟩
  have M := M.cnt (W := (g1, T_impl_Jet, ⟨Z_impl_Jet⟩) :: (B ++ L)) (fun p => by simp only [cnt_app, cnt_cons, cnt_nil] at *; omega)
  exact as_a (M.sta0 .here (osz O rfl) (rJet.oone O) rfl .here fun h4 M => M.lda0 .here (osz O rfl) ⟨cs, B, x, rfl, O, hx, M.drop⟩)
end
end Go.Sx
/- Drawn rooms; rooms that are silent; rooms that are the same. -/
set_option linter.unusedVariables false
set_option linter.unusedSimpArgs false
namespace Go.Sx
open Go.Proofs
set_option maxRecDepth 100000
set_option maxHeartbeats 1000000

section
variable {h0 h h' : Heap} {L W : List Blk} {g : Nat} {cb : Option Addr} {cc K : Nat} {xs : List Int} {n : Int}
theorem Src.join {hh : Heap} {B : List Blk} (S : Src h0 h L g cb xs.length cc K) (N : Mem h hh B) : Src h0 hh (B ++ L) g cb xs.length cc K := by
  obtain ⟨p, st, hp, M⟩ := S
  exact ⟨p, st, hp, (M.join N).cnt fun p => by simp only [cnt_app, cnt_cons, cnt_nil]; omega⟩
theorem drS {r t : Nat} {cs : Array Value} {B : List Blk} {x : GRoom} (O : rRoom.ow B cs.toList x) (hx : x.ok = true) (S : Src h0 h ((r, T_impl_Room, ⟨Z_impl_Room⟩) :: (B ++ ((t, T_impl_Room, ⟨Z_impl_Room⟩) :: L))) g cb xs.length cc K) (C : Cells h0 cb (iv .u8 xs)) (hb : Byt' xs) (hK : K ≤ 500) :
    STA 47 h ⟨r, 0, none⟩ cs fun h' => spec_l06Drawn.J5 (fun u h' => DrawnR h0 h' L u) ⟨g, 0, none⟩ ⟨t, 0, none⟩ ⟨r, 0, none⟩ h' :=
  S.sta (osz O rfl) (rRoom.oone O) rfl fun h' S => dr5 ⟨cs, B, O, S⟩ hx C hb hK
theorem RoomOk.go {P : Program} {f : FuncId} {args : Array Value} {hh : Heap} {Q : Value → Heap → Prop} (c : CALL P f args (fun u h' => RoomOk hh h' u) hh) (H : ∀ h' cs B x, rRoom.ow B cs.toList x → x.ok = true → Mem hh h' B → Q (.tuple ⟨[.agg cs, .int .i64 (0 : Int)]⟩) h') : CALL P f args Q hh :=
  c.mono fun u h' ⟨cs, B, x, e, O, hx, N⟩ => by subst e; exact H h' cs B x O hx N
theorem l06Drawn_c (S : Src h0 h L g cb xs.length cc 0) (C : Cells h0 cb (iv .u8 xs)) (hb : Byt' xs) : CALL prg f_spec_l06Drawn #[.pointer (some ⟨g, 0, none⟩)] (fun u h' => DrawnR h0 h' L u) h := by
  refine spec_l06Drawn.call (S.alc fun g1 h1 S => (pick_c S C hb (by omega)).mono ?_)
  rintro _ h2 ⟨a1, rfl, a11, a12, a13, S⟩
  refine as_i ((pick_c S C hb (by omega)).mono ?_)
  rintro _ h3 ⟨a2, rfl, a21, a22, a23, S⟩
  refine as_i ((pick_c S C hb (by omega)).mono ?_)
  rintro _ h4 ⟨a3, rfl, a31, a32, a33, S⟩
  refine as_i ((pick_c S C hb (by omega)).mono ?_)
  rintro _ h5 ⟨a4, rfl, a41, a42, a43, S⟩
  refine as_i (S.alc fun g15 h6 S => S.sta (vs := ivs [IntKind.i64.wrap (1 + a1), IntKind.i64.wrap (1 + a2), IntKind.i64.wrap (1 + a3), IntKind.i64.wrap (1 + a4)]) rfl (all_one rfl) rfl fun h7 S => (pick_c S C hb (by omega)).mono ?_)
  rintro _ h8 ⟨t, rfl, t1, t2, t3, S⟩
  refine as_i ((pick_c S C hb (by omega)).mono ?_)
  rintro _ h9 ⟨k, rfl, k1, k2, k3, S⟩
  rw [wrap64 (n := 1 + a1) (by omega) (by omega), wrap64 (n := 1 + a2) (by omega) (by omega), wrap64 (n := 1 + a3) (by omega) (by omega), wrap64 (n := 1 + a4) (by omega) (by omega), wrap64 (n := 10 + t) (by omega) (by omega)] at *
  have hr : ∀ i : Nat, i < 4 → 1 ≤ [1 + a1, 1 + a2, 1 + a3, 1 + a4][i]! ∧ [1 + a1, 1 + a2, 1 + a3, 1 + a4][i]! ≤ 8 := fun i hi => by
    rcases (show i = 0 ∨ i = 1 ∨ i = 2 ∨ i = 3 by omega) with rfl | rfl | rfl | rfl
    · show 1 ≤ 1 + a1 ∧ 1 + a1 ≤ 8; omega
    · show 1 ≤ 1 + a2 ∧ 1 + a2 ≤ 8; omega
    · show 1 ≤ 1 + a3 ∧ 1 + a3 ≤ 8; omega
    · show 1 ≤ 1 + a4 ∧ 1 + a4 ≤ 8; omega
  generalize hls : [1 + a1, 1 + a2, 1 + a3, 1 + a4] = ls at *
  have hl : ls.length = 4 := by rw [← hls]; rfl
  refine as_i (fD (fw_nearest .f32 k) (fw_c32 (by decide) (by decide)) fun yk hk => S.mem.lda0 .here (by unfold ivs; simp [hl]) ?_)
  have hk : FW .f32 yk (keepW k) := hk
  have M9 := S.mem
  have new : ∀ {hh : Heap} {w z : Nat}, FW .f32 w z → fin z = true → CALL prg f_spec_NewRoom #[.agg (ivs ls), .float .f32 (tailW (10 + t)), .float .f32 yk, .float .f32 w] (fun u h' => RoomOk hh h' u) hh := fun hw hz =>
    spec_NewRoom_c hl hr (by omega) (by omega) hk (keep_place k1 (by omega)) hw hz
  refine ⟨?_, S.alc fun g47 h48 S => M9.pin2 .here S.mem (.there .here) ((l01Plain_c S C hb (by omega)).mono ?_)⟩
  · refine (l01Plain_c S C hb (by omega)).mono ?_
    rintro _ h27 ⟨y, u, rfl, u1, u2, hy, S⟩
    refine as_f (M9.pin2 .here S.mem .here ⟨RoomOk.go (new hy (plain_fin u1 u2)) fun h30 c33 B33 x33 O hx N => tup2 (as_a (as_i ((S.join N).alc fun g35 h36 S => M9.pin2 .here S.mem (.there (Look.skip .here)) (drS O hx (S.cnt fun p => by simp only [cnt_app, cnt_cons, cnt_nil]; omega) C hb (by omega))))), S.alc fun g38 h39 S => M9.pin2 .here S.mem (.there .here) ?_⟩)
    exact RoomOk.go (new hy (plain_fin u1 u2)) fun h41 c44 B44 x44 O hx N => tup2 (as_a (as_i (drS O hx ((S.join N).cnt fun p => by simp only [cnt_app, cnt_cons, cnt_nil]; omega) C hb (by omega))))
  · rintro _ h50 ⟨y, u, rfl, u1, u2, hy, S⟩
    exact as_f (M9.pin2 .here S.mem (.there .here) (RoomOk.go (new hy (plain_fin u1 u2)) fun h53 c56 B56 x56 O hx N => tup2 (as_a (as_i (drS O hx ((S.join N).cnt fun p => by simp only [cnt_app, cnt_cons, cnt_nil]; omega) C hb (by omega))))))
theorem P6Room_c (M : Mem h0 h L) (C : Cells h0 cb (iv .u8 xs)) (hb : Byt' xs) : CALL prg f_spec_P6Room #[.slice cb xs.length cc] (fun u h' => DrawnR h0 h' L u) h := by
  refine spec_P6Room.call (M.alc fun g1 h1 x1 M => (l00From_c M).mono ?_)
  rintro _ h2 ⟨g, rfl, S⟩
  refine as_p ((l06Drawn_c S C hb).mono ?_)
  rintro _ h3 ⟨cs, B, x, rfl, O, hx, M⟩
  have M := M.cnt (W := (g1, T_impl_Room, ⟨Z_impl_Room⟩) :: (B ++ L)) (fun p => by simp only [cnt_app, cnt_cons, cnt_nil] at *; omega)
  exact as_a (M.sta0 .here (osz O rfl) (rRoom.oone O) rfl .here fun h4 M => M.lda0 .here (osz O rfl) ⟨cs, B, x, rfl, O, hx, M.drop⟩)
end
section
variable {h : Heap} {q : Addr} {x : GRoom}
theorem IsSilentRoom_c {cs : Array Value} (R0 : rRoom.rd h cs.toList x) (hx : x.ok = true) : CALL prg f_impl_IsSilentRoom #[.agg cs] (fun u h' => u = .tuple ⟨[.bool x.zero, .int .i64 (0 : Int)]⟩ ∧ Ext h h') h := by
  have Rn := room_runs R0 hx
  refine impl_IsSilentRoom.call ((Mem.start h).alc fun g1 h1 x1 M => M.lda0 .here (rsz R0 rfl) (goM M (ValidRoom_c (rRoom.ext M.ext R0)) fun h2 M => as_b (brN (fun e => by rw [hx] at e; cases e) fun _ => (rings_c _ _).mono ?_)))
  rintro _ h3 ⟨b, c, B, rfl, O, N⟩
  have M := M.join N
  have R : RdP rRoom h3 ⟨g1, 0, none⟩ x := M.rdp (Look.skip .here) (rRoom.ext M.ext R0)
  have pr : PR h3 (ringPs ⟨g1, 0, none⟩) ((List.range 7).map (getR x)) := ⟨by rfl, fun i hi => by
    have hi : i < 7 := hi
    have e : ((List.range 7).map (getR x))[i]! = getR x i := by rw [getElem!_pos _ i (by simpa using hi), List.getElem_map, List.getElem_range]
    rw [e, ringPs_get _ hi]
    exact ⟨R.foc (foc_ring i hi), getR_ok Rn hi⟩⟩
  refine as_l (goX (areQuiet_c (O.look M (List.sublist_append_left _ _)) pr) fun h4 x4 => as_b ?_)
  have X4 := M.ext.trans x4
  have e : (((List.range 7).map (getR x)).all GRing.zero) = x.zeroR := by rw [zeroR_eq Rn.c2 Rn.l4, List.all_map]; rfl
  rw [e]
  refine br (fun hz => goX (Room_isStill_c (R.ext x4)) fun h5 x5 => as_b ⟨?_, X4.trans x5⟩) fun hz => ⟨?_, X4⟩
  · rw [zero_eq, hz, Bool.true_and]
  · rw [zero_eq, hz, Bool.false_and]
end
end Go.Sx
