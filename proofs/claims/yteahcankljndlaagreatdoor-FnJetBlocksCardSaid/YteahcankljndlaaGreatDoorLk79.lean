/- Drawn jets are valid. -/
import Derived.Test.YteahcankljndlaaGreatDoorLk78
import Derived.Test.YteahcankljndlaaGreatDoorLk21
set_option linter.unusedVariables false
set_option linter.unusedSimpArgs false
namespace Go.Sx
open Go.Proofs
set_option maxRecDepth 100000
set_option maxHeartbeats 4000000

def dcF : GFilter := ⟨5, [1065269330, 0, 0], [0, 0]⟩
theorem dc_ok : (dcF.ok && dcF.Kind == 5) = true := by decide +kernel
def edgeIn (a : Nat) : Bool := fge .f32 a 3212836864 && fle .f32 a 1065353216
theorem edge_in {v : Int} (h0 : -8 ≤ v) (h1 : v < 9) : edgeIn (keepW v) = true := by
  have A : (List.range 17).all (fun v => edgeIn (keepW ((v : Int) - 8))) = true := by decide +kernel
  obtain ⟨n, hn⟩ := Int.eq_ofNat_of_zero_le (show 0 ≤ v + 8 by omega)
  have := List.all_eq_true.1 A n (List.mem_range.2 (by omega))
  rwa [show ((n : Nat) : Int) - 8 = v by omega] at this
def jetOf (t b k n f : Nat) : GJet := { Throat := ⟨List.replicate t 0, 0⟩, Bore := ⟨List.replicate b 0, 0⟩, Low := onePole k, Dc := dcF, Near := n, Far := f }
theorem jetOf_ok {t b k n f : Nat} (t0 : 1 ≤ t) (t1 : t ≤ 1024) (b0 : 1 ≤ b) (b1 : b ≤ 1024) (hk : place k = true) (hn : fin n = true) (hf : fin f = true) : (jetOf t b k n f).ok = true := by
  have e1 : (jetOf t b k n f).Throat.okf = true := silence_okf (n := (t : Int)) (by simp only [inR, Bool.and_eq_true, decide_eq_true_eq]; omega)
  have e2 : (jetOf t b k n f).Bore.okf = true := silence_okf (n := (b : Int)) (by simp only [inR, Bool.and_eq_true, decide_eq_true_eq]; omega)
  have e3 : ((jetOf t b k n f).Low.ok && (jetOf t b k n f).Low.Kind == 1) = true := onePole_ok hk
  have e4 : ((jetOf t b k n f).Dc.ok && (jetOf t b k n f).Dc.Kind == 5) = true := dc_ok
  have e5 : fin (jetOf t b k n f).Near = true := hn
  have e6 : fin (jetOf t b k n f).Far = true := hf
  unfold GJet.ok
  rw [e1, e2, e3, e4, e5, e6]; rfl
section
variable {h0 h h' : Heap} {L W : List Blk} {g : Nat} {cb : Option Addr} {cc K : Nat} {xs : List Int} {n : Int}
theorem BlockDc_c : CALL prg f_spec_BlockDc #[.float .f32 1065269330] (fun u h' => FlR u dcF ∧ Ext h h') h :=
  spec_BlockDc.call ((Mem.start h).alc fun g1 h1 x1 M => siz rfl (M.sta0 .here rfl (all_one rfl) rfl .here fun h3' M => M.lda0 .here rfl ⟨⟨5, 1065269330, 0, rfl, filter_ow (fw_c32 (by decide) (by decide)) fw0 fw0 fw0 fw0⟩, M.ext⟩))
theorem goFl {P : Program} {f : FuncId} {args : Array Value} {fl : GFilter} {hb hh : Heap} {L : List Blk} {K : Value → Heap → Prop} (M : Mem hb hh L) (k : CALL P f args (fun u h' => FlR u fl ∧ Ext hh h') hh)
    (H : ∀ h' kk y z, Mem hb h' L → rFilter.ow [] (flC kk y z 0 0 0) fl → K (.agg ⟨flC kk y z 0 0 0⟩) h') : CALL P f args K hh :=
  k.mono fun u h' ⟨⟨kk, y, z, e, O⟩, X⟩ => by subst e; exact H h' kk y z (M.grow X) O
theorem newJet_c {t b : Nat} {k n f k' n' f' : Nat} (t0 : 1 ≤ t) (t1 : t ≤ 1024) (b0 : 1 ≤ b) (b1 : b ≤ 1024) (hk : FW .f32 k k') (hn : FW .f32 n n') (hf : FW .f32 f f') (pk : place k' = true) (en : edgeIn n' = true) (ef : edgeIn f' = true) (fn : fin n' = true) (ff : fin f' = true) :
    CALL prg f_spec_NewJet #[.int .i64 (t : Int), .int .i64 (b : Int), .float .f32 k, .float .f32 n, .float .f32 f] (fun u h' => NewOk rJet GJet.ok h h' u) h := by
  have ht : inR (t : Int) 1 1024 = true := by simp only [inR, Bool.and_eq_true, decide_eq_true_eq]; omega
  have hb : inR (b : Int) 1 1024 = true := by simp only [inR, Bool.and_eq_true, decide_eq_true_eq]; omega
  have hok := jetOf_ok t0 t1 b0 b1 pk fn ff
  refine spec_NewJet.call ((Mem.start h).alc fun g1 h1 x1 M => goM M (l00In_c _ _ _ _) fun h2 M => as_b ?_)
  rw [ht]
  refine br_f rfl (goM M (l00In_c _ _ _ _) fun h3 M => as_b ?_)
  rw [hb]
  refine br_f rfl ?_
  have cm : FW .f32 3212836864 3212836864 := fw_c32 (by decide) (by decide)
  unfold place at pk
  have pk' := pk
  unfold fge flt at pk'
  unfold edgeIn fge fle at en ef
  rw [Bool.and_eq_true] at en ef pk'
  rw [ord_eq hk fw0, ord_eq hk c1, pk'.1, pk'.2, ord_eq hn cm, ord_eq hn c1, en.1, en.2, ord_eq hf cm, ord_eq hf c1, ef.1, ef.2]
  refine br_t rfl (br_f rfl (br_t rfl (br_f rfl (br_t rfl (br_f rfl ?_)))))
  have fin : ∀ {hh : Heap} {B1 B2 : List Blk} {g1' g2' : Nat} {v w : List Value}, Mem h hh ((g1, T_impl_Jet, ⟨Z_impl_Jet⟩) :: (B1 ++ B2)) → SlO T_float32 (rF .f32) B1 (some ⟨g1', 0, none⟩) t t (List.replicate t 0) → SlO T_float32 (rF .f32) B2 (some ⟨g2', 0, none⟩) b b (List.replicate b 0) → rFilter.ow [] v (onePole k') → rFilter.ow [] w dcF →
      STA 18 hh ⟨g1, 0, none⟩ ⟨[.slice (some ⟨g1', 0, none⟩) t t, .int .i64 (0 : Int)] ++ ([.slice (some ⟨g2', 0, none⟩) b b, .int .i64 (0 : Int)] ++ (v ++ (w ++ [.float .f32 n, .float .f32 f])))⟩ fun h34 => LDA 18 h34 ⟨g1, 0, none⟩ fun a35 => NewOk rJet GJet.ok h h34 (.tuple ⟨[.agg a35, .int .i64 (0 : Int)]⟩) := fun M O1 O2 hv hw => by
    have O := jet_ow (x := jetOf t b k' n' f') O1 O2 hv hw hn hf
    exact M.sta0 .here (rJet.olen O) (rJet.oone O) rfl .here fun h34 M => M.lda0 .here (rJet.olen O) ⟨_, _, _, rfl, O, hok, M.drop⟩
  unfold spec_NewJet.J3
  simp only [Int.toNat_natCast]
  have C1 : ∀ {hh : Heap}, CALL prg f_spec_OnePole #[.float .f32 k] (fun u h' => FlR u (onePole k') ∧ Ext hh h') hh := spec_OnePole_c hk
  clear hk cm pk pk' en ef ht hb fn ff hn hf hok
  (repeat' (first
    | refine make_z (n := t) M (by omega) fun gt ht Bt xt M OT => ?_
    | refine make_z (n := b) M (by omega) fun gb hb Bb xb M OB => ?_
    | refine goFl M C1 fun hp kp yp zp M OP => as_a ?_
    | refine goFl M BlockDc_c fun hd kd yd zd M OD => as_a ?_
    | exact siz rfl (siz rfl (siz rfl (siz rfl (fin (M.cnt (fun p => by simp only [cnt_app, cnt_cons, cnt_nil]; omega)) OT OB OP OD))))
    | refine And.intro ?_ ?_))
theorem l05DrawnJet_c (S : Src h0 h L g cb xs.length cc 0) (C : Cells h0 cb (iv .u8 xs)) (hb : Byt' xs) : CALL prg f_spec_l05DrawnJet #[.pointer (some ⟨g, 0, none⟩)] (fun u h' => Drawn rJet GJet.ok h0 h' L u) h := by
  refine spec_l05DrawnJet.call (S.alc fun t h1 S => (pick_c S C hb (by omega)).mono ?_)
  rintro _ h2 ⟨a, rfl, a1, a2, a3, S⟩
  refine as_i ((pick_c S C hb (by omega)).mono ?_)
  rintro _ h3 ⟨b, rfl, b1, b2, b3, S⟩
  refine as_i ((pick_c S C hb (by omega)).mono ?_)
  rintro _ h4 ⟨k, rfl, k1, k2, k3, S⟩
  refine as_i (fD (fw_nearest .f32 k) (fw_c32 (by decide) (by decide)) fun r12 k12 => (pick_c S C hb (by omega)).mono ?_)
  rintro _ h5 ⟨n, rfl, n1, n2, n3, S⟩
  refine as_i ?_
  rw [wrap64 (n := n - 8) (by omega) (by omega)]
  refine fD (fw_nearest .f32 (n - 8)) (fw_c32 (by decide) (by decide)) fun r16 k16 => (pick_c S C hb (by omega)).mono ?_
  rintro _ h6 ⟨f, rfl, f1, f2, f3, S⟩
  refine as_i ?_
  rw [wrap64 (n := f - 8) (by omega) (by omega)]
  refine fD (fw_nearest .f32 (f - 8)) (fw_c32 (by decide) (by decide)) fun r20 k20 => ?_
  rw [wrap64 (n := 1 + a) (by omega) (by omega), wrap64 (n := 1 + b) (by omega) (by omega)]
  obtain ⟨ta, hta⟩ : ∃ ta : Nat, (ta : Int) = 1 + a := ⟨(1 + a).toNat, by omega⟩
  obtain ⟨tb, htb⟩ : ∃ tb : Nat, (tb : Int) = 1 + b := ⟨(1 + b).toNat, by omega⟩
  rw [← hta, ← htb]
  refine NewOk.go (newJet_c (t := ta) (b := tb) (by omega) (by omega) (by omega) (by omega) k12 k16 k20 (keep_place k1 (by omega)) (edge_in (by omega) (by omega)) (edge_in (by omega) (by omega)) (keep_fin (by omega) (by omega)) (keep_fin (by omega) (by omega))) fun h7 c7 B7 x7 O7 hx N => tup2 (as_a (as_i ((S.joinG N).alc fun r h8 S => ?_)))
  refine S.sta (osz O7 rfl) (rJet.oone O7) rfl fun h9 S => (pick_c S C hb (by omega)).mono ?_
  rintro _ h10 ⟨i, rfl, i1, i2, i3, S⟩
  refine as_i ?_
  refine loop (fun y hh => ∃ (j : Int) (x : GJet), y = (⟨g, 0, none⟩, ⟨t, 0, none⟩, ⟨r, 0, none⟩, j) ∧ 0 ≤ j ∧ j ≤ i ∧ x.ok = true ∧ DG rJet T_impl_Jet h0 hh ((t, T_impl_Jet, ⟨Z_impl_Jet⟩) :: L) g cb xs.length cc (1000 - 2 * j.toNat) r x) (fun y => y.2.2.2.toNat)
    ⟨i, x7, rfl, i1, by omega, hx, c7, B7, O7, S.mono (by omega)⟩ ?_
  rintro y hh ⟨i, x, rfl, hi, hiv, hx, D⟩
  refine brd (fun hc => ?_) fun hc => ?_
  · obtain ⟨cs, B, O, S⟩ := D
    refine (l01Plain_c S C hb (by omega)).mono ?_
    rintro _ h3 ⟨y, u, rfl, u1, u2, hy, S⟩
    obtain ⟨p, st, hp, P⟩ := DG.pt ⟨cs, B, O, S⟩
    refine as_f ((l05StepJet_c P (jet_rings hx).1 (jet_rings hx).2 hy).mono ?_)
    rintro _ h4 ⟨⟨z, rfl, hz⟩, P⟩
    exact as_f ⟨⟨i - 1, _, by rw [wrap64 (n := i - 1) (by omega) (by omega)], by omega, by omega, jet_step_ok hx, DG.of (by omega) P⟩, by rw [wrap64 (n := i - 1) (by omega) (by omega)]; show (i - 1).toNat < i.toNat; omega⟩
  obtain ⟨cs, B, O, S⟩ := D
  have M := S.mem
  refine M.lda0 .here (osz O rfl) ?_
  have M := M.cnt (W := (t, T_impl_Jet, ⟨Z_impl_Jet⟩) :: (B ++ L)) (fun p => by simp only [cnt_app, cnt_cons, cnt_nil] at *; omega)
  exact M.sta0 .here (osz O rfl) (rJet.oone O) rfl .here fun h3 M => M.lda0 .here (osz O rfl) ⟨_, B, x, rfl, O, hx, M.drop⟩
theorem P6Jet_c (M : Mem h0 h L) (C : Cells h0 cb (iv .u8 xs)) (hb : Byt' xs) : CALL prg f_spec_P6Jet #[.slice cb xs.length cc] (fun u h' => Drawn rJet GJet.ok h0 h' L u) h := by
  refine spec_P6Jet.call (M.alc fun g1 h1 x1 M => (l00From_c M).mono ?_)
  rintro _ h2 ⟨g, rfl, S⟩
  refine as_p ((l05DrawnJet_c S C hb).mono ?_)
  rintro _ h3 ⟨cs, B, x, rfl, O, hx, M⟩
  have M := M.cnt (W := (g1, T_impl_Jet, ⟨Z_impl_Jet⟩) :: (B ++ L)) (fun p => by simp only [cnt_app, cnt_cons, cnt_nil] at *; omega)
  exact as_a (M.sta0 .here (osz O rfl) (rJet.oone O) rfl .here fun h4 M => M.lda0 .here (osz O rfl) ⟨cs, B, x, rfl, O, hx, M.drop⟩)
end
end Go.Sx
/- The rule's comparisons of bows, instruments. -/
set_option linter.unusedVariables false
set_option linter.unusedSimpArgs false
namespace Go.Sx
open Go.Proofs
set_option maxRecDepth 100000
set_option maxHeartbeats 1000000

section
variable {h : Heap}
theorem rings2 {h : Heap} {ca cb : Array Value} {a b : GRing} (Ra : rRing.rd h ca.toList a) (Rb : rRing.rd h cb.toList b) {T : Nat} {K : Nat → Heap → Prop} (H : ∀ g h', Ext h h' → SlR rRing h' (some ⟨g, 0, none⟩) 2 2 [a, b] → K g h') :
    ALC ⟨(splice 2 2 cb (splice 0 2 ca [.slice none 0 0, .int .i64 (0 : Int), .slice none 0 0, .int .i64 (0 : Int)]))⟩ T K h := by
  have sa : ca.toList.length = 2 := by have := rRing.rlen Ra; exact this
  have sb : cb.toList.length = 2 := by have := rRing.rlen Rb; exact this
  obtain ⟨a1, a2, ea⟩ := is2 sa
  obtain ⟨b1, b2, eb⟩ := is2 sb
  have e : splice 2 2 cb (splice 0 2 ca [.slice none 0 0, .int .i64 (0 : Int), .slice none 0 0, .int .i64 (0 : Int)]) = ca.toList ++ (cb.toList ++ []) := by unfold splice; rw [ea, eb]; rfl
  rw [e]
  exact rArr_slr (r := rRing) (n := 2) (xs := [a, b]) ⟨rfl, _, _, rfl, Ra, _, _, rfl, Rb, rfl⟩ (by decide) H
theorem l04SameRings2_c {b1 b2 : Option Addr} {l1 c1 l2 c2 : Nat} {a b c d : GRing} (S1 : SlR rRing h b1 l1 c1 [a, b]) (S2 : SlR rRing h b2 l2 c2 [c, d]) :
    CALL prg f_spec_l04SameRings #[.slice b1 l1 c1, .slice b2 l2 c2] (fun u h' => u = .bool (same a c && same b d) ∧ Ext h h') h := by
  rw [← same_R2]; exact l04SameRings_c S1 S2
end
end Go.Sx
