/- Whole parts of periods; new bows. -/
import Derived.Test.YthhepeklpgefkaaGreatDoorLk45
set_option linter.unusedVariables false
set_option linter.unusedSimpArgs false
namespace Go.Sx
open Go.Proofs Ieee
set_option maxRecDepth 100000
set_option maxHeartbeats 1000000

def floorZ (a : Nat) : Int := if flt .f32 a 1232348160 then ((floorN a : Nat) : Int) else 0
def floorY (a : Nat) : Int := if fle .f32 a 1232348160 then ((floorN a : Nat) : Int) else 1000000
theorem read_mil : FloatKind.f32.format.read 1232348160 = .number false 16000000 (-4) := by decide +kernel
theorem pos_number {a c n : Nat} {j : Int} (hp : Pos a) (hc : FloatKind.f32.format.read c = .number false n j) (h : fle .f32 a c = true) : ∃ m e, FloatKind.f32.format.read a = .number false m e := by
  have hn := pos_neg hp
  unfold fle at h
  cases e : FloatKind.f32.format.read a with
  | nan s t => rw [order_read e hc] at h; cases h
  | infinity s =>
    rw [e] at hn
    obtain rfl : s = false := hn
    rw [order_read e hc] at h; cases h
  | number s m i =>
    rw [e] at hn
    obtain rfl : s = false := hn
    exact ⟨m, i, rfl⟩
theorem floorN_le {a : Nat} (hp : Pos a) (h : fle .f32 a 1232348160 = true) : ∃ m e, FloatKind.f32.format.read a = .number false m e ∧ floorN a = whole m e ∧ whole m e ≤ 1000000 := by
  obtain ⟨m, e, hr⟩ := pos_number hp read_mil h
  obtain ⟨B, hB⟩ : ∃ B : Nat, 1100 ≤ B := ⟨1100, Nat.le_refl _⟩
  have h1 := le_read hB read_mil hr (fun h => by cases h) h
  have h2 := read_single a hr
  refine ⟨m, e, hr, by unfold floorN; rw [hr], ?_⟩
  rw [sv_whole (B := B) (by omega)]
  refine Nat.div_le_of_le_mul ?_
  refine Nat.le_trans h1 ?_
  unfold sv
  rw [show (16000000 : Nat) = 1000000 * 2 ^ 4 by rfl, Nat.mul_assoc, ← Nat.pow_add, show 4 + ((-4 : Int) + (B : Int)).toNat = B by omega, Nat.mul_comm]
  exact Nat.le_refl _
theorem flt_fle {k : FloatKind} {a b : Nat} (h : flt k a b = true) : fle k a b = true := by unfold flt at h; unfold fle; rw [h]; rfl
/-- The two ways of taking the whole part tell the same where it is in range. -/
theorem floor_same {a : Nat} (hp : Pos a) : floorY a = floorZ a ∨ (inR (floorY a) 1 1024 = false ∧ inR (floorZ a) 1 1024 = false ∧ inR (floorY a) 2 1024 = false ∧ inR (floorZ a) 2 1024 = false) := by
  unfold floorY floorZ
  by_cases h1 : flt .f32 a 1232348160 = true
  · rw [if_pos h1, if_pos (flt_fle h1)]; exact .inl rfl
  · right
    rw [if_neg h1]
    have z : ∀ n : Int, 1024 < n → inR n 1 1024 = false ∧ inR n 2 1024 = false := fun n hn => by
      unfold inR
      rw [decide_eq_false (p := n ≤ 1024) (by omega), Bool.and_false, Bool.and_false]; exact ⟨rfl, rfl⟩
    by_cases h2 : fle .f32 a 1232348160 = true
    · rw [if_pos h2]
      obtain ⟨m, e, hr, hf, hle⟩ := floorN_le hp h2
      obtain ⟨B, hB⟩ : ∃ B : Nat, 1100 ≤ B := ⟨1100, Nat.le_refl _⟩
      have hge : fge .f32 a 1232348160 = true := by
        unfold fle at h2
        unfold flt at h1
        unfold fge
        rw [Bool.not_eq_true] at h1
        rw [h1, Bool.false_or] at h2
        rw [h2, Bool.or_true]
      rcases ge_read hB read_mil hge with hi | ⟨s, m', e', hr', hs, hl⟩
      · rw [hr] at hi; cases hi
      · rw [hr] at hr'
        obtain ⟨rfl, rfl, rfl⟩ : false = s ∧ m = m' ∧ e = e' := by simpa using hr'
        have h3 := read_single a hr
        have : 1000000 ≤ whole m e := by
          rw [sv_whole (B := B) (by omega)]
          refine (Nat.le_div_iff_mul_le (Nat.two_pow_pos _)).2 (Nat.le_trans ?_ hl)
          unfold sv
          rw [show (16000000 : Nat) = 1000000 * 2 ^ 4 by rfl, Nat.mul_assoc (1000000 : Nat), ← Nat.pow_add, show 4 + ((-4 : Int) + (B : Int)).toNat = B by omega]
          exact Nat.le_refl _
        rw [hf]
        have := z ((whole m e : Nat) : Int) (by omega)
        exact ⟨this.1, rfl, this.2, rfl⟩
    · rw [if_neg h2]
      exact ⟨rfl, rfl, rfl, rfl⟩
def bowN (p : Int) : Int := if p / 8 < 1 then 1 else p / 8
def bowOf (p : Int) (k l s : Nat) : GBow := { Neck := ⟨List.replicate (p - bowN p).toNat 0, 0⟩, Bridge := ⟨List.replicate (bowN p).toNat 0, 0⟩, Damp := onePole k, Slope := s, Loss := l }
def newBow (p : Int) (k l s : Nat) : GBow × Int := if inR p 2 1024 then if place k then if inside l 0 1065353216 then if fin s then (bowOf p k l s, 0) else (z_Bow, 2) else (z_Bow, 2) else (z_Bow, 2) else (z_Bow, 2)
theorem eighth_in : inside 1040187392 0 1065353216 = true := by decide +kernel
theorem c8 : FW .f32 1040187392 1040187392 := fw_c32 (by decide) (by decide)
theorem read_8 : FloatKind.f32.format.read 1040187392 = .number false (2 ^ 23) (-26) := by decide +kernel
/-- The eighth part of a whole number. -/
theorem eighth {p : Nat} (h1 : 1 ≤ p) (h2 : p < 2 ^ 24) : FloatKind.f32.format.mul (FloatKind.f32.nearest (p : Int)) 1040187392 = some (FloatKind.f32.format.nearest false p (-3)) ∧ FloatKind.f32.format.mul 1040187392 (FloatKind.f32.nearest (p : Int)) = some (FloatKind.f32.format.nearest false p (-3)) ∧
    ∃ m e, FloatKind.f32.format.read (FloatKind.f32.format.nearest false p (-3)) = .number false m e ∧ whole m e = p / 8 := by
  have hl : p.log2 ≤ 23 := by
    have := (Nat.log2_lt (n := p) (by omega) (k := 24)).2 h2
    omega
  have rp := read32 false (m := p) (p := 0) (by omega) h2 (by decide) (by decide)
  rw [← nearest_nat] at rp
  refine ⟨?_, ?_, _, _, read32 false (m := p) (p := -3) (by omega) h2 (by decide) (by decide), ?_⟩
  · rw [mul_row (by rw [rp, read_8, prod_number])]
    exact congrArg some (scale_eq _ _ (23 - p.log2 + 23) (by rw [Nat.pow_add, Nat.mul_assoc]) (by omega))
  · rw [mul_row (by rw [rp, read_8, prod_number])]
    exact congrArg some (scale_eq _ _ (23 - p.log2 + 23) (by rw [Nat.pow_add, Nat.mul_comm, Nat.mul_assoc]) (by omega))
  · unfold whole
    rw [show ((-3 : Int) + (p.log2 : Int) - 23).toNat = 0 by omega, Nat.shiftLeft_zero, show (-((-3 : Int) + (p.log2 : Int) - 23)).toNat = 3 + (23 - p.log2) by omega, Nat.pow_add, Nat.mul_comm p, Nat.mul_comm (2 ^ 3), Nat.mul_div_mul_left _ _ (Nat.two_pow_pos _)]
theorem bow_fine {p : Int} (h : inR p 2 1024 = true) : 2 ≤ p ∧ p ≤ 1024 ∧ 1 ≤ bowN p ∧ bowN p ≤ p - 1 := by
  simp only [inR, Bool.and_eq_true, decide_eq_true_eq] at h
  unfold bowN
  refine ⟨h.1, h.2, ?_, ?_⟩ <;> split <;> omega
theorem bow_ow {x : GBow} {B1 B2 : List Blk} {b1 b2 : Option Addr} {l1 c1 l2 c2 : Nat} {v : List Value} {y z : Nat} (O1 : SlO T_float32 (rF .f32) B1 b1 l1 c1 x.Neck.Samples) (O2 : SlO T_float32 (rF .f32) B2 b2 l2 c2 x.Bridge.Samples) (hv : rFilter.ow [] v x.Damp) (hy : FW .f32 y x.Slope) (hz : FW .f32 z x.Loss) :
    rBow.ow (B1 ++ B2) ([.slice b1 l1 c1, .int .i64 x.Neck.At] ++ ([.slice b2 l2 c2, .int .i64 x.Bridge.At] ++ (v ++ [.float .f32 y, .float .f32 z]))) x :=
  ⟨B1, B2, [.slice b1 l1 c1, .int .i64 x.Neck.At], _, rfl, rfl, ring_ow O1, B2, [], [.slice b2 l2 c2, .int .i64 x.Bridge.At], _, by simp, rfl, ring_ow O2, [], [], v, _, rfl, rfl, hv, [], [], [.float .f32 y], [.float .f32 z], rfl, rfl, ⟨rfl, y, rfl, hy⟩, ⟨rfl, z, rfl, hz⟩⟩
theorem max_c {ts : Array TypeId} {t : TypeId} {cs : Array Bool} {n m : Int} {K : Value → Heap → Prop} {h : Heap} (H : K (.int .i64 (if m > n then m else n)) h) : SEMN prg (builtin .max ts t cs #[.int .i64 n, .int .i64 m]) K h :=
  semn_val fun w hw => ⟨_, w, rfl, Same.refl _, by rw [hw]; exact H⟩
theorem min_c {ts : Array TypeId} {t : TypeId} {cs : Array Bool} {n m : Int} {K : Value → Heap → Prop} {h : Heap} (H : K (.int .i64 (if m < n then m else n)) h) : SEMN prg (builtin .min ts t cs #[.int .i64 n, .int .i64 m]) K h :=
  semn_val fun w hw => ⟨_, w, rfl, Same.refl _, by rw [hw]; exact H⟩
section
variable {h : Heap} {x a : Nat}
theorem floorOf_c (hx : FW .f32 x a) (hp : Pos a) : Ret prg f_impl_floorOf #[.float .f32 x] (.int .i64 (floorZ a)) := fun h => by
  refine impl_floorOf.call ?_
  unfold impl_floorOf.S
  rw [ord_eq hx (show FW .f32 1232348160 1232348160 from cR)]
  refine brN (fun e => ⟨by unfold floorZ flt; rw [e]; rfl, Ext.refl _⟩) fun e => ?_
  have hlt : flt .f32 a 1232348160 = true := e
  obtain ⟨m, e', hr, hf, hle⟩ := floorN_le hp (flt_fle hlt)
  obtain ⟨B, hB⟩ : ∃ B : Nat, 1100 ≤ B := ⟨1100, Nat.le_refl _⟩
  obtain ⟨_, _, hw, _⟩ := wide_read hB hr
  have hwid : wid a = wide a := number_cn hw
  have hnw : nan .f64 (wide a) = false := by unfold Sx.nan; rw [hw]; rfl
  refine ffc_wide hx fun r1 h1 => ?_
  rw [hwid] at h1
  have e1 := h1.eq hnw
  subst e1
  refine goX (Floor_c hnw h) fun h2 x2 => as_f ?_
  refine ficI (z := ((whole m e' : Nat) : Int)) (by rw [flr_pos hr, whole_int false (by omega), signed_f, Nat.pow_zero, Nat.mul_one]) (by omega) (by omega) ⟨?_, x2⟩
  unfold floorZ
  rw [hlt, if_pos rfl, hf]
theorem l09Floor_c (hx : FW .f32 x a) (hp : Pos a) : Ret prg f_spec_l09Floor #[.float .f32 x] (.int .i64 (floorY a)) := fun h => by
  refine spec_l09Floor.call ?_
  unfold spec_l09Floor.S
  rw [ord_eq hx (show FW .f32 1232348160 1232348160 from cR)]
  refine brN (fun e => ⟨by unfold floorY fle; rw [e]; rfl, Ext.refl _⟩) fun e => ?_
  have hle : fle .f32 a 1232348160 = true := e
  obtain ⟨m, e', hr, hf, hle'⟩ := floorN_le hp hle
  have hna : nan .f32 a = false := by unfold Sx.nan; rw [hr]; rfl
  have hxa := hx.eq hna
  subst hxa
  refine ficI (int_pos hr) (by omega) (by omega) ⟨?_, Ext.refl _⟩
  unfold floorY
  rw [hle, if_pos rfl, hf]
end
end Go.Sx
/- New bows: the rule's and the program's. -/
set_option linter.unusedVariables false
set_option linter.unusedSimpArgs false
namespace Go.Sx
open Go.Proofs Ieee
set_option maxRecDepth 100000
set_option maxHeartbeats 2000000

section
variable {h : Heap} {x a : Nat}
theorem bow_no {p : Int} {k l s : Nat} {n : Int} {g : Nat} {hh : Heap} {L : List Blk} (M : Mem h hh ((g, T_impl_Bow, ⟨Z_impl_Bow⟩) :: L)) (e : newBow p k l s = (z_Bow, n)) :
    STA 12 hh ⟨g, 0, none⟩ ⟨Z_impl_Bow⟩ fun h8 => LDA 12 h8 ⟨g, 0, none⟩ fun a9 => PairR rBow h h8 (.tuple ⟨[.agg a9, .int .i64 n]⟩) (newBow p k l s).1 (newBow p k l s).2 := by
  rw [e]
  exact M.sta0 .here rfl (all_one rfl) rfl .here fun h3 M => M.lda0 .here rfl ⟨_, [], rfl, zow_Bow, (Mem.start h).grow M.ext⟩
/-- A slice of zeros made. -/
theorem make_z {n : Nat} {F : Nat → Heap → Prop} {h0 hh : Heap} {L : List Blk} (M : Mem h0 hh L) (hn : n ≤ 1024)
    (H : ∀ g h' B, Ext hh h' → Mem h0 h' (B ++ L) → SlO T_float32 (rF .f32) B (some ⟨g, 0, none⟩) n n (List.replicate n 0) → F g h') : MKS ti_float32 T_float32 (n : Int) (n : Int) F hh :=
  make_sl (r := rF .f32) (z := 0) (zc := [.float .f32 0]) ⟨rfl, 0, rfl, fw0⟩ rfl rfl (by decide) M (by show 4 * n ≤ 2 ^ 48; omega) (Nat.le_trans hn (by decide)) fun g h' x M O => H g h' _ x M O
theorem bow_word {p : Int} (h : inR p 2 1024 = true) : ∃ N : Nat, (N : Int) = p / 8 ∧ N ≤ 128 ∧ FloatKind.f32.format.mul (FloatKind.f32.nearest p) 1040187392 = FloatKind.f32.format.mul 1040187392 (FloatKind.f32.nearest p) ∧
    ∀ {r : Nat}, IsF .f32 (FloatKind.f32.format.mul 1040187392 (FloatKind.f32.nearest p)) r → ∀ {r2 : Nat}, IsFF .f32 r .f64 r2 → nan .f64 r2 = false ∧ (FloatKind.f64.decode (flr r2)).toInt .zero = some (N : Int) := by
  obtain ⟨p1, p2, _, _⟩ := bow_fine h
  obtain ⟨P, rfl⟩ : ∃ P : Nat, p = (P : Int) := ⟨p.toNat, by omega⟩
  obtain ⟨e1, e2, m, e, hr, hw⟩ := eighth (p := P) (by omega) (by omega)
  refine ⟨P / 8, by omega, by omega, by rw [e1, e2], ?_⟩
  intro r hr1 r2 hr2
  rw [e2] at hr1
  have hre : r = FloatKind.f32.format.nearest false P (-3) := hr1
  subst hre
  obtain ⟨B, hB⟩ : ∃ B : Nat, 1100 ≤ B := ⟨1100, Nat.le_refl _⟩
  obtain ⟨_, _, hwd, _⟩ := wide_read hB hr
  have hwid : wid (FloatKind.f32.format.nearest false P (-3)) = wide (FloatKind.f32.format.nearest false P (-3)) := number_cn hwd
  have hnw : nan .f64 (wide (FloatKind.f32.format.nearest false P (-3))) = false := by unfold Sx.nan; rw [hwd]; rfl
  have h2 : r2 = wide (FloatKind.f32.format.nearest false P (-3)) := by
    have : FW .f64 r2 (wid (FloatKind.f32.format.nearest false P (-3))) := ffc_wide (F := fun r => FW .f64 r (wid (FloatKind.f32.format.nearest false P (-3)))) (near_fw hr) (fun _ h => h) r2 hr2
    rw [hwid] at this
    exact this.eq hnw
  subst h2
  refine ⟨hnw, ?_⟩
  rw [flr_pos hr, hw, whole_int false (by omega), signed_f, Nat.pow_zero, Nat.mul_one]
theorem l00Min_c (a b : Int) : Ret prg f_spec_l00Min #[.int .i64 a, .int .i64 b] (.int .i64 (if a < b then a else b)) := fun h =>
  spec_l00Min.call (brd (fun k => ⟨by rw [if_pos k], Ext.refl _⟩) fun k => ⟨by rw [if_neg k], Ext.refl _⟩)
theorem l00Max_c (a b : Int) : Ret prg f_spec_l00Max #[.int .i64 a, .int .i64 b] (.int .i64 (if b < a then a else b)) := fun h =>
  spec_l00Max.call (brd (fun k => ⟨by rw [if_pos k], Ext.refl _⟩) fun k => ⟨by rw [if_neg k], Ext.refl _⟩)
theorem spec_NewBow_c {p : Int} {k l s k' l' s' : Nat} (hk : FW .f32 k k') (hl : FW .f32 l l') (hs : FW .f32 s s') : CALL prg f_spec_NewBow #[.int .i64 p, .float .f32 1040187392, .float .f32 k, .float .f32 l, .float .f32 s] (fun u h' => PairR rBow h h' u (newBow p k' l' s').1 (newBow p k' l' s').2) h := by
  refine spec_NewBow.call ((Mem.start h).alc fun g1 h1 x1 M => goM M (l00In_c _ _ _ _) fun h2 M => as_b (brN (fun e => bow_no M (by rw [newBow, e]; rfl)) fun e1 => ?_))
  have i8 := eighth_in
  unfold inside fge fle at i8
  rw [Bool.and_eq_true] at i8
  rw [i8.1, i8.2, ord_eq hk fw0, ord_eq hk c1, ord_eq hl fw0, ord_eq hl c1]
  refine br_t rfl (br_f rfl ?_)
  refine br (fun k1 => brN (fun k2 => bow_no M (by rw [newBow, e1, place, fge, flt, k1, k2]; rfl)) fun k2 => ?_) fun k1 => bow_no M (by rw [newBow, e1, place, fge, k1]; rfl)
  have e2 : place k' = true := by rw [place, fge, flt, k1, k2]; rfl
  refine br (fun k3 => brN (fun k4 => bow_no M (by rw [newBow, e1, e2, inside, fge, fle, k3, k4]; rfl)) fun k4 => ?_) fun k3 => bow_no M (by rw [newBow, e1, e2, inside, fge, k3]; rfl)
  have e3 : inside l' 0 1065353216 = true := by rw [inside, fge, fle, k3, k4]; rfl
  refine goM M (l01Finite_c hs _) fun h3 M => as_b (brN (fun e => bow_no M (by rw [newBow, e1, e2, e3, e]; rfl)) fun e4 => ?_)
  have fine : newBow p k' l' s' = (bowOf p k' l' s', 0) := by rw [newBow, e1, e2, e3, e4]; rfl
  rw [fine]
  obtain ⟨p1, p2, b1, b2⟩ := bow_fine e1
  obtain ⟨N, hN, hN2, hcomm, hword⟩ := bow_word e1
  unfold spec_NewBow.J3
  intro r25 h25 r26 h26
  obtain ⟨n26, i26⟩ := hword h25 h26
  refine goM M (Floor_c n26 _) fun h4 M => as_f (ficI i26 (by omega) (by omega) ?_)
  rw [wrap64 (n := p - 1) (by omega) (by omega)]
  have fin : ∀ {hh : Heap} {B1 B2 : List Blk} {g1' g2' : Addr} {n1 n2 : Nat} {vd : List Value}, n1 = (p - bowN p).toNat → n2 = (bowN p).toNat → Mem h hh ((g1, T_impl_Bow, ⟨Z_impl_Bow⟩) :: (B1 ++ B2)) → SlO T_float32 (rF .f32) B1 (some g1') n1 n1 (List.replicate n1 0) → SlO T_float32 (rF .f32) B2 (some g2') n2 n2 (List.replicate n2 0) → rFilter.ow [] vd (onePole k') →
      STA 12 hh ⟨g1, 0, none⟩ ⟨[.slice (some g1') n1 n1, .int .i64 (0 : Int)] ++ ([.slice (some g2') n2 n2, .int .i64 (0 : Int)] ++ (vd ++ [.float .f32 s, .float .f32 l]))⟩ fun h34 => LDA 12 h34 ⟨g1, 0, none⟩ fun a35 => PairR rBow h h34 (.tuple ⟨[.agg a35, .int .i64 (0 : Int)]⟩) (bowOf p k' l' s') 0 := fun en1 en2 M O1 O2 hv => by
    subst en1 en2
    have O := bow_ow (x := bowOf p k' l' s') O1 O2 hv hs hl
    exact M.sta0 .here (rBow.olen O) (rBow.oone O) rfl .here fun h34 M => M.lda0 .here (rBow.olen O) ⟨_, _, rfl, O, M.drop⟩
  refine goM M (l00Min_c _ _ _) fun h5 M => as_i (goM M (l00Max_c _ _ _) fun h6 M => as_i ?_)
  have hm : (if (if p - 1 < (N : Int) then p - 1 else (N : Int)) < 1 then 1 else (if p - 1 < (N : Int) then p - 1 else (N : Int))) = bowN p := by
    unfold bowN
    rw [hN]
    repeat' split
    all_goals omega
  rw [hm, wrap64 (n := p - bowN p) (by omega) (by omega)]
  obtain ⟨nb, hnb⟩ : ∃ nb : Nat, (nb : Int) = bowN p := ⟨(bowN p).toNat, by omega⟩
  obtain ⟨na, hna⟩ : ∃ na : Nat, (na : Int) = p - bowN p := ⟨(p - bowN p).toNat, by omega⟩
  rw [← hna, ← hnb]
  have f1 : na = (p - bowN p).toNat := by omega
  have f2 : nb = (bowN p).toNat := by omega
  have C : ∀ {hh : Heap}, CALL prg f_spec_OnePole #[.float .f32 k] (fun u h' => FlR u (onePole k') ∧ Ext hh h') hh := spec_OnePole_c hk
  refine ⟨?_, ?_, ?_⟩
  · refine make_z M (by omega) fun g7 h7 B7 x7 M O7 => ⟨?_, ?_⟩
    · refine make_z M (by omega) fun g8 h8 B8 x8 M O8 => C.mono ?_
      rintro _ h9 ⟨⟨kk, yy, zz, rfl, O9⟩, x9⟩
      exact as_a (siz rfl (siz rfl (siz rfl (fin f1 f2 ((M.grow x9).cnt (fun p => by simp only [cnt_app, cnt_cons, cnt_nil] at *; omega)) O7 O8 O9))))
    · refine C.mono ?_
      rintro _ h9 ⟨⟨kk, yy, zz, rfl, O9⟩, x9⟩
      refine as_a (make_z (M.grow x9) (by omega) fun g8 h8 B8 x8 M O8 => ?_)
      exact siz rfl (siz rfl (siz rfl (fin f1 f2 (M.cnt (fun p => by simp only [cnt_app, cnt_cons, cnt_nil] at *; omega)) O7 O8 O9)))
  · refine make_z M (by omega) fun g8 h8 B8 x8 M O8 => ⟨?_, ?_⟩
    · refine make_z M (by omega) fun g7 h7 B7 x7 M O7 => C.mono ?_
      rintro _ h9 ⟨⟨kk, yy, zz, rfl, O9⟩, x9⟩
      exact as_a (siz rfl (siz rfl (siz rfl (fin f1 f2 ((M.grow x9).cnt (fun p => by simp only [cnt_app, cnt_cons, cnt_nil] at *; omega)) O7 O8 O9))))
    · refine C.mono ?_
      rintro _ h9 ⟨⟨kk, yy, zz, rfl, O9⟩, x9⟩
      refine as_a (make_z (M.grow x9) (by omega) fun g7 h7 B7 x7 M O7 => ?_)
      exact siz rfl (siz rfl (siz rfl (fin f1 f2 (M.cnt (fun p => by simp only [cnt_app, cnt_cons, cnt_nil] at *; omega)) O7 O8 O9)))
  · refine C.mono ?_
    rintro _ h9 ⟨⟨kk, yy, zz, rfl, O9⟩, x9⟩
    have M := M.grow x9
    refine as_a ⟨?_, ?_⟩
    · refine make_z M (by omega) fun g7 h7 B7 x7 M O7 => make_z M (by omega) fun g8 h8 B8 x8 M O8 => ?_
      exact siz rfl (siz rfl (siz rfl (fin f1 f2 (M.cnt (fun p => by simp only [cnt_app, cnt_cons, cnt_nil] at *; omega)) O7 O8 O9)))
    · refine make_z M (by omega) fun g8 h8 B8 x8 M O8 => make_z M (by omega) fun g7 h7 B7 x7 M O7 => ?_
      exact siz rfl (siz rfl (siz rfl (fin f1 f2 (M.cnt (fun p => by simp only [cnt_app, cnt_cons, cnt_nil] at *; omega)) O7 O8 O9)))
/-- A ring of silence that the program makes. -/
theorem new_ring {n : Nat} {h0 hh : Heap} {L : List Blk} {K : Value → Heap → Prop} (M : Mem h0 hh L) (h1 : 1 ≤ n) (h2 : n ≤ 1024)
    (H : ∀ h' B b l c, Ext hh h' → Mem h0 h' (B ++ L) → SlO T_float32 (rF .f32) B b l c (List.replicate n 0) → K (.tuple ⟨[.agg ⟨[.slice b l c, .int .i64 (0 : Int)]⟩, .int .i64 (0 : Int)]⟩) h') : CALL prg f_impl_NewRing #[.int .i64 (n : Int)] K hh := by
  refine (NewRing_c _ _).mono ?_
  rintro _ h' ⟨cR, BR, rfl, OR, N⟩
  have hin : inR (n : Int) 1 1024 = true := by rw [inR, decide_eq_true (by omega), decide_eq_true (by omega)]; rfl
  rw [hin] at OR ⊢
  obtain ⟨b, l', c', rfl, OS⟩ := ring_cells OR
  exact H h' BR b l' c' N.ext (M.join N) OS
theorem NewBow_c {p : Int} {k l s k' l' s' : Nat} (hk : FW .f32 k k') (hl : FW .f32 l l') (hs : FW .f32 s s') : CALL prg f_impl_NewBow #[.int .i64 p, .float .f32 1040187392, .float .f32 k, .float .f32 l, .float .f32 s] (fun u h' => PairR rBow h h' u (newBow p k' l' s').1 (newBow p k' l' s').2) h := by
  refine impl_NewBow.call ((Mem.start h).alc fun g1 h1 x1 M => goM M (within_c _ _ _ _) fun h2 M => as_b (brN (fun e => bow_no M (by rw [newBow, e]; rfl)) fun e1 => ?_))
  refine goM M (inside_c c8 fw0 c1 _) fun h3 M => as_b (brN (fun e => by rw [eighth_in] at e; cases e) fun _ => ?_)
  refine goM M (isKeep_c hk _) fun h4 M => as_b (brN (fun e => bow_no M (by rw [newBow, e1, e]; rfl)) fun e2 => ?_)
  refine goM M (inside_c hl fw0 c1 _) fun h5 M => as_b (brN (fun e => bow_no M (by rw [newBow, e1, e2, e]; rfl)) fun e3 => ?_)
  refine goM M (isFinite_c hs _) fun h6 M => as_b (brN (fun e => bow_no M (by rw [newBow, e1, e2, e3, e]; rfl)) fun e4 => ?_)
  have fine : newBow p k' l' s' = (bowOf p k' l' s', 0) := by rw [newBow, e1, e2, e3, e4]; rfl
  rw [fine]
  obtain ⟨p1, p2, b1, b2⟩ := bow_fine e1
  obtain ⟨N, hN, hN2, hcomm, hword⟩ := bow_word e1
  unfold impl_NewBow.J3
  rw [hcomm]
  intro r25 h25 r26 h26
  obtain ⟨n26, i26⟩ := hword h25 h26
  refine goM M (Floor_c n26 _) fun h7 M => as_f (ficI i26 (by omega) (by omega) (max_c (as_i (min_c (as_i ?_)))))
  have hm : (if IntKind.i64.wrap (p - 1) < (if (1 : Int) > (N : Int) then 1 else (N : Int)) then IntKind.i64.wrap (p - 1) else (if (1 : Int) > (N : Int) then 1 else (N : Int))) = bowN p := by
    rw [wrap64 (n := p - 1) (by omega) (by omega)]
    unfold bowN
    rw [hN]
    repeat' split
    all_goals omega
  rw [hm, wrap64 (n := p - bowN p) (by omega) (by omega)]
  obtain ⟨nb, hnb⟩ : ∃ nb : Nat, (nb : Int) = bowN p := ⟨(bowN p).toNat, by omega⟩
  obtain ⟨na, hna⟩ : ∃ na : Nat, (na : Int) = p - bowN p := ⟨(p - bowN p).toNat, by omega⟩
  rw [← hna, ← hnb]
  refine new_ring M (by omega) (by omega) fun h8 B8 q8 l8 c8' x8 M O8 => tup2 (as_a (as_i (M.alc fun g46 h9 x9 M => M.sta0 .here rfl (all_one rfl) rfl .here fun h10 M => ?_)))
  refine new_ring M (by omega) (by omega) fun h11 B11 q11 l11 c11 x11 M O11 => tup2 (as_a (as_i (M.alc fun g55 h12 x12 M => M.sta0 .here rfl (all_one rfl) rfl .here fun h13 M => ?_)))
  have M := M.cnt (W := (g55, T_impl_Ring, ⟨[.slice q11 l11 c11, .int .i64 (0 : Int)]⟩) :: (g46, T_impl_Ring, ⟨[.slice q8 l8 c8', .int .i64 (0 : Int)]⟩) :: (g1, T_impl_Bow, ⟨Z_impl_Bow⟩) :: (B8 ++ B11)) (fun p => by simp only [cnt_app, cnt_cons, cnt_nil] at *; omega)
  refine M.lda0 (.there .here) rfl (M.lda0 .here rfl ((OnePole_c hk).mono ?_))
  rintro _ h14 ⟨⟨kk, yy, zz, rfl, O9⟩, x14⟩
  have P : RdP rRing h13 ⟨g55, 0, none⟩ ⟨List.replicate nb 0, 0⟩ := M.rdp .here (rRing.look (ring_ow (r := ⟨List.replicate nb 0, 0⟩) O11) (M.cnt (W := B11) (fun p => by simp only [cnt_app, cnt_cons, cnt_nil] at *; omega)) (List.Sublist.refl _))
  have Q : RdP rRing h13 ⟨g46, 0, none⟩ ⟨List.replicate na 0, 0⟩ := M.rdp (.there .here) (rRing.look (ring_ow (r := ⟨List.replicate na 0, 0⟩) O8) (M.cnt (W := B8) (fun p => by simp only [cnt_app, cnt_cons, cnt_nil] at *; omega)) (List.Sublist.refl _))
  refine as_a (P.pin rfl x14 (Q.pin rfl x14 (siz rfl (siz rfl (siz rfl ?_)))))
  have f1 : na = (p - bowN p).toNat := by omega
  have f2 : nb = (bowN p).toNat := by omega
  subst f1 f2
  have O := bow_ow (x := bowOf p k' l' s') O8 O11 O9 hs hl
  have M := (M.grow x14).cnt (W := (g1, T_impl_Bow, ⟨Z_impl_Bow⟩) :: (B8 ++ B11)) (fun p => by simp only [cnt_app, cnt_cons, cnt_nil] at *; omega)
  exact M.sta0 .here (rBow.olen O) (rBow.oone O) rfl .here fun h34 M => M.lda0 .here (rBow.olen O) ⟨_, _, rfl, O, M.drop⟩
end
end Go.Sx
