/- Filters drawn are valid. -/
import Derived.Test.YtgbjfohgmpmjoaaGreatDoorAB
import Derived.Test.YtgbjfohgmpmjoaaGreatDoorLr7
import Derived.Test.YtgbjfohgmpmjoaaGreatDoorFD
import Derived.Test.YtgbjfohgmpmjoaaGreatDoorLk46
import Derived.Test.YtgbjfohgmpmjoaaGreatDoorLk60
import Derived.Test.YtgbjfohgmpmjoaaGreatDoorLk21
import Derived.Test.YtgbjfohgmpmjoaaGreatDoorLk59
import Derived.Test.YtgbjfohgmpmjoaaGreatDoorTab
import Derived.Test.YtgbjfohgmpmjoaaGreatDoorLr2
set_option linter.unusedVariables false
set_option linter.unusedSimpArgs false
namespace Go.Sx
open Go.Proofs Ieee
set_option maxRecDepth 100000
set_option maxHeartbeats 1000000

def sineT (y t : Nat) : Nat → Nat
  | 0 => t
  | m + 1 => sineT y (fsub .f64 4607182418800017408 (fmul .f64 (fdiv .f64 y (FloatKind.f64.nearest ((2 * (m + 1 : Nat) * (2 * (m + 1 : Nat) + 1) : Nat) : Int))) t)) m
def sineA (f : Nat) : Nat := fmul .f64 (sineT (fmul .f64 (fmul .f64 4618760256179416344 f) (fmul .f64 4618760256179416344 f)) 4607182418800017408 8) (fmul .f64 4618760256179416344 f)
def sineH (f : Nat) : Bool := FloatKind.f64.format.order f 4602678819172646912 == some .gt || FloatKind.f64.format.order f 4602678819172646912 == some .eq
def sineQ (f : Nat) : Nat := if (FloatKind.f64.format.order f 4598175219545276416 == some .gt) = true then fsub .f64 4602678819172646912 f else f
def sineP (a : Nat) : Nat := fsub .f64 (wid a) (flr (wid a))
def sineD (a : Nat) : Nat := if sineH (sineP a) = true then fneg .f64 (sineA (sineQ (fsub .f64 (sineP a) 4602678819172646912))) else sineA (sineQ (sineP a))
def sineF (a : Nat) : Nat := nar (sineD a)
theorem f64c {c : Nat} (h : c % 9223372036854775808 ≤ 9218868437227405312) (h2 : c < 18446744073709551616) : FW .f64 c c := fw_c64 h h2
theorem l01Sine_c {x a : Nat} (hx : FW .f32 x a) (hf : fin a = true) (hn : nan .f64 (wid a) = false) (hfit : fits (sineD a) = true) (hlt : flr (wid a) % 9223372036854775808 ≤ 9218868437227405312 ∧ flr (wid a) < 18446744073709551616) : Fl prg f_spec_l01Sine #[.float .f32 x] .f32 (sineF a) := fun h => by
  refine spec_l01Sine.call ((l01Finite_c hx h).mono ?_)
  rintro _ h1 ⟨rfl, X1⟩
  refine as_b ?_
  rw [hf]
  refine br_f rfl (ffc_wide hx fun r8 k8 => ffc_wide hx fun r9 k9 => ?_)
  obtain rfl : r9 = wid a := FW.eq k9 hn
  refine (Floor_c hn).go fun h2 X2 => as_f ?_
  have X := X1.trans X2
  refine fS k8 (f64c hlt.1 hlt.2) fun r13 k13 => ?_
  have k13 : FW .f64 r13 (sineP a) := k13
  rw [ord_eq k13 (f64c (by decide) (by decide))]
  -- the end
  have j9 : ∀ {f d : Nat} {ng : Bool}, FW .f64 f d → (if ng = true then fneg .f64 (sineA d) else sineA d) = sineD a → spec_l01Sine.J9 (fun u h' => (∃ y, u = .float .f32 y ∧ FW .f32 y (sineF a)) ∧ Ext h h') f ng h2 := fun {f d ng} hd he => by
    unfold spec_l01Sine.J9
    refine fM (f64c (by decide) (by decide)) hd fun r16 k16 => fM k16 k16 fun r17 k17 => ?_
    refine loop (fun y hh => ∃ (m t t' : Nat), y = (ng, r16, r17, t, (m : Int)) ∧ m ≤ 8 ∧ FW .f64 t t' ∧ sineT (fmul .f64 (fmul .f64 4618760256179416344 d) (fmul .f64 4618760256179416344 d)) t' m = sineT (fmul .f64 (fmul .f64 4618760256179416344 d) (fmul .f64 4618760256179416344 d)) 4607182418800017408 8 ∧ Ext h hh) (fun y => y.2.2.2.2.toNat)
      ⟨8, _, _, rfl, by omega, f64c (by decide) (by decide), rfl, X⟩ ?_
    rintro y hh ⟨m, t, t', rfl, hm, ht, e, X⟩
    refine brd (fun hc => ?_) fun hc => ?_
    · obtain ⟨m, rfl⟩ : ∃ k, m = k + 1 := ⟨m - 1, by omega⟩
      rw [wrap64 (n := 2 * ((m + 1 : Nat) : Int)) (by omega) (by omega), wrap64 (n := 2 * ((m + 1 : Nat) : Int) + 1) (by omega) (by omega)]
      have hk : m = 0 ∨ m = 1 ∨ m = 2 ∨ m = 3 ∨ m = 4 ∨ m = 5 ∨ m = 6 ∨ m = 7 := by omega
      have hp : 2 * ((m + 1 : Nat) : Int) * (2 * ((m + 1 : Nat) : Int) + 1) = ((2 * (m + 1 : Nat) * (2 * (m + 1 : Nat) + 1) : Nat) : Int) := by push_cast; rfl
      have hp2 : (2 * (m + 1 : Nat) * (2 * (m + 1 : Nat) + 1) : Nat) ≤ 1000 := by rcases hk with rfl | rfl | rfl | rfl | rfl | rfl | rfl | rfl <;> decide
      rw [hp, wrap64 (by omega) (by omega)]
      refine fD k17 (fw_nearest _ _) fun r18 k18 => fM k18 ht fun r19 k19 => fS (f64c (by decide) (by decide)) k19 fun r20 k20 => ?_
      rw [show IntKind.i64.wrap (((m + 1 : Nat) : Int) - 1) = (m : Int) by rw [wrap64 (by omega) (by omega)]; omega]
      exact ⟨⟨m, r20, _, rfl, by omega, k20, e, X⟩, by show ((m : Int)).toNat < ((m + 1 : Nat) : Int).toNat; omega⟩
    obtain rfl : m = 0 := by omega
    refine fM ht k16 fun r21 k21 => ?_
    have e : t' = sineT (fmul .f64 (fmul .f64 4618760256179416344 d) (fmul .f64 4618760256179416344 d)) 4607182418800017408 8 := e
    have k21 : FW .f64 r21 (sineA d) := by rw [e] at k21; exact k21
    refine br (fun hb => ?_) fun hb => ?_
    · rw [if_pos hb] at he
      refine ffc_nar (fw_neg k21) (by rw [he]; exact hfit) fun r22 k22 => ⟨⟨r22, rfl, ?_⟩, X⟩
      rw [he] at k22; exact k22
    · rw [if_neg (by rw [hb]; decide)] at he
      refine ffc_nar k21 (by rw [he]; exact hfit) fun r23 k23 => ⟨⟨r23, rfl, ?_⟩, X⟩
      rw [he] at k23; exact k23
  have j7 : ∀ {f d : Nat} {ng : Bool}, FW .f64 f d → (if ng = true then fneg .f64 (sineA (sineQ d)) else sineA (sineQ d)) = sineD a → spec_l01Sine.J7 (fun u h' => (∃ y, u = .float .f32 y ∧ FW .f32 y (sineF a)) ∧ Ext h h') f ng h2 := fun {f d ng} hd he => by
    unfold spec_l01Sine.J7
    rw [ord_eq hd (f64c (by decide) (by decide))]
    refine br (fun hb => fS (f64c (by decide) (by decide)) hd fun r15 k15 => j9 k15 ?_) fun hb => j9 hd ?_
    · have e : sineQ d = fsub .f64 4602678819172646912 d := by unfold sineQ; exact if_pos hb
      rw [← he, e]
    · have e : sineQ d = d := by unfold sineQ; exact if_neg (by rw [hb]; decide)
      rw [← he, e]
  have hH : (FloatKind.f64.format.order (sineP a) 4602678819172646912 == some .gt || FloatKind.f64.format.order (sineP a) 4602678819172646912 == some .eq) = sineH (sineP a) := rfl
  rw [hH]
  refine br (fun hb => fS k13 (f64c (by decide) (by decide)) fun r14 k14 => j7 k14 ?_) fun hb => j7 k13 ?_
  · unfold sineD; rw [if_pos hb, if_pos hb]
  · unfold sineD; rw [if_neg (by rw [hb]; decide), if_neg (by rw [hb]; decide)]
def s64 (v : Int) : Nat := fdiv .f32 (FloatKind.f32.nearest v) 1115684864
def s128 (v : Int) : Nat := fdiv .f32 (FloatKind.f32.nearest v) 1124073472
def turnW (v : Int) : Nat := fadd .f32 (s128 v) 1048576000
theorem sine_ok {v : Int} (h0 : 0 ≤ v) (h1 : v < 65) : fin (turnW v) = true ∧ nan .f64 (wid (turnW v)) = false ∧ fits (sineD (turnW v)) = true ∧ flr (wid (turnW v)) % 9223372036854775808 ≤ 9218868437227405312 ∧ flr (wid (turnW v)) < 18446744073709551616 := by
  have A : (List.range 65).all (fun v => fin (turnW (v : Int)) && !nan .f64 (wid (turnW (v : Int))) && fits (sineD (turnW (v : Int))) && decide (flr (wid (turnW (v : Int))) % 9223372036854775808 ≤ 9218868437227405312) && decide (flr (wid (turnW (v : Int))) < 18446744073709551616)) = true := by decide +kernel
  obtain ⟨n, rfl⟩ := Int.eq_ofNat_of_zero_le h0
  have := List.all_eq_true.1 A n (List.mem_range.2 (by omega))
  simp only [Bool.and_eq_true, Bool.not_eq_true', decide_eq_true_eq] at this
  exact ⟨this.1.1.1.1, this.1.1.1.2, this.1.1.2, this.1.2, this.2⟩
def twoPole (c r : Nat) : GFilter := ⟨4, [fsub .f32 1065353216 r, fneg .f32 (fmul .f32 (fmul .f32 1073741824 r) c), fmul .f32 r r], [0, 0]⟩
def dcOf (k : Nat) : GFilter := ⟨5, [k, 0, 0], [0, 0]⟩
theorem plain_ok {v : Int} (h0 : 0 ≤ v) (h1 : v < 65) : (onePole (s64 v)).ok = true ∧ (oneZero (s64 v)).ok = true ∧ (allpassFor (s64 v)).ok = true ∧ (dcOf (s64 v)).ok = true := by
  have A : (List.range 65).all (fun v => (onePole (s64 (v : Int))).ok && (oneZero (s64 (v : Int))).ok && (allpassFor (s64 (v : Int))).ok && (dcOf (s64 (v : Int))).ok) = true := by decide +kernel
  obtain ⟨n, rfl⟩ := Int.eq_ofNat_of_zero_le h0
  have := List.all_eq_true.1 A n (List.mem_range.2 (by omega))
  simp only [Bool.and_eq_true] at this
  exact ⟨this.1.1.1, this.1.1.2, this.1.2, this.2⟩
def sines : List Nat := [1065353216, 1065333007, 1065272429, 1065171628, 1065030846, 1064850424, 1064630795, 1064372488, 1064076126, 1063742424, 1063372184, 1062966298, 1062525745, 1062051586, 1061544963, 1061007097, 1060439283, 1059842890, 1059219353, 1058570176, 1057896922, 1057201213, 1056004842, 1054533760, 1053028117, 1051491540, 1049927729, 1048104908, 1044891074, 1041645699, 1036565814, 1028193072, 2147483648, 3175676720, 3184049462, 3189129347, 3192374722, 3195588556, 3197411377, 3198975188, 3200511765, 3202017408, 3203488490, 3204684861, 3205380570, 3206053824, 3206703001, 3207326538, 3207922931, 3208490745, 3209028611, 3209535234, 3210009393, 3210449946, 3210855832, 3211226072, 3211559774, 3211856136, 3212114443, 3212334072, 3212514494, 3212655276, 3212756077, 3212816655, 3212836864]
theorem sines_eq : (List.range 65).map (fun v : Nat => sineF (turnW (v : Int))) = sines := by decide +kernel
theorem two_ok {v w : Int} (h0 : 0 ≤ v) (h1 : v < 65) (w0 : 0 ≤ w) (w1 : w < 64) : (twoPole (sineF (turnW v)) (s64 w)).ok = true := by
  have A : (List.range 64).all (fun w => sines.all fun c => (twoPole c (s64 (w : Int))).ok) = true := by decide +kernel
  obtain ⟨n, rfl⟩ := Int.eq_ofNat_of_zero_le h0
  obtain ⟨m, rfl⟩ := Int.eq_ofNat_of_zero_le w0
  refine List.all_eq_true.1 (List.all_eq_true.1 A m (List.mem_range.2 (by omega))) _ ?_
  rw [← sines_eq]
  exact List.mem_map.2 ⟨n, List.mem_range.2 (by omega), rfl⟩
end Go.Sx
/- Filters drawn are valid. -/
set_option linter.unusedVariables false
set_option linter.unusedSimpArgs false
namespace Go.Sx
open Go.Proofs Ieee
set_option maxRecDepth 100000
set_option maxHeartbeats 1000000

/-- A step keeps a filter valid. -/
theorem filter_step_ok {f : GFilter} {a : Nat} (h : f.ok = true) : (f.step a).1.ok = true := by
  unfold GFilter.ok at h
  simp only [Bool.and_eq_true] at h
  have hk := h.1.1
  simp only [inR, Bool.and_eq_true, decide_eq_true_eq] at hk
  have fin1 : ∀ S : List Nat, used S (usesS f.Kind) = true → ({ f with S := S } : GFilter).ok = true := fun S hS => by
    unfold GFilter.ok
    rw [Bool.and_eq_true]
    exact ⟨by simp only [Bool.and_eq_true]; exact h.1, hS⟩
  have hS := h.2
  have u1 : (f.Kind = 1 ∨ f.Kind = 2) → usesS f.Kind = 1 := fun e => by unfold usesS; rw [if_pos e]
  have u2 : ¬ (f.Kind = 1 ∨ f.Kind = 2) → usesS f.Kind = 2 := fun e => by unfold usesS; rw [if_neg e]
  by_cases k1 : f.Kind = 1
  · rw [step1 k1]; exact fin1 _ (used_set0 hS (by rw [u1 (.inl k1)]; decide))
  by_cases k2 : f.Kind = 2
  · rw [step2 k2]; exact fin1 _ (used_set0 hS (by rw [u1 (.inr k2)]; decide))
  have u := u2 (by omega)
  by_cases k3 : f.Kind = 3
  · rw [step3 k3]; exact fin1 _ (by rw [u] at hS ⊢; exact used_setN (i := 1) (used_setN (i := 0) hS (by decide)) (by decide))
  by_cases k4 : f.Kind = 4
  · rw [step4 k4]; exact fin1 _ (by rw [u] at hS ⊢; exact used_setN (i := 1) (used_setN (i := 0) hS (by decide)) (by decide))
  · rw [step5 k1 k2 k3 k4]; exact fin1 _ (by rw [u] at hS ⊢; exact used_setN (i := 1) (used_setN (i := 0) hS (by decide)) (by decide))
/-- A filter's cells, told by a call. -/
def FlT (u : Value) (f : GFilter) : Prop := ∃ v, u = .agg ⟨flT v⟩ ∧ rFilter.ow [] (flT v) f
theorem FlR.t {u : Value} {f : GFilter} (h : FlR u f) : FlT u f := by
  obtain ⟨k, y, z, e, O⟩ := h
  exact ⟨(k, y, z, 0, 0, 0), e, O⟩
theorem flT_one {v : Int × Nat × Nat × Nat × Nat × Nat} : ∀ w ∈ (⟨flT v⟩ : Array Value).toList, w.oneCell' = true := all_one rfl
section
variable {h0 h : Heap} {L : List Blk} {g : Nat} {cb : Option Addr} {cc K : Nat} {xs : List Int}
theorem TwoPole_c {x y v : Nat} {n : Int} (n0 : 0 ≤ n) (n1 : n < 65) (hx : FW .f32 x (s128 n)) (hy : FW .f32 y v) : CALL prg f_spec_TwoPole #[.float .f32 x, .float .f32 y] (fun u h' => FlT u (twoPole (sineF (turnW n)) v) ∧ Ext h h') h := by
  obtain ⟨k1, k2, k3, k4, k5⟩ := sine_ok n0 n1
  refine spec_TwoPole.call ((Mem.start h).alc fun g1 h1 x1 M => fA hx (fw_c32 (by decide) (by decide)) fun r3 q3 => ?_)
  have q3 : FW .f32 r3 (turnW n) := q3
  refine (l01Sine_c q3 k1 k2 k3 ⟨k4, k5⟩).mem M fun h2 r6 M q6 => as_f ?_
  refine fS c1 hy fun r7 q7 => fM c2 hy fun r8 q8 => fM q8 q6 fun r9 q9 => fM hy hy fun r10 q10 => siz rfl ?_
  exact M.sta0 .here rfl (all_one rfl) rfl .here fun h3 M => M.lda0 .here rfl ⟨⟨(4, r7, Op.negFloat .f32 r9, r10, 0, 0), rfl, filter_ow q7 (fw_neg q9) q10 fw0 fw0⟩, M.ext⟩
theorem dcOf_c {x a : Nat} (hx : FW .f32 x a) : CALL prg f_spec_BlockDc #[.float .f32 x] (fun u h' => FlT u (dcOf a) ∧ Ext h h') h :=
  spec_BlockDc.call ((Mem.start h).alc fun g1 h1 x1 M => siz rfl (M.sta0 .here rfl (all_one rfl) rfl .here fun h3' M => M.lda0 .here rfl ⟨⟨(5, x, 0, 0, 0, 0), rfl, filter_ow hx fw0 fw0 fw0 fw0⟩, M.ext⟩))
/-- A filter drawn, the machine behind it. -/
def DrF (h0 h' : Heap) (L : List Blk) (g : Nat) (cb : Option Addr) (cl cc K : Nat) (u : Value) : Prop := ∃ v f, u = .agg ⟨flT v⟩ ∧ rFilter.ow [] (flT v) f ∧ f.ok = true ∧ Src h0 h' L g cb cl cc K
theorem l02Drawn_c (S : Src h0 h L g cb xs.length cc K) (C : Cells h0 cb (iv .u8 xs)) (hb : Byt' xs) (hK : K ≤ 1040000) :
    CALL prg f_spec_l02Drawn #[.pointer (some ⟨g, 0, none⟩)] (fun u h' => DrF h0 h' L g cb xs.length cc (K + 100) u) h := by
  refine spec_l02Drawn.call (S.alc fun t h1 S => (pick_c S C hb (by omega)).mono ?_)
  rintro _ h2 ⟨a, rfl, a1, a2, a3, S⟩
  refine as_i (fD (fw_nearest .f32 a) (fw_c32 (by decide) (by decide)) fun r6 k6 => ?_)
  have k6 : FW .f32 r6 (s64 a) := k6
  refine (spec_OnePole_c k6).mono ?_
  rintro _ h3 ⟨E3, x3⟩
  obtain ⟨v, rfl, O⟩ := E3.t
  have hok := (plain_ok a1 (show a < 65 by omega)).1
  refine as_a ((S.grow x3).alc fun r h4 S => S.sta (vs := ⟨flT v⟩) rfl flT_one rfl fun h5 S => (pick_c S C hb (by omega)).mono ?_)
  rintro _ h6 ⟨n, rfl, n1, n2, n3, S⟩
  refine as_i ?_
  -- the steps
  have j11 : ∀ {hh : Heap} {v : Int × Nat × Nat × Nat × Nat × Nat} {f : GFilter}, rFilter.ow [] (flT v) f → f.ok = true → Src h0 hh ((r, T_impl_Filter, ⟨flT v⟩) :: (t, T_impl_Filter, ⟨Z_impl_Filter⟩) :: L) g cb xs.length cc (K + 20) →
      spec_l02Drawn.J11 (fun u h' => DrF h0 h' L g cb xs.length cc (K + 100) u) ⟨g, 0, none⟩ ⟨t, 0, none⟩ ⟨r, 0, none⟩ hh := fun {hh v f} O hok S => by
    unfold spec_l02Drawn.J11
    refine (pick_c S C hb (by omega)).mono ?_
    rintro _ h7 ⟨i, rfl, i1, i2, i3, S⟩
    refine as_i ?_
    refine loop (fun y hh => ∃ (j : Int) (x : GFilter), y = (⟨g, 0, none⟩, ⟨t, 0, none⟩, ⟨r, 0, none⟩, j) ∧ 0 ≤ j ∧ j ≤ i ∧ x.ok = true ∧ DG rFilter T_impl_Filter h0 hh ((t, T_impl_Filter, ⟨Z_impl_Filter⟩) :: L) g cb xs.length cc (K + 40 - 2 * j.toNat) r x) (fun y => y.2.2.2.toNat)
      ⟨i, f, rfl, i1, by omega, hok, ⟨flT v⟩, [], O, S.mono (by omega)⟩ ?_
    rintro y hh ⟨i, x, rfl, hi, hiv, hx, D⟩
    refine brd (fun hc => ?_) fun hc => ?_
    · obtain ⟨cs, B, O, S⟩ := D
      refine (l01Plain_c S C hb (by omega)).mono ?_
      rintro _ h3 ⟨y, u, rfl, u1, u2, hy, S⟩
      obtain ⟨p, st, hp, P⟩ := DG.pt ⟨cs, B, O, S⟩
      refine as_f ((l02Step_c P hy).mono ?_)
      rintro _ h4 ⟨⟨z, rfl, hz⟩, P⟩
      exact as_f ⟨⟨i - 1, _, by rw [wrap64 (n := i - 1) (by omega) (by omega)], by omega, by omega, filter_step_ok hx, DG.of (by omega) P⟩, by rw [wrap64 (n := i - 1) (by omega) (by omega)]; show (i - 1).toNat < i.toNat; omega⟩
    obtain ⟨cs, B, O, S⟩ := D
    obtain ⟨p, st, hp, M⟩ := S
    obtain ⟨w, ew, Ow⟩ := filter_cells (rFilter.look O M ((List.sublist_append_left _ _).trans ((List.sublist_cons_self _ _).trans (List.sublist_cons_self _ _))))
    have ew : cs = ⟨flT w⟩ := by cases cs; exact congrArg Array.mk ew
    subst ew
    refine M.lda0 (.there .here) rfl ?_
    have M := M.cnt (W := (t, T_impl_Filter, ⟨Z_impl_Filter⟩) :: (g, T_spec_l00Src, ⟨[.slice cb xs.length cc, .int .i64 (p : Int), .int .u64 st]⟩) :: L) (fun p => by simp only [cnt_app, cnt_cons, cnt_nil]; omega)
    exact M.sta0 .here rfl flT_one rfl .here fun h3 M => M.lda0 .here rfl ⟨w, x, rfl, Ow, hx, p, st, by omega, M.cnt fun q => by simp only [cnt_cons]; omega⟩
  have st : ∀ {hh : Heap} {w : Int × Nat × Nat × Nat × Nat × Nat} {f : GFilter}, rFilter.ow [] (flT w) f → f.ok = true → Src h0 hh ((r, T_impl_Filter, ⟨flT v⟩) :: (t, T_impl_Filter, ⟨Z_impl_Filter⟩) :: L) g cb xs.length cc (K + 20) →
      STA 6 hh ⟨r, 0, none⟩ ⟨flT w⟩ fun h23 => spec_l02Drawn.J11 (fun u h' => DrF h0 h' L g cb xs.length cc (K + 100) u) ⟨g, 0, none⟩ ⟨t, 0, none⟩ ⟨r, 0, none⟩ h23 := fun {hh w f} Ow hok S =>
    S.sta (vs := ⟨flT w⟩) rfl flT_one rfl fun h7 S => j11 Ow hok S
  refine br (fun _ => ?_) fun _ => br (fun _ => ?_) fun _ => br (fun _ => ?_) fun _ => br (fun _ => ?_) fun _ => j11 O hok (S.mono (by omega))
  · refine (pick_c S C hb (by omega)).mono ?_
    rintro _ h7 ⟨m, rfl, m1, m2, m3, S⟩
    refine as_i (fD (fw_nearest .f32 m) (fw_c32 (by decide) (by decide)) fun r7 k7 => ?_)
    have k7 : FW .f32 r7 (s64 m) := k7
    refine (spec_OneZero_c k7).mono ?_
    rintro _ h8 ⟨E8, x8⟩
    obtain ⟨w, rfl, Ow⟩ := E8.t
    exact as_a (st Ow (plain_ok m1 (show m < 65 by omega)).2.1 ((S.grow x8).mono (by omega)))
  · refine (pick_c S C hb (by omega)).mono ?_
    rintro _ h7 ⟨m, rfl, m1, m2, m3, S⟩
    refine as_i (fD (fw_nearest .f32 m) (fw_c32 (by decide) (by decide)) fun r7 k7 => ?_)
    have k7 : FW .f32 r7 (s64 m) := k7
    refine (spec_AllpassFor_c k7).mono ?_
    rintro _ h8 ⟨⟨k, n, y, rfl, Ow⟩, x8⟩
    exact tup2 (as_a (as_i (st (w := (k, y, 0, 0, 0, 0)) Ow (plain_ok m1 (show m < 65 by omega)).2.2.1 ((S.grow x8).mono (by omega)))))
  · refine (pick_c S C hb (by omega)).mono ?_
    rintro _ h7 ⟨m, rfl, m1, m2, m3, S⟩
    refine as_i (fD (fw_nearest .f32 m) (fw_c32 (by decide) (by decide)) fun r7 k7 => ?_)
    have k7 : FW .f32 r7 (s128 m) := k7
    refine (pick_c S C hb (by omega)).mono ?_
    rintro _ h8 ⟨z, rfl, z1, z2, z3, S⟩
    refine as_i (fD (fw_nearest .f32 z) (fw_c32 (by decide) (by decide)) fun r8 k8 => ?_)
    have k8 : FW .f32 r8 (s64 z) := k8
    refine (TwoPole_c m1 (show m < 65 by omega) k7 k8).mono ?_
    rintro _ h9 ⟨⟨w, rfl, Ow⟩, x9⟩
    exact as_a (st Ow (two_ok m1 (by omega) z1 (by omega)) ((S.grow x9).mono (by omega)))
  · refine (pick_c S C hb (by omega)).mono ?_
    rintro _ h7 ⟨m, rfl, m1, m2, m3, S⟩
    refine as_i (fD (fw_nearest .f32 m) (fw_c32 (by decide) (by decide)) fun r7 k7 => ?_)
    have k7 : FW .f32 r7 (s64 m) := k7
    refine (dcOf_c k7).mono ?_
    rintro _ h8 ⟨⟨w, rfl, Ow⟩, x8⟩
    exact as_a (st Ow (plain_ok m1 (show m < 65 by omega)).2.2.2 ((S.grow x8).mono (by omega)))
theorem A2Filter_c (M : Mem h0 h L) (C : Cells h0 cb (iv .u8 xs)) (hb : Byt' xs) :
    CALL prg f_spec_A2Filter #[.slice cb xs.length cc] (fun u h' => ∃ v f, u = .agg ⟨flT v⟩ ∧ rFilter.ow [] (flT v) f ∧ f.ok = true ∧ Mem h0 h' L) h := by
  refine spec_A2Filter.call (M.alc fun g1 h1 x1 M => (l00From_c M).mono ?_)
  rintro _ h2 ⟨g, rfl, S⟩
  refine as_p ((l02Drawn_c S C hb (by omega)).mono ?_)
  rintro _ h3 ⟨v, f, rfl, O, hf, S⟩
  exact as_a (S.mem.sta0 .here rfl flT_one rfl .here fun h4 M => M.lda0 .here rfl ⟨v, f, rfl, O, hf, M.drop⟩)
theorem A2Filters_c (M : Mem h0 h L) (C : Cells h0 cb (iv .u8 xs)) (hb : Byt' xs) :
    CALL prg f_spec_A2Filters #[.slice cb xs.length cc, .int .i64 (4 : Int)] (fun u h' => ∃ b l c B fs, u = .slice b l c ∧ SlO T_impl_Filter rFilter B b l c fs ∧ l ≤ 4 ∧ (∀ f ∈ fs, f.ok = true) ∧ Mem h0 h' (B ++ L)) h := by
  have hm : (1048577 : Nat) ≤ maxLen := by decide
  refine spec_A2Filters.call ((l00From_c M).mono ?_)
  rintro _ h1 ⟨g, rfl, S⟩
  rw [wrap64 (n := 4 + 1) (by decide) (by decide)]
  refine as_p (S.alc fun g4 h2 S => (pick_c S C hb (by omega)).mono ?_)
  rintro _ h3 ⟨i, rfl, i1, i2, i3, S⟩
  refine as_i ?_
  refine loop (fun y hh => ∃ (j : Int) (b' : Option Addr) (l c' : Nat) (B : List Blk) (fs : List GFilter), y = (⟨g, 0, none⟩, b', l, c', j) ∧ 0 ≤ j ∧ (l : Int) + j = i ∧ SlO T_impl_Filter rFilter B b' l c' fs ∧ (∀ f ∈ fs, f.ok = true) ∧ Src h0 hh (B ++ L) g cb xs.length cc (2 + 100 * l)) (fun y => y.2.2.2.2.toNat)
    ⟨i, _, _, _, [(g4, T_impl_Filter, ⟨[]⟩)], [], rfl, i1, by omega, SlO.empty g4, by simp, S⟩ ?_
  rintro y hh ⟨j, b', l, c', B, fs, rfl, hj, hl, O, hf, S⟩
  refine brd (fun hc => ?_) fun hc => ?_
  · refine (l02Drawn_c S C hb (by omega)).mono ?_
    rintro _ h4 ⟨v, f, rfl, Of, hok, p, st, hp, M⟩
    refine as_a (siz rfl ?_)
    refine push_own (Bn := []) (L := (g, T_spec_l00Src, ⟨[.slice cb xs.length cc, .int .i64 (p : Int), .int .u64 st]⟩) :: L) (x := f) (cs := ⟨flT v⟩) E_sl_impl_Filter O (M.cnt fun p => by simp only [cnt_app, cnt_cons, cnt_nil]; omega) Of (by omega) (by omega) fun b2 c2 h5 B2 O2 M2 => as_l ?_
    refine ⟨⟨j - 1, b2, l + 1, c2, B2, fs ++ [f], by rw [wrap64 (n := j - 1) (by omega) (by omega)], by omega, by omega, O2, fun f' hf' => ?_, p, st, by omega, M2.cnt fun p => by simp only [cnt_app, cnt_cons, cnt_nil]; omega⟩, by rw [wrap64 (n := j - 1) (by omega) (by omega)]; show (j - 1).toNat < j.toNat; omega⟩
    rcases List.mem_append.1 hf' with k | k
    · exact hf _ k
    · obtain rfl := List.mem_singleton.1 k; exact hok
  exact ⟨b', l, c', B, fs, rfl, O, by omega, hf, S.mem⟩
end
end Go.Sx
/- Jets played by the rule, played as a block, muted; samples drawn. -/
set_option linter.unusedVariables false
set_option linter.unusedSimpArgs false
namespace Go.Sx
open Go.Proofs
set_option maxRecDepth 100000
set_option maxHeartbeats 2000000

section
variable {α : Type} {st : α → Nat → α × Nat} {x : α} {xs : List Nat}
def gN (st : α → Nat → α × Nat) (x : α) (xs : List Nat) (n : Nat) : α := (playG st x (xs.take n)).1
def outN (st : α → Nat → α × Nat) (x : α) (xs : List Nat) (n : Nat) : Nat := (st (gN st x xs n) xs[n]!).2
theorem gN_step {n : Nat} (hn : n < xs.length) : gN st x xs (n + 1) = (st (gN st x xs n) xs[n]!).1 := by
  unfold gN
  rw [playG_step hn]
theorem gN_all (h : xs.length = 16) : gN st x xs 16 = (playG st x xs).1 := by
  unfold gN
  rw [← h, List.take_length]
theorem playG_len' (st : α → Nat → α × Nat) : ∀ (l : List Nat) (x : α), (playG st x l).2.length = l.length
  | [], _ => rfl
  | a :: l, x => by simp only [playG, List.length_cons]; rw [playG_len' st l]
theorem playG_take (n : Nat) : (playG st x (xs.take n)).2 = (playG st x xs).2.take n := by
  by_cases h : n ≤ xs.length
  · conv => rhs; rw [← List.take_append_drop n xs, playG_append]
    rw [List.take_left' (by rw [playG_len', List.length_take]; omega)]
  · rw [List.take_of_length_le (show xs.length ≤ n by omega), List.take_of_length_le (by rw [playG_len']; omega)]
theorem outN_all (h : xs.length = 16) : mapI (outN st x xs) zeros16 16 = (playG st x xs).2 := by
  have hz : zeros16.length = 16 := rfl
  rw [mapI_all (by rw [hz]; decide), hz]
  have key : ∀ n, n ≤ 16 → (List.range n).map (outN st x xs) = (playG st x xs).2.take n := by
    intro n
    induction n with
    | zero => intro _; rfl
    | succ n ih =>
      intro hn
      rw [List.range_succ, List.map_append, ih (by omega), ← playG_take, ← playG_take, playG_step (by omega)]
      rfl
  rw [key 16 (by omega), List.take_of_length_le (by rw [playG_len']; omega)]
end
end Go.Sx
