/- Sums of squares: never less than nought, and nought added changes nothing. -/
import Derived.Test.YtkgmfiloghhibaaGreatDoorLm7
import Derived.Test.YtkgmfiloghhibaaGreatDoorLk72
import Derived.Test.YtkgmfiloghhibaaGreatDoorLfk
import Derived.Test.YtkgmfiloghhibaaGreatDoorTab
set_option linter.unusedVariables false
set_option linter.unusedSimpArgs false
namespace Go.Sx
open Go.Proofs Ieee
set_option maxRecDepth 100000
set_option maxHeartbeats 1000000

/-- A float64 that has no sign and is not a NaN. -/
def Nng (a : Nat) : Prop := a ≤ 2047 * 2 ^ 52
theorem Nng.lt {a : Nat} (h : Nng a) : a < 2 ^ 63 := by unfold Nng at h; omega
theorem Nng.rd {a : Nat} (h : Nng a) : (∃ m e, FloatKind.f64.format.read a = .number false m e ∧ -1074 ≤ e) ∨ FloatKind.f64.format.read a = .infinity false ∧ a = 2047 * 2 ^ 52 := by
  obtain ⟨e1, e2, e3, e4⟩ := f64_consts
  have e5 : FloatKind.f64.format.signWeight = 2 ^ 63 := rfl
  have hl := h.lt
  have hd : a / 2 ^ 63 = 0 := Nat.div_eq_of_lt hl
  unfold Nng at h
  have hm : a % 2 ^ 63 = a := Nat.mod_eq_of_lt hl
  unfold Format.read
  dsimp only
  rw [e5, e3, e4, e2, hd, hm]
  by_cases h1 : a < 2 ^ 52
  · rw [if_pos h1]; exact .inl ⟨_, _, rfl, by omega⟩
  · rw [if_neg h1]
    by_cases h2 : a < 2047 * 2 ^ 52
    · rw [if_pos h2]; exact .inl ⟨_, _, rfl, by omega⟩
    · rw [if_neg h2, if_pos (show a = 2047 * 2 ^ 52 by omega)]; exact .inr ⟨rfl, by omega⟩
theorem Nng.num {a : Nat} (h : Nng a) : nan .f64 a = false := by
  rw [nan64]
  unfold Nng at h
  rw [decide_eq_false_iff_not]
  have := Nat.mod_le a 9223372036854775808
  omega
theorem Nng.cn {a : Nat} (h : Nng a) : cn .f64 a = a := by
  have h1 := h.num
  unfold Sx.cn
  rw [h1]; rfl
theorem nn_near (m : Nat) (e : Int) : Nng (FloatKind.f64.format.nearest false m e) := by
  obtain ⟨e1, e2, e3, e4⟩ := f64_consts
  unfold Nng Format.nearest
  split
  · rw [word_false]; exact Nat.zero_le _
  · rw [word_false]
    have := Nat.min_le_right ((max (e + m.log2 - FloatKind.f64.format.fractionBits) FloatKind.f64.format.leastPlace - FloatKind.f64.format.leastPlace).toNat * FloatKind.f64.format.binade + Toward.even.cut false (m <<< (e - max (e + m.log2 - FloatKind.f64.format.fractionBits) FloatKind.f64.format.leastPlace).toNat) (max (e + m.log2 - FloatKind.f64.format.fractionBits) FloatKind.f64.format.leastPlace - e).toNat) FloatKind.f64.format.infRung
    omega
theorem nn_inf : Nng (FloatKind.f64.format.word false FloatKind.f64.format.infRung) := by
  rw [word_false, f64_consts.2.2.2]
  exact Nat.le_refl _
/-- A square. -/
theorem nn_sq {w : Nat} (h : nan .f64 w = false) : Nng (fmul .f64 w w) := by
  unfold fmul
  have h' : (FloatKind.f64.format.read w).isNaN = false := h
  have key : ∃ r, FloatKind.f64.format.mul w w = some r ∧ Nng r := by
    unfold Format.mul
    cases e : FloatKind.f64.format.read w with
    | nan s t => rw [e] at h'; cases h'
    | infinity s =>
      refine ⟨_, rfl, ?_⟩
      show Nng (FloatKind.f64.format.write (.infinity (s ^^ s)))
      rw [Bool.xor_self]
      exact nn_inf
    | number s m i =>
      refine ⟨_, rfl, ?_⟩
      show Nng (FloatKind.f64.format.write (.number (s ^^ s) (m * m) (i + i)))
      rw [Bool.xor_self]
      exact nn_near _ _
  obtain ⟨r, hr, hn⟩ := key
  rw [hr, Option.getD_some, hn.cn]
  exact hn
theorem nn_add {a b : Nat} (ha : Nng a) (hb : Nng b) : Nng (fadd .f64 a b) := by
  unfold fadd
  have key : ∃ r, FloatKind.f64.format.add a b = some r ∧ Nng r := by
    unfold Format.add
    rcases ha.rd with ⟨m, i, e1, _⟩ | ⟨e1, _⟩ <;> rcases hb.rd with ⟨n, j, e2, _⟩ | ⟨e2, _⟩ <;> rw [e1, e2]
    · refine ⟨_, rfl, ?_⟩
      show Nng (FloatKind.f64.format.write (.number _ _ _))
      have : (if signed false m (i - min i j).toNat + signed false n (j - min i j).toNat = 0 then (false && false) else decide (signed false m (i - min i j).toNat + signed false n (j - min i j).toNat < 0)) = false := by
        rw [signed_f, signed_f]
        split
        · rfl
        · rw [decide_eq_false_iff_not]; omega
      rw [this]
      exact nn_near _ _
    · exact ⟨_, rfl, nn_inf⟩
    · exact ⟨_, rfl, nn_inf⟩
    · exact ⟨_, rfl, nn_inf⟩
  obtain ⟨r, hr, hn⟩ := key
  rw [hr, Option.getD_some, hn.cn]
  exact hn
theorem back64 {a m : Nat} {e : Int} (hl : a < 2 ^ 63) (h : FloatKind.f64.format.read a = .number false m e) : FloatKind.f64.format.nearest false m e = a := by
  obtain ⟨e1, e2, e3, e4⟩ := f64_consts
  have e5 : FloatKind.f64.format.signWeight = 2 ^ 63 := rfl
  have hmod : a % 2 ^ 63 = a := Nat.mod_eq_of_lt hl
  unfold Format.read at h
  dsimp only at h
  rw [e5, e3, e4, e2, hmod] at h
  split at h
  · next hr =>
    simp only [Datum.number.injEq] at h
    obtain ⟨_, rfl, rfl⟩ := h
    by_cases hz : a = 0
    · rw [hz, nearest_zero, word_false]
    · have hl : a.log2 < 52 := (Nat.log2_lt hz).2 hr
      rw [nearest_keep _ _ hz (by rw [e1, e2]; omega), e2, e3, e4, word_false]
      simp only [Int.sub_self, Int.toNat_zero, Nat.zero_mul, Nat.zero_add]
      omega
  · next hr =>
    split at h
    · next hr2 =>
      simp only [Datum.number.injEq] at h
      obtain ⟨_, rfl, rfl⟩ := h
      have hm : (2 ^ 52 + a % 2 ^ 52).log2 = 52 := by
        have h1 := (Nat.log2_lt (n := 2 ^ 52 + a % 2 ^ 52) (k := 53) (by omega)).2 (by omega)
        have h2 := (Nat.le_log2 (n := 2 ^ 52 + a % 2 ^ 52) (k := 52) (by omega)).2 (by omega)
        omega
      rw [nearest_keep _ _ (by omega) (by rw [hm, e1, e2]; omega), e2, e3, e4, word_false]
      omega
    · split at h <;> cases h
theorem read_zz : FloatKind.f64.format.read 0 = .number false 0 (-1074) := by decide +kernel
theorem zero_add64 {a : Nat} (h : Nng a) : fadd .f64 0 a = a := by
  unfold fadd
  have key : FloatKind.f64.format.add 0 a = some a := by
    unfold Format.add
    rw [read_zz]
    rcases h.rd with ⟨m, i, e1, hi⟩ | ⟨e1, hx⟩ <;> rw [e1]
    · have hb : min (-1074) i = -1074 := by omega
      show some (FloatKind.f64.format.write (.number _ _ (min (-1074) i))) = some a
      rw [hb]
      have e0 : signed false 0 ((-1074 : Int) - -1074).toNat = 0 := by rw [signed_f]; simp
      rw [e0, signed_f, Int.zero_add]
      have : (if ((m * 2 ^ (i - -1074).toNat : Nat) : Int) = 0 then (false && false) else decide (((m * 2 ^ (i - -1074).toNat : Nat) : Int) < 0)) = false := by
        split
        · rfl
        · rw [decide_eq_false_iff_not]; omega
      rw [this, Int.natAbs_natCast]
      show some (FloatKind.f64.format.nearest false (m * 2 ^ (i - -1074).toNat) (-1074)) = some a
      rw [scale_eq _ false (m := m) (p := i) (i - -1074).toNat rfl (by omega), back64 h.lt e1]
    · show some (FloatKind.f64.format.word false FloatKind.f64.format.infRung) = some a
      rw [word_false, f64_consts.2.2.2, hx]
  rw [key, Option.getD_some, h.cn]
theorem nn_order {a : Nat} (h : Nng a) : (FloatKind.f64.format.order a 0 == some .gt || FloatKind.f64.format.order a 0 == some .eq) = true := by
  rcases h.rd with ⟨m, i, e1, hi⟩ | ⟨e1, hx⟩
  · rw [order_read e1 read_zz, order_number, signed_f, signed_f, Nat.zero_mul]
    by_cases hz : m * 2 ^ (i - min i (-1074)).toNat = 0
    · rw [hz]; decide
    · have : compare (((m * 2 ^ (i - min i (-1074)).toNat : Nat) : Int)) ((0 : Nat) : Int) = .gt := by
        rw [Int.compare_eq_gt]; omega
      rw [this]; decide
  · rw [order_read e1 read_zz]; decide
end Go.Sx
/- What functions of this seat's program compute, told in words (a predicate over heaps for each), and the proofs that the words are no more than the code's own weakest precondition. -/
namespace Go.Sx
open Go.Proofs
set_option linter.unusedVariables false
set_option maxRecDepth 100000

def impl_BlockOfRoom.S (x_0 : Array Value) (in_1 : Array Value) (Post : Value → Heap → Prop) (h : Heap) : Prop :=
    ALC x_0 T_impl_Room (fun g1 h2 =>
    ALC in_1 T_impl_Block (fun g3 h4 =>
    ALC ⟨Z_impl_Room⟩ T_impl_Room (fun g5 h6 =>
    ALC ⟨Z_impl_Block⟩ T_impl_Block (fun g7 h8 =>
    LDA 47 h8 ⟨g1, 0, none⟩ fun a9 =>
    CALL prg f_impl_ValidRoom #[.agg a9] (fun q10 h11 =>
    asB q10 fun b12 =>
    BIF (!b12) (
    STA 47 h11 ⟨g5, 0, none⟩ (⟨[.slice none 0 0, .int .i64 (0 : Int), .slice none 0 0, .slice none 0 0, .int .i64 (0 : Int), .float .f32 0, .slice none 0 0, .int .i64 (0 : Int), .float .f32 0, .slice none 0 0, .int .i64 (0 : Int), .slice none 0 0, .int .i64 (0 : Int), .slice none 0 0, .int .i64 (0 : Int), .slice none 0 0, .int .i64 (0 : Int), .int .i64 (0 : Int), .float .f32 0, .float .f32 0, .float .f32 0, .float .f32 0, .float .f32 0, .int .i64 (0 : Int), .float .f32 0, .float .f32 0, .float .f32 0, .float .f32 0, .float .f32 0, .int .i64 (0 : Int), .float .f32 0, .float .f32 0, .float .f32 0, .float .f32 0, .float .f32 0, .int .i64 (0 : Int), .float .f32 0, .float .f32 0, .float .f32 0, .float .f32 0, .float .f32 0, .float .f32 0, .float .f32 0, .float .f32 0, .float .f32 0, .float .f32 0, .float .f32 0]⟩ : Array Value) fun h13 =>
    STA 16 h13 ⟨g7, 0, none⟩ (⟨[.float .f32 0, .float .f32 0, .float .f32 0, .float .f32 0, .float .f32 0, .float .f32 0, .float .f32 0, .float .f32 0, .float .f32 0, .float .f32 0, .float .f32 0, .float .f32 0, .float .f32 0, .float .f32 0, .float .f32 0, .float .f32 0]⟩ : Array Value) fun h14 =>
    LDA 47 h14 ⟨g5, 0, none⟩ fun a15 =>
    LDA 16 h14 ⟨g7, 0, none⟩ fun a16 =>
    Post (.tuple ⟨[.agg a15, .agg a16, .int .i64 (1 : Int)]⟩) h14) (
    LDA 47 h11 ⟨g1, 0, none⟩ fun a17 =>
    CALL prg f_impl_Room_clone #[.agg a17] (fun q18 h19 =>
    asA q18 fun a20 =>
    STA 47 h19 ⟨g1, 0, none⟩ a20 fun h21 =>
    CALL prg f_impl_made #[.func (.func 73) #[] #[.pointer (some ⟨g1, 0, none⟩), .pointer (some ⟨g3, 0, none⟩)]] (fun q22 h23 =>
    asA q22 fun a24 =>
    ALC ⟨Z_impl_Block⟩ T_impl_Block (fun g25 h26 =>
    STA 16 h26 ⟨g25, 0, none⟩ a24 fun h27 =>
    LDA 47 h27 ⟨g1, 0, none⟩ fun a28 =>
    LDA 16 h27 ⟨g25, 0, none⟩ fun a29 =>
    STA 47 h27 ⟨g5, 0, none⟩ a28 fun h30 =>
    PIN h27 ⟨g25, 0, none⟩ 16 h30 <|
    STA 16 h30 ⟨g7, 0, none⟩ a29 fun h31 =>
    LDA 47 h31 ⟨g5, 0, none⟩ fun a32 =>
    LDA 16 h31 ⟨g7, 0, none⟩ fun a33 =>
    Post (.tuple ⟨[.agg a32, .agg a33, .int .i64 (0 : Int)]⟩) h31) h23) h21) h11)) h8) h6) h4) h2) h
noncomputable def impl_BlockOfRoom.code : Code := (Tryz.f22.body).getD .skip
theorem impl_BlockOfRoom.call {x_0 : Array Value} {in_1 : Array Value} {Post : Value → Heap → Prop} {h : Heap} (H : impl_BlockOfRoom.S x_0 in_1 Post h) : CALL prg f_impl_BlockOfRoom #[.agg x_0, .agg in_1] Post h :=
  fn_call tau_ok mixed (c := impl_BlockOfRoom.code) (Λ := lookL []) Tryz.func22 (by kernel_rfl) (by kernel_rfl)
    (Rq.free (by kernel_rfl))
    (Eq.mp (by kernel_rfl) H)

def impl_BlockOfRoom_c1.S (i_0 : Int) (t1 : Addr) (t2 : Addr) (Post : Value → Heap → Prop) (h : Heap) : Prop :=
    IDX i_0 16 <|
    oF .f32 (cell h ((Addr.add t2 ((Int.toNat i_0) * 1)))) fun r1 =>
    CALL prg f_p_impl_Room_step #[.pointer (some t1), .float .f32 r1] (fun q2 h3 =>
    asF .f32 q2 fun r4 =>
    Post (.float .f32 r4) h3) h
noncomputable def impl_BlockOfRoom_c1.code : Code := (Tryz.f73.body).getD .skip
theorem impl_BlockOfRoom_c1.call {i_0 : Int} {t1 : Addr} {t2 : Addr} {Post : Value → Heap → Prop} {h : Heap} (H : impl_BlockOfRoom_c1.S i_0 t1 t2 Post h) : CALL prg f_impl_BlockOfRoom_c1 #[.int .i64 i_0, .pointer (some t1), .pointer (some t2)] Post h :=
  fn_call tau_ok mixed (c := impl_BlockOfRoom_c1.code) (Λ := lookL []) Tryz.func73 (by kernel_rfl) (by kernel_rfl)
    (Rq.free (by kernel_rfl))
    (Eq.mp (by kernel_rfl) H)

end Go.Sx
/- What functions of this seat's program compute, told in words (a predicate over heaps for each), and the proofs that the words are no more than the code's own weakest precondition. -/
namespace Go.Sx
open Go.Proofs
set_option linter.unusedVariables false
set_option maxRecDepth 100000

def impl_EnergyOfRoom.B8 (N5 : (Nat × Array Value × Int) → Heap → Prop) (Post : Value → Heap → Prop) (N8 : (Nat × Array Value × Int × Option Addr × Nat × Nat × Int × Int) → Heap → Prop) : Nat × Array Value × Int × Option Addr × Nat × Nat × Int × Int → Heap → Prop
  | (sum_4, t13, t14, t18b, t18l, t18c, t19, t20), h =>
    BIF (decide (t20 < t19)) (
    IDXS t18b t20 t18l fun p14 =>
    oF .f32 (cell h ((Addr.add p14 ((Int.toNat t20) * 1)))) fun r15 =>
    FFC .f32 r15 .f64 fun r16 =>
    FFC .f32 r15 .f64 fun r17 =>
    FOP .f64 (FloatKind.f64.format.mul r16 r17) fun r18 =>
    FOP .f64 (FloatKind.f64.format.add sum_4 r18) fun r19 =>
    N8 (r19, t13, t14, t18b, t18l, t18c, t19, ((IntKind.i64.wrap (t20 + (1 : Int))))) h) (
    N5 (sum_4, t13, ((IntKind.i64.wrap (t14 + (1 : Int))))) h)
def impl_EnergyOfRoom.g8 (fr : Frame) : Nat × Array Value × Int × Option Addr × Nat × Nat × Int × Int := ((gF (lget fr 4)), (gA (lget fr 13)), (gI (lget fr 14)), (gLb (lget fr 18)), (gLl (lget fr 18)), (gLc (lget fr 18)), (gI (lget fr 19)), (gI (lget fr 20)))
def impl_EnergyOfRoom.l8 (N5 : (Nat × Array Value × Int) → Heap → Prop) (Post : Value → Heap → Prop) : Frame → Heap → Prop := fun fr h => GRD (shape (kds 34 [(4, .f .f64), (13, .a), (14, .i .i64), (18, .l), (19, .i .i64), (20, .i .i64)]) fr) (LOOP (impl_EnergyOfRoom.B8 N5 Post) (impl_EnergyOfRoom.g8 fr) h)
def impl_EnergyOfRoom.B5 (Post : Value → Heap → Prop) (N5 : (Nat × Array Value × Int) → Heap → Prop) : Nat × Array Value × Int → Heap → Prop
  | (sum_4, t13, t14), h =>
    BIF ((decide (t14 < (4 : Int)))) (
    IDX t14 4 <|
    ALC ⟨Z_impl_Ring⟩ T_impl_Ring (fun g8 h9 =>
    STA 2 h9 ⟨g8, 0, none⟩ ((Array.extract t13 ((Int.toNat t14) * 2) (((Int.toNat t14) * 2) + 2))) fun h10 =>
    oL (cell h10 ⟨g8, 0, none⟩) fun l11b l11l l11c =>
    LOOP (impl_EnergyOfRoom.B8 N5 Post) (sum_4, t13, t14, l11b, l11l, l11c, (l11l : Int), (0 : Int)) h10) h) (
    Post (.tuple ⟨[.float .f64 sum_4, .int .i64 (0 : Int)]⟩) h)
def impl_EnergyOfRoom.g5 (fr : Frame) : Nat × Array Value × Int := ((gF (lget fr 4)), (gA (lget fr 13)), (gI (lget fr 14)))
def impl_EnergyOfRoom.l5 (Post : Value → Heap → Prop) : Frame → Heap → Prop := fun fr h => GRD (shape (kds 34 [(4, .f .f64), (13, .a), (14, .i .i64)]) fr) (LOOP (impl_EnergyOfRoom.B5 Post) (impl_EnergyOfRoom.g5 fr) h)
def impl_EnergyOfRoom.S (x_0 : Array Value) (Post : Value → Heap → Prop) (h : Heap) : Prop :=
    ALC x_0 T_impl_Room (fun g1 h2 =>
    LDA 47 h2 ⟨g1, 0, none⟩ fun a3 =>
    CALL prg f_impl_ValidRoom #[.agg a3] (fun q4 h5 =>
    asB q4 fun b6 =>
    BIF (!b6) (
    Post (.tuple ⟨[.float .f64 0, .int .i64 (1 : Int)]⟩) h5) (
    LDA 8 h5 ⟨g1, 9, none⟩ fun a7 =>
    LOOP (impl_EnergyOfRoom.B5 Post) (0, a7, (0 : Int)) h5)) h2) h
noncomputable def impl_EnergyOfRoom.code : Code := (Tryz.f27.body).getD .skip
theorem impl_EnergyOfRoom.call {x_0 : Array Value} {Post : Value → Heap → Prop} {h : Heap} (H : impl_EnergyOfRoom.S x_0 Post h) : CALL prg f_impl_EnergyOfRoom #[.agg x_0] Post h :=
  fn_call tau_ok mixed (c := impl_EnergyOfRoom.code) (Λ := lookL [(1000005, impl_EnergyOfRoom.l5 Post)]) Tryz.func27 (by kernel_rfl) (by kernel_rfl)
    (Rq.seq (by kernel_rfl) (Rq.free (by kernel_rfl)) (Rq.seq (by kernel_rfl) (Rq.free (by kernel_rfl)) (Rq.seq (by kernel_rfl) (Rq.free (by kernel_rfl)) (Rq.seq (by kernel_rfl) (Rq.seq (by kernel_rfl) (Rq.free (by kernel_rfl)) (Rq.block (Rq.loop (impl_EnergyOfRoom.l5 Post) (by kernel_rfl) (segL (g := impl_EnergyOfRoom.g5) tau_ok mixed (Λ := fun N5 => lookL [(1000008, impl_EnergyOfRoom.l8 N5 Post)]) (fun _ _ _ => by kernel_rfl) (fun N5 => (Rq.seq (by kernel_rfl) (Rq.free (by kernel_rfl)) (Rq.seq (by kernel_rfl) (Rq.free (by kernel_rfl)) (Rq.seq (by kernel_rfl) (Rq.block (Rq.seq (by kernel_rfl) (Rq.free (by kernel_rfl)) (Rq.seq (by kernel_rfl) (Rq.free (by kernel_rfl)) (Rq.block (Rq.loop (impl_EnergyOfRoom.l8 N5 Post) (by kernel_rfl) (segL (g := impl_EnergyOfRoom.g8) tau_ok mixed (Λ := fun N8 => lookL []) (fun _ _ _ => by kernel_rfl) (fun N8 => (Rq.free (by kernel_rfl))))))))) (Rq.free (by kernel_rfl)))))))))) (Rq.free (by kernel_rfl))))))
    (Eq.mp (by kernel_rfl) H)

def spec_EnergyOfRoom.B9 (N6 : (Addr × Nat × Bool × Int) → Heap → Prop) (Post : Value → Heap → Prop) (N9 : (Addr × Nat × Bool × Int × Int) → Heap → Prop) : Addr × Nat × Bool × Int × Int → Heap → Prop
  | (x_1, sum_4, first_5, i_6, k_7), h =>
    IDX i_6 4 <|
    oL (cell h ((Addr.add (Addr.add x_1 9) ((Int.toNat i_6) * 2)))) fun l6b l6l l6c =>
    BIF ((decide (k_7 < (l6l : Int)))) (
    IDX i_6 4 <|
    oL (cell h ((Addr.add (Addr.add x_1 9) ((Int.toNat i_6) * 2)))) fun l9b l9l l9c =>
    IDXS l9b k_7 l9l fun p10 =>
    oF .f32 (cell h ((Addr.add p10 ((Int.toNat k_7) * 1)))) fun r11 =>
    FFC .f32 r11 .f64 fun r12 =>
    BIF first_5 (
    FOP .f64 (FloatKind.f64.format.mul r12 r12) fun r13 =>
    N9 (x_1, r13, false, i_6, ((IntKind.i64.wrap (k_7 + (1 : Int))))) h) (
    FOP .f64 (FloatKind.f64.format.mul r12 r12) fun r14 =>
    FOP .f64 (FloatKind.f64.format.add sum_4 r14) fun r15 =>
    N9 (x_1, r15, false, i_6, ((IntKind.i64.wrap (k_7 + (1 : Int))))) h)) (
    N6 (x_1, sum_4, first_5, ((IntKind.i64.wrap (i_6 + (1 : Int))))) h)
def spec_EnergyOfRoom.g9 (fr : Frame) : Addr × Nat × Bool × Int × Int := ((gP (lget fr 1)), (gF (lget fr 4)), (gB (lget fr 5)), (gI (lget fr 6)), (gI (lget fr 7)))
def spec_EnergyOfRoom.l9 (N6 : (Addr × Nat × Bool × Int) → Heap → Prop) (Post : Value → Heap → Prop) : Frame → Heap → Prop := fun fr h => GRD (shape (kds 44 [(1, .p), (4, .f .f64), (5, .b), (6, .i .i64), (7, .i .i64)]) fr) (LOOP (spec_EnergyOfRoom.B9 N6 Post) (spec_EnergyOfRoom.g9 fr) h)
def spec_EnergyOfRoom.B6 (Post : Value → Heap → Prop) (N6 : (Addr × Nat × Bool × Int) → Heap → Prop) : Addr × Nat × Bool × Int → Heap → Prop
  | (x_1, sum_4, first_5, i_6), h =>
    BIF ((decide (i_6 < (4 : Int)))) (
    LOOP (spec_EnergyOfRoom.B9 N6 Post) (x_1, sum_4, first_5, i_6, (0 : Int)) h) (
    Post (.tuple ⟨[.float .f64 sum_4, .int .i64 (0 : Int)]⟩) h)
def spec_EnergyOfRoom.g6 (fr : Frame) : Addr × Nat × Bool × Int := ((gP (lget fr 1)), (gF (lget fr 4)), (gB (lget fr 5)), (gI (lget fr 6)))
def spec_EnergyOfRoom.l6 (Post : Value → Heap → Prop) : Frame → Heap → Prop := fun fr h => GRD (shape (kds 44 [(1, .p), (4, .f .f64), (5, .b), (6, .i .i64)]) fr) (LOOP (spec_EnergyOfRoom.B6 Post) (spec_EnergyOfRoom.g6 fr) h)
def spec_EnergyOfRoom.S (x_0 : Array Value) (Post : Value → Heap → Prop) (h : Heap) : Prop :=
    ALC x_0 T_impl_Room (fun g1 h2 =>
    CALL prg f_spec_l06Ok #[.pointer (some ⟨g1, 0, none⟩)] (fun q3 h4 =>
    asB q3 fun b5 =>
    BIF (!b5) (
    Post (.tuple ⟨[.float .f64 0, .int .i64 (1 : Int)]⟩) h4) (
    LOOP (spec_EnergyOfRoom.B6 Post) (⟨g1, 0, none⟩, 0, true, (0 : Int)) h4)) h2) h
noncomputable def spec_EnergyOfRoom.code : Code := (Tryz.f28.body).getD .skip
theorem spec_EnergyOfRoom.call {x_0 : Array Value} {Post : Value → Heap → Prop} {h : Heap} (H : spec_EnergyOfRoom.S x_0 Post h) : CALL prg f_spec_EnergyOfRoom #[.agg x_0] Post h :=
  fn_call tau_ok mixed (c := spec_EnergyOfRoom.code) (Λ := lookL [(1000006, spec_EnergyOfRoom.l6 Post)]) Tryz.func28 (by kernel_rfl) (by kernel_rfl)
    (Rq.seq (by kernel_rfl) (Rq.free (by kernel_rfl)) (Rq.seq (by kernel_rfl) (Rq.free (by kernel_rfl)) (Rq.seq (by kernel_rfl) (Rq.free (by kernel_rfl)) (Rq.seq (by kernel_rfl) (Rq.free (by kernel_rfl)) (Rq.seq (by kernel_rfl) (Rq.seq (by kernel_rfl) (Rq.free (by kernel_rfl)) (Rq.block (Rq.loop (spec_EnergyOfRoom.l6 Post) (by kernel_rfl) (segL (g := spec_EnergyOfRoom.g6) tau_ok mixed (Λ := fun N6 => lookL [(1000009, spec_EnergyOfRoom.l9 N6 Post)]) (fun _ _ _ => by kernel_rfl) (fun N6 => (Rq.seq (by kernel_rfl) (Rq.free (by kernel_rfl)) (Rq.seq (by kernel_rfl) (Rq.block (Rq.seq (by kernel_rfl) (Rq.free (by kernel_rfl)) (Rq.block (Rq.loop (spec_EnergyOfRoom.l9 N6 Post) (by kernel_rfl) (segL (g := spec_EnergyOfRoom.g9) tau_ok mixed (Λ := fun N9 => lookL []) (fun _ _ _ => by kernel_rfl) (fun N9 => (Rq.free (by kernel_rfl)))))))) (Rq.free (by kernel_rfl))))))))) (Rq.free (by kernel_rfl)))))))
    (Eq.mp (by kernel_rfl) H)

def slices_EqualFunc_sl_impl_Tap_sl_impl_Tap_impl_Tap_impl_Tap.B4 (Post : Value → Heap → Prop) (N4 : (Option Addr × Nat × Nat × Value × Option Addr × Nat × Nat × Int × Int) → Heap → Prop) : Option Addr × Nat × Nat × Value × Option Addr × Nat × Nat × Int × Int → Heap → Prop
  | (s2_1b, s2_1l, s2_1c, eq_2, t15b, t15l, t15c, t16, t17), h =>
    BIF (decide (t17 < t16)) (
    IDXS t15b t17 t15l fun p7 =>
    LDA 2 h ((Addr.add p7 ((Int.toNat t17) * 2))) fun a8 =>
    ALC ⟨Z_impl_Tap⟩ T_impl_Tap (fun g9 h10 =>
    STA 2 h10 ⟨g9, 0, none⟩ a8 fun h11 =>
    IDXS s2_1b t17 s2_1l fun p12 =>
    LDA 2 h11 ((Addr.add p12 ((Int.toNat t17) * 2))) fun a13 =>
    ALC ⟨Z_impl_Tap⟩ T_impl_Tap (fun g14 h15 =>
    STA 2 h15 ⟨g14, 0, none⟩ a13 fun h16 =>
    LDA 2 h16 ⟨g9, 0, none⟩ fun a17 =>
    LDA 2 h16 ⟨g14, 0, none⟩ fun a18 =>
    CALLD prg eq_2 #[.agg a17, .agg a18] (fun q19 h20 =>
    asB q19 fun b21 =>
    BIF (!b21) (
    Post (.bool false) h20) (
    N4 (s2_1b, s2_1l, s2_1c, eq_2, t15b, t15l, t15c, t16, ((IntKind.i64.wrap (t17 + (1 : Int))))) h20)) h16) h11) h) (
    Post (.bool true) h)
def slices_EqualFunc_sl_impl_Tap_sl_impl_Tap_impl_Tap_impl_Tap.g4 (fr : Frame) : Option Addr × Nat × Nat × Value × Option Addr × Nat × Nat × Int × Int := ((gLb (lget fr 1)), (gLl (lget fr 1)), (gLc (lget fr 1)), (lget fr 2), (gLb (lget fr 15)), (gLl (lget fr 15)), (gLc (lget fr 15)), (gI (lget fr 16)), (gI (lget fr 17)))
def slices_EqualFunc_sl_impl_Tap_sl_impl_Tap_impl_Tap_impl_Tap.l4 (Post : Value → Heap → Prop) : Frame → Heap → Prop := fun fr h => GRD (shape (kds 32 [(1, .l), (2, .v), (15, .l), (16, .i .i64), (17, .i .i64)]) fr) (LOOP (slices_EqualFunc_sl_impl_Tap_sl_impl_Tap_impl_Tap_impl_Tap.B4 Post) (slices_EqualFunc_sl_impl_Tap_sl_impl_Tap_impl_Tap_impl_Tap.g4 fr) h)
def slices_EqualFunc_sl_impl_Tap_sl_impl_Tap_impl_Tap_impl_Tap.S (s1_0b : Option Addr) (s1_0l s1_0c : Nat) (s2_1b : Option Addr) (s2_1l s2_1c : Nat) (eq_2 : Value) (Post : Value → Heap → Prop) (h : Heap) : Prop :=
    BIF ((s1_0l : Int) != (s2_1l : Int)) (
    Post (.bool false) h) (
    LOOP (slices_EqualFunc_sl_impl_Tap_sl_impl_Tap_impl_Tap_impl_Tap.B4 Post) (s2_1b, s2_1l, s2_1c, eq_2, s1_0b, s1_0l, s1_0c, (s1_0l : Int), (0 : Int)) h)
noncomputable def slices_EqualFunc_sl_impl_Tap_sl_impl_Tap_impl_Tap_impl_Tap.code : Code := (Tryz.f91.body).getD .skip
theorem slices_EqualFunc_sl_impl_Tap_sl_impl_Tap_impl_Tap_impl_Tap.call {s1_0b : Option Addr} {s1_0l s1_0c : Nat} {s2_1b : Option Addr} {s2_1l s2_1c : Nat} {eq_2 : Value} {Post : Value → Heap → Prop} {h : Heap} (H : slices_EqualFunc_sl_impl_Tap_sl_impl_Tap_impl_Tap_impl_Tap.S s1_0b s1_0l s1_0c s2_1b s2_1l s2_1c eq_2 Post h) : CALL prg f_slices_EqualFunc_sl_impl_Tap_sl_impl_Tap_impl_Tap_impl_Tap #[.slice s1_0b s1_0l s1_0c, .slice s2_1b s2_1l s2_1c, eq_2] Post h :=
  fn_call tau_ok mixed (c := slices_EqualFunc_sl_impl_Tap_sl_impl_Tap_impl_Tap_impl_Tap.code) (Λ := lookL [(1000004, slices_EqualFunc_sl_impl_Tap_sl_impl_Tap_impl_Tap_impl_Tap.l4 Post)]) Tryz.func91 (by kernel_rfl) (by kernel_rfl)
    (Rq.seq (by kernel_rfl) (Rq.free (by kernel_rfl)) (Rq.seq (by kernel_rfl) (Rq.free (by kernel_rfl)) (Rq.seq (by kernel_rfl) (Rq.seq (by kernel_rfl) (Rq.free (by kernel_rfl)) (Rq.block (Rq.loop (slices_EqualFunc_sl_impl_Tap_sl_impl_Tap_impl_Tap_impl_Tap.l4 Post) (by kernel_rfl) (segL (g := slices_EqualFunc_sl_impl_Tap_sl_impl_Tap_impl_Tap_impl_Tap.g4) tau_ok mixed (Λ := fun N4 => lookL []) (fun _ _ _ => by kernel_rfl) (fun N4 => (Rq.free (by kernel_rfl))))))) (Rq.free (by kernel_rfl)))))
    (Eq.mp (by kernel_rfl) H)

def impl_SameRoom_c1.S (t_0 : Array Value) (u_1 : Array Value) (Post : Value → Heap → Prop) (h : Heap) : Prop :=
    ALC t_0 T_impl_Tap (fun g1 h2 =>
    ALC u_1 T_impl_Tap (fun g3 h4 =>
    oI .i64 (cell h4 ⟨g1, 0, none⟩) fun n5 =>
    oI .i64 (cell h4 ⟨g3, 0, none⟩) fun n6 =>
    BIF (n5 == n6) (
    oF .f32 (cell h4 ⟨g1, 1, none⟩) fun r7 =>
    oF .f32 (cell h4 ⟨g3, 1, none⟩) fun r8 =>
    CALL prg f_impl_SameSample #[.float .f32 r7, .float .f32 r8] (fun q9 h10 =>
    asB q9 fun b11 =>
    Post (.bool b11) h10) h4) (
    Post (.bool false) h4)) h2) h
noncomputable def impl_SameRoom_c1.code : Code := (Tryz.f92.body).getD .skip
theorem impl_SameRoom_c1.call {t_0 : Array Value} {u_1 : Array Value} {Post : Value → Heap → Prop} {h : Heap} (H : impl_SameRoom_c1.S t_0 u_1 Post h) : CALL prg f_impl_SameRoom_c1 #[.agg t_0, .agg u_1] Post h :=
  fn_call tau_ok mixed (c := impl_SameRoom_c1.code) (Λ := lookL []) Tryz.func92 (by kernel_rfl) (by kernel_rfl)
    (Rq.free (by kernel_rfl))
    (Eq.mp (by kernel_rfl) H)

def impl_SameRoom.B8 (Post : Value → Heap → Prop) (N8 : (Addr × Addr × Int) → Heap → Prop) : Addr × Addr × Int → Heap → Prop
  | (x_2, y_3, t38), h =>
    BIF ((decide (t38 < (4 : Int)))) (
    IDX t38 4 <|
    LDA 2 h ((Addr.add (Addr.add x_2 9) ((Int.toNat t38) * 2))) fun a15 =>
    IDX t38 4 <|
    LDA 2 h ((Addr.add (Addr.add y_3 9) ((Int.toNat t38) * 2))) fun a16 =>
    CALL prg f_impl_SameRing #[.agg a15, .agg a16] (fun q17 h18 =>
    asB q17 fun b19 =>
    BIF (!b19) (
    Post (.bool false) h18) (
    IDX t38 4 <|
    LDA 6 h18 ((Addr.add (Addr.add x_2 17) ((Int.toNat t38) * 6))) fun a20 =>
    IDX t38 4 <|
    LDA 6 h18 ((Addr.add (Addr.add y_3 17) ((Int.toNat t38) * 6))) fun a21 =>
    CALL prg f_impl_SameFilter #[.agg a20, .agg a21] (fun q22 h23 =>
    asB q22 fun b24 =>
    BIF (!b24) (
    Post (.bool false) h23) (
    IDX t38 4 <|
    oF .f32 (cell h23 ((Addr.add (Addr.add x_2 41) ((Int.toNat t38) * 1)))) fun r25 =>
    IDX t38 4 <|
    oF .f32 (cell h23 ((Addr.add (Addr.add y_3 41) ((Int.toNat t38) * 1)))) fun r26 =>
    CALL prg f_impl_SameSample #[.float .f32 r25, .float .f32 r26] (fun q27 h28 =>
    asB q27 fun b29 =>
    BIF (!b29) (
    Post (.bool false) h28) (
    N8 (x_2, y_3, ((IntKind.i64.wrap (t38 + (1 : Int))))) h28)) h23)) h18)) h) (
    oL (cell h (Addr.add x_2 2)) fun l30b l30l l30c =>
    oL (cell h (Addr.add y_3 2)) fun l31b l31l l31c =>
    CALL prg f_slices_EqualFunc_sl_impl_Tap_sl_impl_Tap_impl_Tap_impl_Tap #[.slice l30b l30l l30c, .slice l31b l31l l31c, .func (.func 92) #[] #[]] (fun q32 h33 =>
    asB q32 fun b34 =>
    BIF b34 (
    LDA 2 h33 x_2 fun a35 =>
    LDA 2 h33 y_3 fun a36 =>
    CALL prg f_impl_SameRing #[.agg a35, .agg a36] (fun q37 h38 =>
    asB q37 fun b39 =>
    BIF b39 (
    oF .f32 (cell h38 (Addr.add x_2 45)) fun r40 =>
    oF .f32 (cell h38 (Addr.add y_3 45)) fun r41 =>
    CALL prg f_impl_SameSample #[.float .f32 r40, .float .f32 r41] (fun q42 h43 =>
    asB q42 fun b44 =>
    BIF b44 (
    oF .f32 (cell h43 (Addr.add x_2 46)) fun r45 =>
    oF .f32 (cell h43 (Addr.add y_3 46)) fun r46 =>
    CALL prg f_impl_SameSample #[.float .f32 r45, .float .f32 r46] (fun q47 h48 =>
    asB q47 fun b49 =>
    Post (.bool b49) h48) h43) (
    Post (.bool false) h43)) h38) (
    Post (.bool false) h38)) h33) (
    Post (.bool false) h33)) h)
def impl_SameRoom.g8 (fr : Frame) : Addr × Addr × Int := ((gP (lget fr 2)), (gP (lget fr 3)), (gI (lget fr 38)))
def impl_SameRoom.l8 (Post : Value → Heap → Prop) : Frame → Heap → Prop := fun fr h => GRD (shape (kds 103 [(2, .p), (3, .p), (38, .i .i64)]) fr) (LOOP (impl_SameRoom.B8 Post) (impl_SameRoom.g8 fr) h)
def impl_SameRoom.B2 (Post : Value → Heap → Prop) (N2 : (Addr × Addr × Int) → Heap → Prop) : Addr × Addr × Int → Heap → Prop
  | (x_2, y_3, t8), h =>
    BIF ((decide (t8 < (2 : Int)))) (
    IDX t8 2 <|
    LDA 2 h ((Addr.add (Addr.add x_2 3) ((Int.toNat t8) * 3))) fun a5 =>
    IDX t8 2 <|
    LDA 2 h ((Addr.add (Addr.add y_3 3) ((Int.toNat t8) * 3))) fun a6 =>
    CALL prg f_impl_SameRing #[.agg a5, .agg a6] (fun q7 h8 =>
    asB q7 fun b9 =>
    BIF (!b9) (
    Post (.bool false) h8) (
    IDX t8 2 <|
    oF .f32 (cell h8 ((Addr.add ((Addr.add (Addr.add x_2 3) ((Int.toNat t8) * 3))) 2))) fun r10 =>
    IDX t8 2 <|
    oF .f32 (cell h8 ((Addr.add ((Addr.add (Addr.add y_3 3) ((Int.toNat t8) * 3))) 2))) fun r11 =>
    CALL prg f_impl_SameSample #[.float .f32 r10, .float .f32 r11] (fun q12 h13 =>
    asB q12 fun b14 =>
    BIF (!b14) (
    Post (.bool false) h13) (
    N2 (x_2, y_3, ((IntKind.i64.wrap (t8 + (1 : Int))))) h13)) h8)) h) (
    LOOP (impl_SameRoom.B8 Post) (x_2, y_3, (0 : Int)) h)
def impl_SameRoom.g2 (fr : Frame) : Addr × Addr × Int := ((gP (lget fr 2)), (gP (lget fr 3)), (gI (lget fr 8)))
def impl_SameRoom.l2 (Post : Value → Heap → Prop) : Frame → Heap → Prop := fun fr h => GRD (shape (kds 103 [(2, .p), (3, .p), (8, .i .i64)]) fr) (LOOP (impl_SameRoom.B2 Post) (impl_SameRoom.g2 fr) h)
def impl_SameRoom.S (x_0 : Array Value) (y_1 : Array Value) (Post : Value → Heap → Prop) (h : Heap) : Prop :=
    ALC x_0 T_impl_Room (fun g1 h2 =>
    ALC y_1 T_impl_Room (fun g3 h4 =>
    LOOP (impl_SameRoom.B2 Post) (⟨g1, 0, none⟩, ⟨g3, 0, none⟩, (0 : Int)) h4) h2) h
noncomputable def impl_SameRoom.code : Code := (Tryz.f33.body).getD .skip
theorem impl_SameRoom.call {x_0 : Array Value} {y_1 : Array Value} {Post : Value → Heap → Prop} {h : Heap} (H : impl_SameRoom.S x_0 y_1 Post h) : CALL prg f_impl_SameRoom #[.agg x_0, .agg y_1] Post h :=
  fn_call tau_ok mixed (c := impl_SameRoom.code) (Λ := lookL [(1000002, impl_SameRoom.l2 Post), (1000008, impl_SameRoom.l8 Post)]) Tryz.func33 (by kernel_rfl) (by kernel_rfl)
    (Rq.seq (by kernel_rfl) (Rq.free (by kernel_rfl)) (Rq.seq (by kernel_rfl) (Rq.seq (by kernel_rfl) (Rq.free (by kernel_rfl)) (Rq.block (Rq.loop (impl_SameRoom.l2 Post) (by kernel_rfl) (segL (g := impl_SameRoom.g2) tau_ok mixed (Λ := fun N2 => lookL []) (fun _ _ _ => by kernel_rfl) (fun N2 => (Rq.free (by kernel_rfl))))))) (Rq.seq (by kernel_rfl) (Rq.seq (by kernel_rfl) (Rq.free (by kernel_rfl)) (Rq.block (Rq.loop (impl_SameRoom.l8 Post) (by kernel_rfl) (segL (g := impl_SameRoom.g8) tau_ok mixed (Λ := fun N8 => lookL []) (fun _ _ _ => by kernel_rfl) (fun N8 => (Rq.free (by kernel_rfl))))))) (Rq.free (by kernel_rfl)))))
    (Eq.mp (by kernel_rfl) H)

end Go.Sx
